/- screen.apply: a move, at a display of one row. -/
import Derived.Test.YtlejgfeoffhjoaaFwLem
import Derived.Test.YtlejgfeoffhjoaaF34a
namespace Go.Proofs.Ytlejgfeoffhjoaa.D
open Go.Fw Go.RowKit

theorem f64 : E.funcs 64 = some Try.f64 := by kernel_rfl
theorem clone64 (a : ByteArray) : Lent E 64 [FS 9 1 0 #[.string a]] [] (.slice (some ⟨0, 0, none⟩) 1 1) [⟨9, true, [.string a]⟩] := by
  refine Lent.of f64 rfl (of_decide_eq_true (by kernel_rfl)) rfl rfl (Nat.zero_le _) rfl rfl rfl ?_
  refine Wp.seq (Wp.text ?_)
  refine kp 2 (.slice none 0 0) ?_
  refine WpOps.nil (thenK_at (Wp.seq (Wp.seq (Wp.text ?_))))
  refine kp 3 (.iface 9 (Value.iface 1 (Value.iface 0 (Value.agg #[Value.string a])))) ?_
  refine kp 4 (.bool false) ?_
  refine WpOps.nil (thenK_at (off' (Wp.skip (thenK_at (Wp.seq (Wp.text ?_))))))
  refine md 5 (.slice (some ⟨0, 0, none⟩) 0 0) (Blk.mk 9 true []) ?_
  refine kp 6 (.iface 9 (Value.iface 1 (Value.iface 0 (Value.agg #[Value.string a])))) ?_
  refine ra 7 (.slice (some ⟨1, 0, none⟩) 1 1) (0) (Blk.mk 9 true [Value.string a]) ?_
  refine kp 2 (.slice (some ⟨1, 0, none⟩) 1 1) ?_
  refine WpOps.nil (thenK_at (Wp.ret ?_))
  refine endK_retn [Value.slice (some (Addr.mk 1 0 none)) 1 1] (Value.slice (some (Addr.mk 1 0 none)) 1 1) (by kernel_rfl) (by kernel_rfl) ?_
  exact ⟨[1], by decide, by kernel_rfl, ⟨⟨_, rfl, .cons (.inl ⟨rfl, rfl⟩) .nil⟩, trivial⟩, .w (.un rfl rfl)⟩
theorem f40 : E.funcs 40 = some Try.f40 := by kernel_rfl
theorem move40 (a b : ByteArray) (i j row col k : Int) (s : ByteArray) : Fun E 40 [.agg #[FS 9 1 0 #[.string a], FS 9 1 0 #[.string b], .int .i64 i, .int .i64 j], .agg #[.int .i64 0, .int .i64 row, .int .i64 col, .int .i64 k, .string s]] (.agg #[FS 9 1 0 #[.string a], FS 9 1 0 #[.string b], .int .i64 row, .int .i64 col]) := by
  refine Fun.of f40 rfl (of_decide_eq_true (by kernel_rfl)) rfl ?_
  have c1 := clone64 a
  have c2 := clone64 b
  refine Wp.seq (Wp.text ?_)
  refine md 2 (.pointer (some ⟨0, 0, none⟩)) (Blk.mk 24 true [Value.iface 9 (Value.iface 1 (Value.iface 0 (Value.agg #[Value.string a]))), Value.iface 9 (Value.iface 1 (Value.iface 0 (Value.agg #[Value.string b]))), Value.int .i64 i, Value.int .i64 j]) ?_
  refine md 3 (.pointer (some ⟨1, 0, none⟩)) (Blk.mk 26 true [Value.int .i64 0, Value.int .i64 row, Value.int .i64 col, Value.int .i64 k, Value.string s]) ?_
  refine md 4 (.pointer (some ⟨2, 0, none⟩)) (Blk.mk 24 true [Value.slice none 0 0, Value.slice none 0 0, Value.int .i64 0, Value.int .i64 0]) ?_
  refine WpOps.nil (thenK_at (Wp.seq ?_))
  refine Wp.region (by kernel_rfl) ?_
  refine kp 11 (.pointer (some ⟨0, 0, none⟩)) ?_
  refine kp 12 (.iface 9 (Value.iface 1 (Value.iface 0 (Value.agg #[Value.string a])))) ?_
  refine kp 13 (.int IntKind.i64 (↑1 : Int)) ?_
  refine kp 14 (.pointer (some ⟨0, 0, none⟩)) ?_
  refine kp 15 (.iface 9 (Value.iface 1 (Value.iface 0 (Value.agg #[Value.string a])))) ?_
  refine kp 16 (.iface 9 (Value.iface 0 (Value.agg #[Value.string a]))) ?_
  refine kp 17 (.string a) ?_
  refine kp 18 (.int IntKind.i64 (↑(ByteArray.size a) : Int)) ?_
  refine kp 5 (.int IntKind.i64 (↑1 : Int)) ?_
  refine kp 6 (.int IntKind.i64 (↑(ByteArray.size a) : Int)) ?_
  refine WpOps.nil (thenK_at (Wp.seq ?_))
  refine Wp.region (by kernel_rfl) ?_
  refine kp 19 (.pointer (some ⟨0, 0, none⟩)) ?_
  refine kp 20 (.iface 9 (Value.iface 1 (Value.iface 0 (Value.agg #[Value.string a])))) ?_
  refine clr 21 64 [Value.iface 9 (Value.iface 1 (Value.iface 0 (Value.agg #[Value.string a])))] ?_
  refine WpCall.lent [] (c1) (by decide) trivial (by kernel_rfl) (Value.slice (some (Addr.mk (List.getD [3] 0 0) 0 none)) 1 1) ([Blk.mk 9 true [Value.string a]]) (.cons (by kernel_rfl) .nil) (by kernel_rfl) (Heap.alloc (Heap.ro (Heap.alloc (Heap.alloc (Heap.alloc Heap.none (Blk.mk 24 true [Value.iface 9 (Value.iface 1 (Value.iface 0 (Value.agg #[Value.string a]))), Value.iface 9 (Value.iface 1 (Value.iface 0 (Value.agg #[Value.string b]))), Value.int IntKind.i64 i, Value.int IntKind.i64 j])) (Blk.mk 26 true [Value.int IntKind.i64 0, Value.int IntKind.i64 row, Value.int IntKind.i64 col, Value.int IntKind.i64 k, Value.string s])) (Blk.mk 24 true [Value.slice none 0 0, Value.slice none 0 0, Value.int IntKind.i64 0, Value.int IntKind.i64 0]))) (Blk.mk 9 true [Value.string a])) (by kernel_rfl) ?_
  refine kp 22 (.pointer (some ⟨0, 1, none⟩)) ?_
  refine kp 23 (.iface 9 (Value.iface 1 (Value.iface 0 (Value.agg #[Value.string b])))) ?_
  refine cl 24 64 [Value.iface 9 (Value.iface 1 (Value.iface 0 (Value.agg #[Value.string b])))] ?_
  refine WpCall.lent [] (c2) (by decide) trivial (by kernel_rfl) (Value.slice (some (Addr.mk (List.getD [4] 0 0) 0 none)) 1 1) ([Blk.mk 9 true [Value.string b]]) (.cons (by kernel_rfl) .nil) (by kernel_rfl) (Heap.alloc (Heap.merge (Heap.alloc (Heap.alloc (Heap.alloc Heap.none (Blk.mk 24 true [Value.iface 9 (Value.iface 1 (Value.iface 0 (Value.agg #[Value.string a]))), Value.iface 9 (Value.iface 1 (Value.iface 0 (Value.agg #[Value.string b]))), Value.int IntKind.i64 i, Value.int IntKind.i64 j])) (Blk.mk 26 true [Value.int IntKind.i64 0, Value.int IntKind.i64 row, Value.int IntKind.i64 col, Value.int IntKind.i64 k, Value.string s])) (Blk.mk 24 true [Value.slice none 0 0, Value.slice none 0 0, Value.int IntKind.i64 0, Value.int IntKind.i64 0])) (Heap.alloc (Heap.ro (Heap.alloc (Heap.alloc (Heap.alloc Heap.none (Blk.mk 24 true [Value.iface 9 (Value.iface 1 (Value.iface 0 (Value.agg #[Value.string a]))), Value.iface 9 (Value.iface 1 (Value.iface 0 (Value.agg #[Value.string b]))), Value.int IntKind.i64 i, Value.int IntKind.i64 j])) (Blk.mk 26 true [Value.int IntKind.i64 0, Value.int IntKind.i64 row, Value.int IntKind.i64 col, Value.int IntKind.i64 k, Value.string s])) (Blk.mk 24 true [Value.slice none 0 0, Value.slice none 0 0, Value.int IntKind.i64 0, Value.int IntKind.i64 0]))) (Blk.mk 9 true [Value.string a]))) (Blk.mk 9 true [Value.string b])) (by kernel_rfl) ?_
  refine kp 25 (.pointer (some ⟨0, 0, none⟩)) ?_
  refine ld (.tuple #[]) (0) (Blk.mk 24 true [Value.slice (some (Addr.mk (List.getD [3] 0 0) 0 none)) 1 1, Value.iface 9 (Value.iface 1 (Value.iface 0 (Value.agg #[Value.string b]))), Value.int .i64 i, Value.int .i64 j]) ?_
  refine kp 26 (.pointer (some ⟨0, 1, none⟩)) ?_
  refine cg0 (.tuple #[]) (Heap.set (Heap.set (Heap.alloc (Heap.merge (Heap.alloc (Heap.alloc (Heap.alloc Heap.none (Blk.mk 24 true [Value.iface 9 (Value.iface 1 (Value.iface 0 (Value.agg #[Value.string a]))), Value.iface 9 (Value.iface 1 (Value.iface 0 (Value.agg #[Value.string b]))), Value.int .i64 i, Value.int .i64 j])) (Blk.mk 26 true [Value.int .i64 0, Value.int .i64 row, Value.int .i64 col, Value.int .i64 k, Value.string s])) (Blk.mk 24 true [Value.slice none 0 0, Value.slice none 0 0, Value.int .i64 0, Value.int .i64 0])) (Heap.alloc (Heap.ro (Heap.alloc (Heap.alloc (Heap.alloc Heap.none (Blk.mk 24 true [Value.iface 9 (Value.iface 1 (Value.iface 0 (Value.agg #[Value.string a]))), Value.iface 9 (Value.iface 1 (Value.iface 0 (Value.agg #[Value.string b]))), Value.int .i64 i, Value.int .i64 j])) (Blk.mk 26 true [Value.int .i64 0, Value.int .i64 row, Value.int .i64 col, Value.int .i64 k, Value.string s])) (Blk.mk 24 true [Value.slice none 0 0, Value.slice none 0 0, Value.int .i64 0, Value.int .i64 0]))) (Blk.mk 9 true [Value.string a]))) (Blk.mk 9 true [Value.string b])) 0 (some (Blk.mk 24 true [Value.slice (some ⟨3, 0, none⟩) 1 1, Value.iface 9 (Value.iface 1 (Value.iface 0 (Value.agg #[Value.string b]))), Value.int .i64 i, Value.int .i64 j]))) 0 (some (Blk.mk 24 true [Value.slice (some ⟨3, 0, none⟩) 1 1, Value.slice (some (Addr.mk (List.getD [4] 0 0) 0 none)) 1 1, Value.int .i64 i, Value.int .i64 j]))) ?_
  refine WpOps.nil (thenK_at (Wp.seq (Wp.text ?_)))
  refine kp 7 (.func (Fn.func 65) #[] #[]) ?_
  refine WpOps.nil (thenK_at (Wp.seq (Wp.seq (Wp.text ?_))))
  refine kp 27 (.pointer (some ⟨1, 0, none⟩)) ?_
  refine kp 28 (.int IntKind.i64 0) ?_
  refine WpOps.nil (thenK_at (Wp.block (Wp.seq (Wp.text ?_))))
  refine kp 30 (.bool true) ?_
  refine kp 29 (.bool true) ?_
  refine WpOps.nil (thenK_at (on' ?_))
  refine Wp.regionT (by kernel_rfl) (by kernel_rfl) ?_
  refine kp 31 (.pointer (some ⟨1, 1, none⟩)) ?_
  refine kp 32 (.int IntKind.i64 row) ?_
  refine kp 33 (.pointer (some ⟨1, 2, none⟩)) ?_
  refine kp 34 (.int IntKind.i64 col) ?_
  refine kp 35 (.pointer (some ⟨0, 2, none⟩)) ?_
  refine cg0 (.tuple #[]) (Heap.set (Heap.set (Heap.set (Heap.alloc (Heap.merge (Heap.alloc (Heap.alloc (Heap.alloc Heap.none (Blk.mk 24 true [Value.iface 9 (Value.iface 1 (Value.iface 0 (Value.agg #[Value.string a]))), Value.iface 9 (Value.iface 1 (Value.iface 0 (Value.agg #[Value.string b]))), Value.int .i64 i, Value.int .i64 j])) (Blk.mk 26 true [Value.int .i64 0, Value.int .i64 row, Value.int .i64 col, Value.int .i64 k, Value.string s])) (Blk.mk 24 true [Value.slice none 0 0, Value.slice none 0 0, Value.int .i64 0, Value.int .i64 0])) (Heap.alloc (Heap.ro (Heap.alloc (Heap.alloc (Heap.alloc Heap.none (Blk.mk 24 true [Value.iface 9 (Value.iface 1 (Value.iface 0 (Value.agg #[Value.string a]))), Value.iface 9 (Value.iface 1 (Value.iface 0 (Value.agg #[Value.string b]))), Value.int .i64 i, Value.int .i64 j])) (Blk.mk 26 true [Value.int .i64 0, Value.int .i64 row, Value.int .i64 col, Value.int .i64 k, Value.string s])) (Blk.mk 24 true [Value.slice none 0 0, Value.slice none 0 0, Value.int .i64 0, Value.int .i64 0]))) (Blk.mk 9 true [Value.string a]))) (Blk.mk 9 true [Value.string b])) 0 (some (Blk.mk 24 true [Value.slice (some ⟨3, 0, none⟩) 1 1, Value.iface 9 (Value.iface 1 (Value.iface 0 (Value.agg #[Value.string b]))), Value.int .i64 i, Value.int .i64 j]))) 0 (some (Blk.mk 24 true [Value.slice (some ⟨3, 0, none⟩) 1 1, Value.slice (some ⟨4, 0, none⟩) 1 1, Value.int .i64 i, Value.int .i64 j]))) 0 (some (Blk.mk 24 true [Value.slice (some ⟨3, 0, none⟩) 1 1, Value.slice (some ⟨4, 0, none⟩) 1 1, Value.int .i64 row, Value.int .i64 j]))) ?_
  refine kp 36 (.pointer (some ⟨0, 3, none⟩)) ?_
  refine ld (.tuple #[]) (0) (Blk.mk 24 true [Value.slice (some ⟨3, 0, none⟩) 1 1, Value.slice (some ⟨4, 0, none⟩) 1 1, Value.int .i64 row, Value.int .i64 col]) ?_
  refine WpOps.nil ?_
  refine ⟨by kernel_rfl, ?_⟩
  refine blockK_norm (thenK_at (Wp.seq (Wp.text ?_)))
  refine kp 123 (.agg #[Value.slice (some ⟨3, 0, none⟩) 1 1, Value.slice (some ⟨4, 0, none⟩) 1 1, Value.int .i64 row, Value.int .i64 col]) ?_
  refine ld (.tuple #[]) (2) (Blk.mk 24 true [Value.slice (some ⟨3, 0, none⟩) 1 1, Value.slice (some ⟨4, 0, none⟩) 1 1, Value.int .i64 row, Value.int .i64 col]) ?_
  refine WpOps.nil (thenK_at (Wp.ret ?_))
  refine endK_retn [Value.agg #[Value.slice (some (Addr.mk 3 0 none)) 1 1, Value.slice (some (Addr.mk 4 0 none)) 1 1, Value.int IntKind.i64 row, Value.int IntKind.i64 col]] (Value.agg #[Value.slice (some (Addr.mk 3 0 none)) 1 1, Value.slice (some (Addr.mk 4 0 none)) 1 1, Value.int IntKind.i64 row, Value.int IntKind.i64 col]) (by kernel_rfl) (by kernel_rfl) ?_
  kernel_rfl
end Go.Proofs.Ytlejgfeoffhjoaa.D
