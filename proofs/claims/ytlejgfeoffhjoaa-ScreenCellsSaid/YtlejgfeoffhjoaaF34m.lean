/- screen.apply: a move, at a display of one row. -/
import Derived.Test.YtlejgfeoffhjoaaFwLem
import Derived.Test.YtlejgfeoffhjoaaF34a
namespace Go.Proofs.Ytlejgfeoffhjoaa.D
open Go.Fw Go.RowKit

theorem f64 : E.funcs 64 = some Try.f64 := by kernel_rfl
theorem clone64 (a : ByteArray) : Lent E 64 [FS 9 1 0 #[.string a]] [] (.slice (some ⟨0, 0, none⟩) 1 1) [⟨9, true, [.string a]⟩] := by
  refine Lent.of f64 rfl (of_decide_eq_true (by kernel_rfl)) rfl rfl (Nat.zero_le _) rfl rfl rfl ?_
  refine Wp.seq ?_
  refine Wp.text ?_
  refine WpOps.keep 2 (Value.slice none 0 0) (by kernel_rfl) (by kernel_rfl) (by kernel_rfl) ?_ (fun cf => (by kernel_rfl))
  refine WpOps.nil ?_
  refine thenK_at ?_
  refine Wp.seq ?_
  refine Wp.seq ?_
  refine Wp.text ?_
  refine WpOps.keep 3 (Value.iface 9 (Value.iface 1 (Value.iface 0 (Value.agg #[Value.string a])))) (by kernel_rfl) (by kernel_rfl) (by kernel_rfl) ?_ (fun cf => (by kernel_rfl))
  refine WpOps.keep 4 (Value.bool false) (by kernel_rfl) (by kernel_rfl) (by kernel_rfl) ?_ (fun cf => (by kernel_rfl))
  refine WpOps.nil ?_
  refine thenK_at ?_
  refine Wp.off (by kernel_rfl) ?_
  refine Wp.skip ?_
  refine thenK_at ?_
  refine Wp.seq ?_
  refine Wp.text ?_
  refine WpOps.made 5 (Value.slice (some (Addr.mk 0 0 none)) 0 0) (Blk.mk 9 true []) (by kernel_rfl) (by kernel_rfl) (by kernel_rfl) ?_ (fun cf => (by kernel_rfl))
  refine WpOps.keep 6 (Value.iface 9 (Value.iface 1 (Value.iface 0 (Value.agg #[Value.string a])))) (by kernel_rfl) (by kernel_rfl) (by kernel_rfl) ?_ (fun cf => (by kernel_rfl))
  refine WpOps.chg 7 (Value.slice (some (Addr.mk 1 0 none)) 1 1) (Heap.alloc (Heap.set (Heap.alloc (heapOf []) (Blk.mk 9 true [])) 0 none) (Blk.mk 9 true [Value.string a])) (by kernel_rfl) (by kernel_rfl) (by kernel_rfl) ?_ (fun cf => (by kernel_rfl))
  refine WpOps.keep 2 (Value.slice (some (Addr.mk 1 0 none)) 1 1) (by kernel_rfl) (by kernel_rfl) (by kernel_rfl) ?_ (fun cf => (by kernel_rfl))
  refine WpOps.nil ?_
  refine thenK_at ?_
  refine Wp.ret ?_
  refine endK_retn [Value.slice (some (Addr.mk 1 0 none)) 1 1] (Value.slice (some (Addr.mk 1 0 none)) 1 1) (by kernel_rfl) (by kernel_rfl) ?_
  exact ⟨[1], by decide, by kernel_rfl, ⟨⟨_, rfl, .cons (.inl ⟨rfl, rfl⟩) .nil⟩, trivial⟩, .w (.un rfl rfl)⟩
theorem f40 : E.funcs 40 = some Try.f40 := by kernel_rfl
theorem move40 (a b : ByteArray) (i j row col k : Int) (s : ByteArray) : Fun E 40 [.agg #[FS 9 1 0 #[.string a], FS 9 1 0 #[.string b], .int .i64 i, .int .i64 j], .agg #[.int .i64 0, .int .i64 row, .int .i64 col, .int .i64 k, .string s]] (.agg #[FS 9 1 0 #[.string a], FS 9 1 0 #[.string b], .int .i64 row, .int .i64 col]) := by
  refine Fun.of f40 rfl (of_decide_eq_true (by kernel_rfl)) rfl ?_
  have c1 := clone64 a
  have c2 := clone64 b
  refine Wp.seq ?_
  refine Wp.text ?_
  refine WpOps.made 2 (Value.pointer (some (Addr.mk 0 0 none))) (Blk.mk 24 true [Value.iface 9 (Value.iface 1 (Value.iface 0 (Value.agg #[Value.string a]))), Value.iface 9 (Value.iface 1 (Value.iface 0 (Value.agg #[Value.string b]))), Value.int IntKind.i64 i, Value.int IntKind.i64 j]) (by kernel_rfl) (by kernel_rfl) (by kernel_rfl) ?_ (fun cf => (by kernel_rfl))
  refine WpOps.made 3 (Value.pointer (some (Addr.mk 1 0 none))) (Blk.mk 26 true [Value.int IntKind.i64 0, Value.int IntKind.i64 row, Value.int IntKind.i64 col, Value.int IntKind.i64 k, Value.string s]) (by kernel_rfl) (by kernel_rfl) (by kernel_rfl) ?_ (fun cf => (by kernel_rfl))
  refine WpOps.made 4 (Value.pointer (some (Addr.mk 2 0 none))) (Blk.mk 24 true [Value.slice none 0 0, Value.slice none 0 0, Value.int IntKind.i64 0, Value.int IntKind.i64 0]) (by kernel_rfl) (by kernel_rfl) (by kernel_rfl) ?_ (fun cf => (by kernel_rfl))
  refine WpOps.nil ?_
  refine thenK_at ?_
  refine Wp.seq ?_
  refine Wp.region (by kernel_rfl) ?_
  refine WpOps.keep 11 (Value.pointer (some (Addr.mk 0 0 none))) (by kernel_rfl) (by kernel_rfl) (by kernel_rfl) ?_ (fun cf => (by kernel_rfl))
  refine WpOps.keep 12 (Value.iface 9 (Value.iface 1 (Value.iface 0 (Value.agg #[Value.string a])))) (by kernel_rfl) (by kernel_rfl) (by kernel_rfl) ?_ (fun cf => (by kernel_rfl))
  refine WpOps.keep 13 (Value.int IntKind.i64 (↑1 : Int)) (by kernel_rfl) (by kernel_rfl) (by kernel_rfl) ?_ (fun cf => (by kernel_rfl))
  refine WpOps.keep 14 (Value.pointer (some (Addr.mk 0 0 none))) (by kernel_rfl) (by kernel_rfl) (by kernel_rfl) ?_ (fun cf => (by kernel_rfl))
  refine WpOps.keep 15 (Value.iface 9 (Value.iface 1 (Value.iface 0 (Value.agg #[Value.string a])))) (by kernel_rfl) (by kernel_rfl) (by kernel_rfl) ?_ (fun cf => (by kernel_rfl))
  refine WpOps.keep 16 (Value.iface 9 (Value.iface 0 (Value.agg #[Value.string a]))) (by kernel_rfl) (by kernel_rfl) (by kernel_rfl) ?_ (fun cf => (by kernel_rfl))
  refine WpOps.keep 17 (Value.string a) (by kernel_rfl) (by kernel_rfl) (by kernel_rfl) ?_ (fun cf => (by kernel_rfl))
  refine WpOps.keep 18 (Value.int IntKind.i64 (↑(ByteArray.size a) : Int)) (by kernel_rfl) (by kernel_rfl) (by kernel_rfl) ?_ (fun cf => (by kernel_rfl))
  refine WpOps.keep 5 (Value.int IntKind.i64 (↑1 : Int)) (by kernel_rfl) (by kernel_rfl) (by kernel_rfl) ?_ (fun cf => (by kernel_rfl))
  refine WpOps.keep 6 (Value.int IntKind.i64 (↑(ByteArray.size a) : Int)) (by kernel_rfl) (by kernel_rfl) (by kernel_rfl) ?_ (fun cf => (by kernel_rfl))
  refine WpOps.nil ?_
  refine thenK_at ?_
  refine Wp.seq ?_
  refine Wp.region (by kernel_rfl) ?_
  refine WpOps.keep 19 (Value.pointer (some (Addr.mk 0 0 none))) (by kernel_rfl) (by kernel_rfl) (by kernel_rfl) ?_ (fun cf => (by kernel_rfl))
  refine WpOps.keep 20 (Value.iface 9 (Value.iface 1 (Value.iface 0 (Value.agg #[Value.string a])))) (by kernel_rfl) (by kernel_rfl) (by kernel_rfl) ?_ (fun cf => (by kernel_rfl))
  refine WpOps.calledro 21 64 [Value.iface 9 (Value.iface 1 (Value.iface 0 (Value.agg #[Value.string a])))] (by kernel_rfl) (by kernel_rfl) (by kernel_rfl) (by kernel_rfl) (fun cf => (by kernel_rfl)) ?_
  refine WpCall.lent [] (c1) (by decide) trivial (by kernel_rfl) (Value.slice (some (Addr.mk (List.getD [3] 0 0) 0 none)) 1 1) ([Blk.mk 9 true [Value.string a]]) (.cons (by kernel_rfl) .nil) (by kernel_rfl) (Heap.alloc (Heap.ro (Heap.alloc (Heap.alloc (Heap.alloc Heap.none (Blk.mk 24 true [Value.iface 9 (Value.iface 1 (Value.iface 0 (Value.agg #[Value.string a]))), Value.iface 9 (Value.iface 1 (Value.iface 0 (Value.agg #[Value.string b]))), Value.int IntKind.i64 i, Value.int IntKind.i64 j])) (Blk.mk 26 true [Value.int IntKind.i64 0, Value.int IntKind.i64 row, Value.int IntKind.i64 col, Value.int IntKind.i64 k, Value.string s])) (Blk.mk 24 true [Value.slice none 0 0, Value.slice none 0 0, Value.int IntKind.i64 0, Value.int IntKind.i64 0]))) (Blk.mk 9 true [Value.string a])) (by kernel_rfl) ?_
  refine WpOps.keep 22 (Value.pointer (some (Addr.mk 0 1 none))) (by kernel_rfl) (by kernel_rfl) (by kernel_rfl) ?_ (fun cf => (by kernel_rfl))
  refine WpOps.keep 23 (Value.iface 9 (Value.iface 1 (Value.iface 0 (Value.agg #[Value.string b])))) (by kernel_rfl) (by kernel_rfl) (by kernel_rfl) ?_ (fun cf => (by kernel_rfl))
  refine WpOps.called 24 64 [Value.iface 9 (Value.iface 1 (Value.iface 0 (Value.agg #[Value.string b])))] (by kernel_rfl) (by kernel_rfl) (by kernel_rfl) (by kernel_rfl) (fun cf => (by kernel_rfl)) ?_
  refine WpCall.lent [] (c2) (by decide) trivial (by kernel_rfl) (Value.slice (some (Addr.mk (List.getD [4] 0 0) 0 none)) 1 1) ([Blk.mk 9 true [Value.string b]]) (.cons (by kernel_rfl) .nil) (by kernel_rfl) (Heap.alloc (Heap.merge (Heap.alloc (Heap.alloc (Heap.alloc Heap.none (Blk.mk 24 true [Value.iface 9 (Value.iface 1 (Value.iface 0 (Value.agg #[Value.string a]))), Value.iface 9 (Value.iface 1 (Value.iface 0 (Value.agg #[Value.string b]))), Value.int IntKind.i64 i, Value.int IntKind.i64 j])) (Blk.mk 26 true [Value.int IntKind.i64 0, Value.int IntKind.i64 row, Value.int IntKind.i64 col, Value.int IntKind.i64 k, Value.string s])) (Blk.mk 24 true [Value.slice none 0 0, Value.slice none 0 0, Value.int IntKind.i64 0, Value.int IntKind.i64 0])) (Heap.alloc (Heap.ro (Heap.alloc (Heap.alloc (Heap.alloc Heap.none (Blk.mk 24 true [Value.iface 9 (Value.iface 1 (Value.iface 0 (Value.agg #[Value.string a]))), Value.iface 9 (Value.iface 1 (Value.iface 0 (Value.agg #[Value.string b]))), Value.int IntKind.i64 i, Value.int IntKind.i64 j])) (Blk.mk 26 true [Value.int IntKind.i64 0, Value.int IntKind.i64 row, Value.int IntKind.i64 col, Value.int IntKind.i64 k, Value.string s])) (Blk.mk 24 true [Value.slice none 0 0, Value.slice none 0 0, Value.int IntKind.i64 0, Value.int IntKind.i64 0]))) (Blk.mk 9 true [Value.string a]))) (Blk.mk 9 true [Value.string b])) (by kernel_rfl) ?_
  refine WpOps.keep 25 (Value.pointer (some (Addr.mk 0 0 none))) (by kernel_rfl) (by kernel_rfl) (by kernel_rfl) ?_ (fun cf => (by kernel_rfl))
  refine WpOps.laid (Value.tuple #[]) (0) (Blk.mk 24 true [Value.slice (some (Addr.mk (List.getD [3] 0 0) 0 none)) 1 1, Value.iface 9 (Value.iface 1 (Value.iface 0 (Value.agg #[Value.string b]))), Value.int IntKind.i64 i, Value.int IntKind.i64 j]) (by kernel_rfl) (by kernel_rfl) (by kernel_rfl) ?_ (fun cf => (by kernel_rfl))
  refine WpOps.chg 26 (Value.pointer (some (Addr.mk 0 1 none))) (Heap.set (Heap.alloc (Heap.merge (Heap.alloc (Heap.alloc (Heap.alloc Heap.none (Blk.mk 24 true [Value.iface 9 (Value.iface 1 (Value.iface 0 (Value.agg #[Value.string a]))), Value.iface 9 (Value.iface 1 (Value.iface 0 (Value.agg #[Value.string b]))), Value.int IntKind.i64 i, Value.int IntKind.i64 j])) (Blk.mk 26 true [Value.int IntKind.i64 0, Value.int IntKind.i64 row, Value.int IntKind.i64 col, Value.int IntKind.i64 k, Value.string s])) (Blk.mk 24 true [Value.slice none 0 0, Value.slice none 0 0, Value.int IntKind.i64 0, Value.int IntKind.i64 0])) (Heap.alloc (Heap.ro (Heap.alloc (Heap.alloc (Heap.alloc Heap.none (Blk.mk 24 true [Value.iface 9 (Value.iface 1 (Value.iface 0 (Value.agg #[Value.string a]))), Value.iface 9 (Value.iface 1 (Value.iface 0 (Value.agg #[Value.string b]))), Value.int IntKind.i64 i, Value.int IntKind.i64 j])) (Blk.mk 26 true [Value.int IntKind.i64 0, Value.int IntKind.i64 row, Value.int IntKind.i64 col, Value.int IntKind.i64 k, Value.string s])) (Blk.mk 24 true [Value.slice none 0 0, Value.slice none 0 0, Value.int IntKind.i64 0, Value.int IntKind.i64 0]))) (Blk.mk 9 true [Value.string a]))) (Blk.mk 9 true [Value.string b])) 0 (some (Blk.mk 24 true [Value.slice (some (Addr.mk 3 0 none)) 1 1, Value.iface 9 (Value.iface 1 (Value.iface 0 (Value.agg #[Value.string b]))), Value.int IntKind.i64 i, Value.int IntKind.i64 j]))) (by kernel_rfl) (by kernel_rfl) (by kernel_rfl) ?_ (fun cf => (by kernel_rfl))
  refine WpOps.laid (Value.tuple #[]) (0) (Blk.mk 24 true [Value.slice (some (Addr.mk 3 0 none)) 1 1, Value.slice (some (Addr.mk (List.getD [4] 0 0) 0 none)) 1 1, Value.int IntKind.i64 i, Value.int IntKind.i64 j]) (by kernel_rfl) (by kernel_rfl) (by kernel_rfl) ?_ (fun cf => (by kernel_rfl))
  refine WpOps.nil ?_
  refine thenK_at ?_
  refine Wp.seq ?_
  refine Wp.text ?_
  refine WpOps.chg 7 (Value.func (Fn.func 65) #[] #[]) (Heap.set (Heap.set (Heap.alloc (Heap.merge (Heap.alloc (Heap.alloc (Heap.alloc Heap.none (Blk.mk 24 true [Value.iface 9 (Value.iface 1 (Value.iface 0 (Value.agg #[Value.string a]))), Value.iface 9 (Value.iface 1 (Value.iface 0 (Value.agg #[Value.string b]))), Value.int IntKind.i64 i, Value.int IntKind.i64 j])) (Blk.mk 26 true [Value.int IntKind.i64 0, Value.int IntKind.i64 row, Value.int IntKind.i64 col, Value.int IntKind.i64 k, Value.string s])) (Blk.mk 24 true [Value.slice none 0 0, Value.slice none 0 0, Value.int IntKind.i64 0, Value.int IntKind.i64 0])) (Heap.alloc (Heap.ro (Heap.alloc (Heap.alloc (Heap.alloc Heap.none (Blk.mk 24 true [Value.iface 9 (Value.iface 1 (Value.iface 0 (Value.agg #[Value.string a]))), Value.iface 9 (Value.iface 1 (Value.iface 0 (Value.agg #[Value.string b]))), Value.int IntKind.i64 i, Value.int IntKind.i64 j])) (Blk.mk 26 true [Value.int IntKind.i64 0, Value.int IntKind.i64 row, Value.int IntKind.i64 col, Value.int IntKind.i64 k, Value.string s])) (Blk.mk 24 true [Value.slice none 0 0, Value.slice none 0 0, Value.int IntKind.i64 0, Value.int IntKind.i64 0]))) (Blk.mk 9 true [Value.string a]))) (Blk.mk 9 true [Value.string b])) 0 (some (Blk.mk 24 true [Value.slice (some (Addr.mk 3 0 none)) 1 1, Value.iface 9 (Value.iface 1 (Value.iface 0 (Value.agg #[Value.string b]))), Value.int IntKind.i64 i, Value.int IntKind.i64 j]))) 0 (some (Blk.mk 24 true [Value.slice (some (Addr.mk 3 0 none)) 1 1, Value.slice (some (Addr.mk 4 0 none)) 1 1, Value.int IntKind.i64 i, Value.int IntKind.i64 j]))) (by kernel_rfl) (by kernel_rfl) (by kernel_rfl) ?_ (fun cf => (by kernel_rfl))
  refine WpOps.nil ?_
  refine thenK_at ?_
  refine Wp.seq ?_
  refine Wp.seq ?_
  refine Wp.text ?_
  refine WpOps.keep 27 (Value.pointer (some (Addr.mk 1 0 none))) (by kernel_rfl) (by kernel_rfl) (by kernel_rfl) ?_ (fun cf => (by kernel_rfl))
  refine WpOps.keep 28 (Value.int IntKind.i64 0) (by kernel_rfl) (by kernel_rfl) (by kernel_rfl) ?_ (fun cf => (by kernel_rfl))
  refine WpOps.nil ?_
  refine thenK_at ?_
  refine Wp.block ?_
  refine Wp.seq ?_
  refine Wp.text ?_
  refine WpOps.keep 30 (Value.bool true) (by kernel_rfl) (by kernel_rfl) (by kernel_rfl) ?_ (fun cf => (by kernel_rfl))
  refine WpOps.keep 29 (Value.bool true) (by kernel_rfl) (by kernel_rfl) (by kernel_rfl) ?_ (fun cf => (by kernel_rfl))
  refine WpOps.nil ?_
  refine thenK_at ?_
  refine Wp.on (by kernel_rfl) ?_
  refine Wp.regionV [[0, 1, 2, 3, 4, 5, 6, 7], [0, 1, 2, 4, 5, 3, 6, 7]] (by kernel_rfl) [(2, .pointer (some ⟨0, 0, none⟩)), (4, .pointer (some ⟨1, 0, none⟩))] [⟨24, true, [.slice (some ⟨2, 0, none⟩) 1 1, .slice (some ⟨3, 0, none⟩) 1 1, .int .i64 row, .int .i64 col]⟩, ⟨24, true, [.slice none 0 0, .slice none 0 0, .int .i64 0, .int .i64 0]⟩, ⟨9, true, [.string a]⟩, ⟨9, true, [.string b]⟩] (allC ?_ (all1 ?_)) ?_
  rotate_right
  · refine blockK_norm ?_
    refine thenK_at ?_
    refine Wp.seq ?_
    refine Wp.text ?_
    refine WpOps.keep 123 (Value.agg #[Value.slice (some (Addr.mk 2 0 none)) 1 1, Value.slice (some (Addr.mk 3 0 none)) 1 1, Value.int IntKind.i64 row, Value.int IntKind.i64 col]) (by kernel_rfl) (by kernel_rfl) (by kernel_rfl) ?_ (fun cf => (by kernel_rfl))
    refine WpOps.laid (Value.tuple #[]) (1) (Blk.mk 24 true [Value.slice (some (Addr.mk 2 0 none)) 1 1, Value.slice (some (Addr.mk 3 0 none)) 1 1, Value.int IntKind.i64 row, Value.int IntKind.i64 col]) (by kernel_rfl) (by kernel_rfl) (by kernel_rfl) ?_ (fun cf => (by kernel_rfl))
    refine WpOps.nil ?_
    refine thenK_at ?_
    refine Wp.ret ?_
    refine endK_retn [Value.agg #[Value.slice (some (Addr.mk 2 0 none)) 1 1, Value.slice (some (Addr.mk 3 0 none)) 1 1, Value.int IntKind.i64 row, Value.int IntKind.i64 col]] (Value.agg #[Value.slice (some (Addr.mk 2 0 none)) 1 1, Value.slice (some (Addr.mk 3 0 none)) 1 1, Value.int IntKind.i64 row, Value.int IntKind.i64 col]) (by kernel_rfl) (by kernel_rfl) ?_
    kernel_rfl
  · refine WpOps.keep 31 (Value.pointer (some (Addr.mk 1 1 none))) (by kernel_rfl) (by kernel_rfl) (by kernel_rfl) ?_ (fun cf => (by kernel_rfl))
    refine WpOps.keep 32 (Value.int IntKind.i64 row) (by kernel_rfl) (by kernel_rfl) (by kernel_rfl) ?_ (fun cf => (by kernel_rfl))
    refine WpOps.keep 33 (Value.pointer (some (Addr.mk 1 2 none))) (by kernel_rfl) (by kernel_rfl) (by kernel_rfl) ?_ (fun cf => (by kernel_rfl))
    refine WpOps.keep 34 (Value.int IntKind.i64 col) (by kernel_rfl) (by kernel_rfl) (by kernel_rfl) ?_ (fun cf => (by kernel_rfl))
    refine WpOps.keep 35 (Value.pointer (some (Addr.mk 0 2 none))) (by kernel_rfl) (by kernel_rfl) (by kernel_rfl) ?_ (fun cf => (by kernel_rfl))
    refine WpOps.laid (Value.tuple #[]) (0) (Blk.mk 24 true [Value.slice (some (Addr.mk 3 0 none)) 1 1, Value.slice (some (Addr.mk 4 0 none)) 1 1, Value.int IntKind.i64 row, Value.int IntKind.i64 j]) (by kernel_rfl) (by kernel_rfl) (by kernel_rfl) ?_ (fun cf => (by kernel_rfl))
    refine WpOps.keep 36 (Value.pointer (some (Addr.mk 0 3 none))) (by kernel_rfl) (by kernel_rfl) (by kernel_rfl) ?_ (fun cf => (by kernel_rfl))
    refine WpOps.laid (Value.tuple #[]) (0) (Blk.mk 24 true [Value.slice (some (Addr.mk 3 0 none)) 1 1, Value.slice (some (Addr.mk 4 0 none)) 1 1, Value.int IntKind.i64 row, Value.int IntKind.i64 col]) (by kernel_rfl) (by kernel_rfl) (by kernel_rfl) ?_ (fun cf => (by kernel_rfl))
    refine WpOps.nil ?_
    exact View.of [0, 2, 3, 4] [⟨24, true, [.slice (some ⟨2, 0, none⟩) 1 1, .slice (some ⟨3, 0, none⟩) 1 1, .int .i64 row, .int .i64 col]⟩, ⟨24, true, [.slice none 0 0, .slice none 0 0, .int .i64 0, .int .i64 0]⟩, ⟨9, true, [.string a]⟩, ⟨9, true, [.string b]⟩] _ (by decide) rfl ⟨⟨[.slice (some ⟨3, 0, none⟩) 1 1, .slice (some ⟨4, 0, none⟩) 1 1, .int .i64 row, .int .i64 col], by kernel_rfl, ⟨by kernel_rfl, by kernel_rfl⟩⟩, ⟨[.slice none 0 0, .slice none 0 0, .int .i64 0, .int .i64 0], by kernel_rfl, ⟨by kernel_rfl, by kernel_rfl⟩⟩, ⟨[.string a], by kernel_rfl, ⟨by kernel_rfl, by kernel_rfl⟩⟩, ⟨[.string b], by kernel_rfl, ⟨by kernel_rfl, by kernel_rfl⟩⟩, trivial⟩ ⟨⟨by kernel_rfl, rfl⟩, ⟨by kernel_rfl, rfl⟩, trivial⟩
  · refine WpOps.keep 31 (Value.pointer (some (Addr.mk 1 1 none))) (by kernel_rfl) (by kernel_rfl) (by kernel_rfl) ?_ (fun cf => (by kernel_rfl))
    refine WpOps.keep 32 (Value.int IntKind.i64 row) (by kernel_rfl) (by kernel_rfl) (by kernel_rfl) ?_ (fun cf => (by kernel_rfl))
    refine WpOps.keep 33 (Value.pointer (some (Addr.mk 1 2 none))) (by kernel_rfl) (by kernel_rfl) (by kernel_rfl) ?_ (fun cf => (by kernel_rfl))
    refine WpOps.keep 35 (Value.pointer (some (Addr.mk 0 2 none))) (by kernel_rfl) (by kernel_rfl) (by kernel_rfl) ?_ (fun cf => (by kernel_rfl))
    refine WpOps.laid (Value.tuple #[]) (0) (Blk.mk 24 true [Value.slice (some (Addr.mk 3 0 none)) 1 1, Value.slice (some (Addr.mk 4 0 none)) 1 1, Value.int IntKind.i64 row, Value.int IntKind.i64 j]) (by kernel_rfl) (by kernel_rfl) (by kernel_rfl) ?_ (fun cf => (by kernel_rfl))
    refine WpOps.keep 34 (Value.int IntKind.i64 col) (by kernel_rfl) (by kernel_rfl) (by kernel_rfl) ?_ (fun cf => (by kernel_rfl))
    refine WpOps.keep 36 (Value.pointer (some (Addr.mk 0 3 none))) (by kernel_rfl) (by kernel_rfl) (by kernel_rfl) ?_ (fun cf => (by kernel_rfl))
    refine WpOps.laid (Value.tuple #[]) (0) (Blk.mk 24 true [Value.slice (some (Addr.mk 3 0 none)) 1 1, Value.slice (some (Addr.mk 4 0 none)) 1 1, Value.int IntKind.i64 row, Value.int IntKind.i64 col]) (by kernel_rfl) (by kernel_rfl) (by kernel_rfl) ?_ (fun cf => (by kernel_rfl))
    refine WpOps.nil ?_
    exact View.of [0, 2, 3, 4] [⟨24, true, [.slice (some ⟨2, 0, none⟩) 1 1, .slice (some ⟨3, 0, none⟩) 1 1, .int .i64 row, .int .i64 col]⟩, ⟨24, true, [.slice none 0 0, .slice none 0 0, .int .i64 0, .int .i64 0]⟩, ⟨9, true, [.string a]⟩, ⟨9, true, [.string b]⟩] _ (by decide) rfl ⟨⟨[.slice (some ⟨3, 0, none⟩) 1 1, .slice (some ⟨4, 0, none⟩) 1 1, .int .i64 row, .int .i64 col], by kernel_rfl, ⟨by kernel_rfl, by kernel_rfl⟩⟩, ⟨[.slice none 0 0, .slice none 0 0, .int .i64 0, .int .i64 0], by kernel_rfl, ⟨by kernel_rfl, by kernel_rfl⟩⟩, ⟨[.string a], by kernel_rfl, ⟨by kernel_rfl, by kernel_rfl⟩⟩, ⟨[.string b], by kernel_rfl, ⟨by kernel_rfl, by kernel_rfl⟩⟩, trivial⟩ ⟨⟨by kernel_rfl, rfl⟩, ⟨by kernel_rfl, rfl⟩, trivial⟩
end Go.Proofs.Ytlejgfeoffhjoaa.D
