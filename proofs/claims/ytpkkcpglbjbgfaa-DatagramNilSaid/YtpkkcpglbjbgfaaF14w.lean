/- The law DatagramNil: what a nil store, and a zero one, tells. -/
import Derived.Test.YtpkkcpglbjbgfaaFwLem
import Derived.Test.YtpkkcpglbjbgfaaF14h
namespace Go.Proofs.Ytpkkcpglbjbgfaa.D
open Go.Fw Go.RowKit

def zs : Blk := ⟨66, true, [.int .i64 0, .int .i64 0, .slice none 0 0]⟩
def zg : Value := .agg #[.slice none 0 0, .slice none 0 0, .int .i64 0, .int .i64 0, .int .i64 0, .int .i64 0, .int .i64 0, .bool false, .bool false, .bool false, .string ByteArray.empty]
theorem f60 : E.funcs 60 = some Try.f60 := by kernel_rfl
theorem no60n : Lent E 60 [.pointer none] [] (.bool true) [] := by
  refine Lent.of f60 rfl (of_decide_eq_true (by kernel_rfl)) rfl rfl (Nat.le_refl _) rfl rfl rfl ?_
  refine Wp.seq ?_
  refine Wp.text ?_
  refine WpOps.keep 2 (Value.bool false) (by kernel_rfl) (by kernel_rfl) (by kernel_rfl) ?_ (fun cf => (by kernel_rfl))
  refine WpOps.nil ?_
  refine thenK_at ?_
  refine Wp.seq ?_
  refine Wp.text ?_
  refine WpOps.keep 3 (Value.pointer none) (by kernel_rfl) (by kernel_rfl) (by kernel_rfl) ?_ (fun cf => (by kernel_rfl))
  refine WpOps.keep 4 (Value.bool true) (by kernel_rfl) (by kernel_rfl) (by kernel_rfl) ?_ (fun cf => (by kernel_rfl))
  refine WpOps.keep 5 (Value.bool true) (by kernel_rfl) (by kernel_rfl) (by kernel_rfl) ?_ (fun cf => (by kernel_rfl))
  refine WpOps.unmet 6 (by kernel_rfl) (by kernel_rfl) (by kernel_rfl) ?_
  refine WpOps.unmet 7 (by kernel_rfl) (by kernel_rfl) (by kernel_rfl) ?_
  refine WpOps.unmet 8 (by kernel_rfl) (by kernel_rfl) (by kernel_rfl) ?_
  refine WpOps.unmet 9 (by kernel_rfl) (by kernel_rfl) (by kernel_rfl) ?_
  refine WpOps.unmet 10 (by kernel_rfl) (by kernel_rfl) (by kernel_rfl) ?_
  refine WpOps.keep 11 (Value.bool true) (by kernel_rfl) (by kernel_rfl) (by kernel_rfl) ?_ (fun cf => (by kernel_rfl))
  refine WpOps.keep 2 (Value.bool true) (by kernel_rfl) (by kernel_rfl) (by kernel_rfl) ?_ (fun cf => (by kernel_rfl))
  refine WpOps.nil ?_
  refine thenK_at ?_
  refine Wp.ret ?_
  refine endK_retn [Value.bool true] (Value.bool true) (by kernel_rfl) (by kernel_rfl) ?_
  exact ⟨[], by decide, by kernel_rfl, trivial, .w (.un rfl rfl)⟩
theorem no60z : Lent E 60 [.pointer (some ⟨0, 0, none⟩)] [zs] (.bool true) [zs] := by
  refine Lent.of f60 rfl (of_decide_eq_true (by kernel_rfl)) rfl rfl (Nat.le_refl _) rfl rfl rfl ?_
  refine Wp.seq ?_
  refine Wp.text ?_
  refine WpOps.keep 2 (Value.bool false) (by kernel_rfl) (by kernel_rfl) (by kernel_rfl) ?_ (fun cf => (by kernel_rfl))
  refine WpOps.nil ?_
  refine thenK_at ?_
  refine Wp.seq ?_
  refine Wp.text ?_
  refine WpOps.keep 3 (Value.pointer (some (Addr.mk 0 0 none))) (by kernel_rfl) (by kernel_rfl) (by kernel_rfl) ?_ (fun cf => (by kernel_rfl))
  refine WpOps.keep 4 (Value.bool false) (by kernel_rfl) (by kernel_rfl) (by kernel_rfl) ?_ (fun cf => (by kernel_rfl))
  refine WpOps.keep 5 (Value.bool false) (by kernel_rfl) (by kernel_rfl) (by kernel_rfl) ?_ (fun cf => (by kernel_rfl))
  refine WpOps.keep 6 (Value.pointer (some (Addr.mk 0 0 none))) (by kernel_rfl) (by kernel_rfl) (by kernel_rfl) ?_ (fun cf => (by kernel_rfl))
  refine WpOps.keep 7 (Value.pointer (some (Addr.mk 0 0 none))) (by kernel_rfl) (by kernel_rfl) (by kernel_rfl) ?_ (fun cf => (by kernel_rfl))
  refine WpOps.keep 8 (Value.pointer (some (Addr.mk 0 0 none))) (by kernel_rfl) (by kernel_rfl) (by kernel_rfl) ?_ (fun cf => (by kernel_rfl))
  refine WpOps.keep 9 (Value.int IntKind.i64 0) (by kernel_rfl) (by kernel_rfl) (by kernel_rfl) ?_ (fun cf => (by kernel_rfl))
  refine WpOps.keep 10 (Value.bool true) (by kernel_rfl) (by kernel_rfl) (by kernel_rfl) ?_ (fun cf => (by kernel_rfl))
  refine WpOps.keep 11 (Value.bool true) (by kernel_rfl) (by kernel_rfl) (by kernel_rfl) ?_ (fun cf => (by kernel_rfl))
  refine WpOps.keep 2 (Value.bool true) (by kernel_rfl) (by kernel_rfl) (by kernel_rfl) ?_ (fun cf => (by kernel_rfl))
  refine WpOps.nil ?_
  refine thenK_at ?_
  refine Wp.ret ?_
  refine endK_retn [Value.bool true] (Value.bool true) (by kernel_rfl) (by kernel_rfl) ?_
  exact ⟨[0], by decide, by kernel_rfl, ⟨⟨_, rfl, .cons (.inl ⟨rfl, rfl⟩) (.cons (.inl ⟨rfl, rfl⟩) (.cons (.inl ⟨rfl, rfl⟩) .nil))⟩, trivial⟩, .w (.un rfl rfl)⟩
theorem f32 : E.funcs 32 = some Try.f32 := by kernel_rfl
theorem take32n (g : Gr) : Lent E 32 [.pointer none, gv g] [] (.tuple #[zg, .bool false, .int .i64 1]) [] := by
  refine Lent.of f32 rfl (of_decide_eq_true (by kernel_rfl)) rfl rfl (Nat.le_refl _) rfl rfl rfl ?_
  have c := no60n
  refine Wp.seq ?_
  refine Wp.text ?_
  refine WpOps.made 3 (Value.pointer (some (Addr.mk 0 0 none))) (Blk.mk 24 true [Value.iface 3 (Value.iface (List.length (Gr.fr g)) (Value.iface (Gr.fx g) (Value.agg (List.toArray (List.map (fun n => Value.int IntKind.i64 n) (Gr.fr g)))))), Value.iface 3 (Value.iface (List.length (Gr.to g)) (Value.iface (Gr.tx g) (Value.agg (List.toArray (List.map (fun n => Value.int IntKind.i64 n) (Gr.to g)))))), Value.int IntKind.i64 (Gr.number g), Value.int IntKind.i64 (Gr.life g), Value.int IntKind.i64 (Gr.at' g), Value.int IntKind.i64 (Gr.total g), Value.int IntKind.i64 (Gr.report g), Value.bool (Gr.more g), Value.bool (Gr.may g), Value.bool (Gr.wants g), Value.string (Gr.data g)]) (by kernel_rfl) (by kernel_rfl) (by kernel_rfl) ?_ (fun cf => (by kernel_rfl))
  refine WpOps.made 4 (Value.pointer (some (Addr.mk 1 0 none))) (Blk.mk 24 true [Value.slice none 0 0, Value.slice none 0 0, Value.int IntKind.i64 0, Value.int IntKind.i64 0, Value.int IntKind.i64 0, Value.int IntKind.i64 0, Value.int IntKind.i64 0, Value.bool false, Value.bool false, Value.bool false, Value.string (ByteArray.mk #[])]) (by kernel_rfl) (by kernel_rfl) (by kernel_rfl) ?_ (fun cf => (by kernel_rfl))
  refine WpOps.keep 5 (Value.bool false) (by kernel_rfl) (by kernel_rfl) (by kernel_rfl) ?_ (fun cf => (by kernel_rfl))
  refine WpOps.keep 6 (Value.int IntKind.i64 0) (by kernel_rfl) (by kernel_rfl) (by kernel_rfl) ?_ (fun cf => (by kernel_rfl))
  refine WpOps.nil ?_
  refine thenK_at ?_
  refine Wp.seq ?_
  refine Wp.seq ?_
  refine Wp.text ?_
  refine WpOps.keep 10 (Value.pointer none) (by kernel_rfl) (by kernel_rfl) (by kernel_rfl) ?_ (fun cf => (by kernel_rfl))
  refine WpOps.called 11 60 [Value.pointer none] (by kernel_rfl) (by kernel_rfl) (by kernel_rfl) (by kernel_rfl) (fun cf => (by kernel_rfl)) ?_
  refine WpCall.lent [] (c) (by decide) trivial (by kernel_rfl) (Value.bool true) ([]) .nil (by kernel_rfl) (Heap.alloc (Heap.alloc (heapOf []) (Blk.mk 24 true [Value.iface 3 (Value.iface (List.length (Gr.fr g)) (Value.iface (Gr.fx g) (Value.agg (List.toArray (List.map (fun n => Value.int IntKind.i64 n) (Gr.fr g)))))), Value.iface 3 (Value.iface (List.length (Gr.to g)) (Value.iface (Gr.tx g) (Value.agg (List.toArray (List.map (fun n => Value.int IntKind.i64 n) (Gr.to g)))))), Value.int IntKind.i64 (Gr.number g), Value.int IntKind.i64 (Gr.life g), Value.int IntKind.i64 (Gr.at' g), Value.int IntKind.i64 (Gr.total g), Value.int IntKind.i64 (Gr.report g), Value.bool (Gr.more g), Value.bool (Gr.may g), Value.bool (Gr.wants g), Value.string (Gr.data g)])) (Blk.mk 24 true [Value.slice none 0 0, Value.slice none 0 0, Value.int IntKind.i64 0, Value.int IntKind.i64 0, Value.int IntKind.i64 0, Value.int IntKind.i64 0, Value.int IntKind.i64 0, Value.bool false, Value.bool false, Value.bool false, Value.string (ByteArray.mk #[])])) (by kernel_rfl) ?_
  refine WpOps.keep 12 (Value.bool true) (by kernel_rfl) (by kernel_rfl) (by kernel_rfl) ?_ (fun cf => (by kernel_rfl))
  refine WpOps.unmet 13 (by kernel_rfl) (by kernel_rfl) (by kernel_rfl) ?_
  refine WpOps.unmet 14 (by kernel_rfl) (by kernel_rfl) (by kernel_rfl) ?_
  refine WpOps.unmet 15 (by kernel_rfl) (by kernel_rfl) (by kernel_rfl) ?_
  refine WpOps.keep 16 (Value.bool true) (by kernel_rfl) (by kernel_rfl) (by kernel_rfl) ?_ (fun cf => (by kernel_rfl))
  refine WpOps.nil ?_
  refine thenK_at ?_
  refine Wp.on (by kernel_rfl) ?_
  refine Wp.seq ?_
  refine Wp.text ?_
  refine WpOps.keep 17 (Value.agg #[Value.slice none 0 0, Value.slice none 0 0, Value.int IntKind.i64 0, Value.int IntKind.i64 0, Value.int IntKind.i64 0, Value.int IntKind.i64 0, Value.int IntKind.i64 0, Value.bool false, Value.bool false, Value.bool false, Value.string (ByteArray.mk #[])]) (by kernel_rfl) (by kernel_rfl) (by kernel_rfl) ?_ (fun cf => (by kernel_rfl))
  refine WpOps.laid (Value.tuple #[]) (1) (Blk.mk 24 true [Value.slice none 0 0, Value.slice none 0 0, Value.int IntKind.i64 0, Value.int IntKind.i64 0, Value.int IntKind.i64 0, Value.int IntKind.i64 0, Value.int IntKind.i64 0, Value.bool false, Value.bool false, Value.bool false, Value.string (ByteArray.mk #[])]) (by kernel_rfl) (by kernel_rfl) (by kernel_rfl) ?_ (fun cf => (by kernel_rfl))
  refine WpOps.keep 5 (Value.bool false) (by kernel_rfl) (by kernel_rfl) (by kernel_rfl) ?_ (fun cf => (by kernel_rfl))
  refine WpOps.keep 6 (Value.int IntKind.i64 1) (by kernel_rfl) (by kernel_rfl) (by kernel_rfl) ?_ (fun cf => (by kernel_rfl))
  refine WpOps.nil ?_
  refine thenK_at ?_
  refine Wp.ret ?_
  refine thenK_ret ?_
  refine endK_retn [Value.agg #[Value.slice none 0 0, Value.slice none 0 0, Value.int IntKind.i64 0, Value.int IntKind.i64 0, Value.int IntKind.i64 0, Value.int IntKind.i64 0, Value.int IntKind.i64 0, Value.bool false, Value.bool false, Value.bool false, Value.string (ByteArray.mk #[])], Value.bool false, Value.int IntKind.i64 1] (Value.tuple #[Value.agg #[Value.slice none 0 0, Value.slice none 0 0, Value.int IntKind.i64 0, Value.int IntKind.i64 0, Value.int IntKind.i64 0, Value.int IntKind.i64 0, Value.int IntKind.i64 0, Value.bool false, Value.bool false, Value.bool false, Value.string (ByteArray.mk #[])], Value.bool false, Value.int IntKind.i64 1]) (by kernel_rfl) (by kernel_rfl) ?_
  exact ⟨[], by decide, by kernel_rfl, trivial, .tuple _ _ (by kernel_rfl) rfl (.cons (.un rfl rfl) (.cons (.un rfl rfl) (.cons (.un rfl rfl) .nil)))⟩
theorem take32z (g : Gr) : Lent E 32 [.pointer (some ⟨0, 0, none⟩), gv g] [zs] (.tuple #[zg, .bool false, .int .i64 1]) [zs] := by
  refine Lent.of f32 rfl (of_decide_eq_true (by kernel_rfl)) rfl rfl (Nat.le_refl _) rfl rfl rfl ?_
  have c := no60z
  refine Wp.seq ?_
  refine Wp.text ?_
  refine WpOps.made 3 (Value.pointer (some (Addr.mk 1 0 none))) (Blk.mk 24 true [Value.iface 3 (Value.iface (List.length (Gr.fr g)) (Value.iface (Gr.fx g) (Value.agg (List.toArray (List.map (fun n => Value.int IntKind.i64 n) (Gr.fr g)))))), Value.iface 3 (Value.iface (List.length (Gr.to g)) (Value.iface (Gr.tx g) (Value.agg (List.toArray (List.map (fun n => Value.int IntKind.i64 n) (Gr.to g)))))), Value.int IntKind.i64 (Gr.number g), Value.int IntKind.i64 (Gr.life g), Value.int IntKind.i64 (Gr.at' g), Value.int IntKind.i64 (Gr.total g), Value.int IntKind.i64 (Gr.report g), Value.bool (Gr.more g), Value.bool (Gr.may g), Value.bool (Gr.wants g), Value.string (Gr.data g)]) (by kernel_rfl) (by kernel_rfl) (by kernel_rfl) ?_ (fun cf => (by kernel_rfl))
  refine WpOps.made 4 (Value.pointer (some (Addr.mk 2 0 none))) (Blk.mk 24 true [Value.slice none 0 0, Value.slice none 0 0, Value.int IntKind.i64 0, Value.int IntKind.i64 0, Value.int IntKind.i64 0, Value.int IntKind.i64 0, Value.int IntKind.i64 0, Value.bool false, Value.bool false, Value.bool false, Value.string (ByteArray.mk #[])]) (by kernel_rfl) (by kernel_rfl) (by kernel_rfl) ?_ (fun cf => (by kernel_rfl))
  refine WpOps.keep 5 (Value.bool false) (by kernel_rfl) (by kernel_rfl) (by kernel_rfl) ?_ (fun cf => (by kernel_rfl))
  refine WpOps.keep 6 (Value.int IntKind.i64 0) (by kernel_rfl) (by kernel_rfl) (by kernel_rfl) ?_ (fun cf => (by kernel_rfl))
  refine WpOps.nil ?_
  refine thenK_at ?_
  refine Wp.seq ?_
  refine Wp.seq ?_
  refine Wp.text ?_
  refine WpOps.keep 10 (Value.pointer (some (Addr.mk 0 0 none))) (by kernel_rfl) (by kernel_rfl) (by kernel_rfl) ?_ (fun cf => (by kernel_rfl))
  refine WpOps.called 11 60 [Value.pointer (some (Addr.mk 0 0 none))] (by kernel_rfl) (by kernel_rfl) (by kernel_rfl) (by kernel_rfl) (fun cf => (by kernel_rfl)) ?_
  refine WpCall.lent [0] (c) (by decide) ⟨⟨[Value.int IntKind.i64 0, Value.int IntKind.i64 0, Value.slice none 0 0], (by kernel_rfl), (by kernel_rfl), (by kernel_rfl)⟩, trivial⟩ (by kernel_rfl) (Value.bool true) ([Blk.mk 66 true [Value.int IntKind.i64 0, Value.int IntKind.i64 0, Value.slice none 0 0]]) (.cons (by kernel_rfl) .nil) (by kernel_rfl) (Heap.set (Heap.alloc (Heap.alloc (heapOf [zs]) (Blk.mk 24 true [Value.iface 3 (Value.iface (List.length (Gr.fr g)) (Value.iface (Gr.fx g) (Value.agg (List.toArray (List.map (fun n => Value.int IntKind.i64 n) (Gr.fr g)))))), Value.iface 3 (Value.iface (List.length (Gr.to g)) (Value.iface (Gr.tx g) (Value.agg (List.toArray (List.map (fun n => Value.int IntKind.i64 n) (Gr.to g)))))), Value.int IntKind.i64 (Gr.number g), Value.int IntKind.i64 (Gr.life g), Value.int IntKind.i64 (Gr.at' g), Value.int IntKind.i64 (Gr.total g), Value.int IntKind.i64 (Gr.report g), Value.bool (Gr.more g), Value.bool (Gr.may g), Value.bool (Gr.wants g), Value.string (Gr.data g)])) (Blk.mk 24 true [Value.slice none 0 0, Value.slice none 0 0, Value.int IntKind.i64 0, Value.int IntKind.i64 0, Value.int IntKind.i64 0, Value.int IntKind.i64 0, Value.int IntKind.i64 0, Value.bool false, Value.bool false, Value.bool false, Value.string (ByteArray.mk #[])])) 0 (some (Blk.mk 66 true [Value.int IntKind.i64 0, Value.int IntKind.i64 0, Value.slice none 0 0]))) (by kernel_rfl) ?_
  refine WpOps.keep 12 (Value.bool true) (by kernel_rfl) (by kernel_rfl) (by kernel_rfl) ?_ (fun cf => (by kernel_rfl))
  refine WpOps.unmet 13 (by kernel_rfl) (by kernel_rfl) (by kernel_rfl) ?_
  refine WpOps.unmet 14 (by kernel_rfl) (by kernel_rfl) (by kernel_rfl) ?_
  refine WpOps.unmet 15 (by kernel_rfl) (by kernel_rfl) (by kernel_rfl) ?_
  refine WpOps.keep 16 (Value.bool true) (by kernel_rfl) (by kernel_rfl) (by kernel_rfl) ?_ (fun cf => (by kernel_rfl))
  refine WpOps.nil ?_
  refine thenK_at ?_
  refine Wp.on (by kernel_rfl) ?_
  refine Wp.seq ?_
  refine Wp.text ?_
  refine WpOps.keep 17 (Value.agg #[Value.slice none 0 0, Value.slice none 0 0, Value.int IntKind.i64 0, Value.int IntKind.i64 0, Value.int IntKind.i64 0, Value.int IntKind.i64 0, Value.int IntKind.i64 0, Value.bool false, Value.bool false, Value.bool false, Value.string (ByteArray.mk #[])]) (by kernel_rfl) (by kernel_rfl) (by kernel_rfl) ?_ (fun cf => (by kernel_rfl))
  refine WpOps.laid (Value.tuple #[]) (2) (Blk.mk 24 true [Value.slice none 0 0, Value.slice none 0 0, Value.int IntKind.i64 0, Value.int IntKind.i64 0, Value.int IntKind.i64 0, Value.int IntKind.i64 0, Value.int IntKind.i64 0, Value.bool false, Value.bool false, Value.bool false, Value.string (ByteArray.mk #[])]) (by kernel_rfl) (by kernel_rfl) (by kernel_rfl) ?_ (fun cf => (by kernel_rfl))
  refine WpOps.keep 5 (Value.bool false) (by kernel_rfl) (by kernel_rfl) (by kernel_rfl) ?_ (fun cf => (by kernel_rfl))
  refine WpOps.keep 6 (Value.int IntKind.i64 1) (by kernel_rfl) (by kernel_rfl) (by kernel_rfl) ?_ (fun cf => (by kernel_rfl))
  refine WpOps.nil ?_
  refine thenK_at ?_
  refine Wp.ret ?_
  refine thenK_ret ?_
  refine endK_retn [Value.agg #[Value.slice none 0 0, Value.slice none 0 0, Value.int IntKind.i64 0, Value.int IntKind.i64 0, Value.int IntKind.i64 0, Value.int IntKind.i64 0, Value.int IntKind.i64 0, Value.bool false, Value.bool false, Value.bool false, Value.string (ByteArray.mk #[])], Value.bool false, Value.int IntKind.i64 1] (Value.tuple #[Value.agg #[Value.slice none 0 0, Value.slice none 0 0, Value.int IntKind.i64 0, Value.int IntKind.i64 0, Value.int IntKind.i64 0, Value.int IntKind.i64 0, Value.int IntKind.i64 0, Value.bool false, Value.bool false, Value.bool false, Value.string (ByteArray.mk #[])], Value.bool false, Value.int IntKind.i64 1]) (by kernel_rfl) (by kernel_rfl) ?_
  exact ⟨[0], by decide, by kernel_rfl, ⟨⟨_, by kernel_rfl, .cons (.inl ⟨rfl, rfl⟩) (.cons (.inl ⟨rfl, rfl⟩) (.cons (.inl ⟨rfl, rfl⟩) .nil))⟩, trivial⟩, .tuple _ _ (by kernel_rfl) rfl (.cons (.un rfl rfl) (.cons (.un rfl rfl) (.cons (.un rfl rfl) .nil)))⟩
theorem f34 : E.funcs 34 = some Try.f34 := by kernel_rfl
theorem tick34n (x : Nat) (l : List Int) : Lent E 34 [.pointer none, sl x l] [] (.tuple #[.slice none 0 0, .int .i64 1]) [] := by
  refine Lent.of f34 rfl (of_decide_eq_true (by kernel_rfl)) rfl rfl (Nat.le_refl _) rfl rfl rfl ?_
  have c := no60n
  refine Wp.seq ?_
  refine Wp.text ?_
  refine WpOps.keep 4 (Value.slice none 0 0) (by kernel_rfl) (by kernel_rfl) (by kernel_rfl) ?_ (fun cf => (by kernel_rfl))
  refine WpOps.keep 5 (Value.int IntKind.i64 0) (by kernel_rfl) (by kernel_rfl) (by kernel_rfl) ?_ (fun cf => (by kernel_rfl))
  refine WpOps.nil ?_
  refine thenK_at ?_
  refine Wp.seq ?_
  refine Wp.seq ?_
  refine Wp.text ?_
  refine WpOps.keep 10 (Value.pointer none) (by kernel_rfl) (by kernel_rfl) (by kernel_rfl) ?_ (fun cf => (by kernel_rfl))
  refine WpOps.called 11 60 [Value.pointer none] (by kernel_rfl) (by kernel_rfl) (by kernel_rfl) (by kernel_rfl) (fun cf => (by kernel_rfl)) ?_
  refine WpCall.lent [] (c) (by decide) trivial (by kernel_rfl) (Value.bool true) ([]) .nil (by kernel_rfl) (heapOf []) (by kernel_rfl) ?_
  refine WpOps.keep 12 (Value.bool true) (by kernel_rfl) (by kernel_rfl) (by kernel_rfl) ?_ (fun cf => (by kernel_rfl))
  refine WpOps.unmet 13 (by kernel_rfl) (by kernel_rfl) (by kernel_rfl) ?_
  refine WpOps.unmet 14 (by kernel_rfl) (by kernel_rfl) (by kernel_rfl) ?_
  refine WpOps.unmet 15 (by kernel_rfl) (by kernel_rfl) (by kernel_rfl) ?_
  refine WpOps.keep 16 (Value.bool true) (by kernel_rfl) (by kernel_rfl) (by kernel_rfl) ?_ (fun cf => (by kernel_rfl))
  refine WpOps.nil ?_
  refine thenK_at ?_
  refine Wp.on (by kernel_rfl) ?_
  refine Wp.seq ?_
  refine Wp.text ?_
  refine WpOps.keep 4 (Value.slice none 0 0) (by kernel_rfl) (by kernel_rfl) (by kernel_rfl) ?_ (fun cf => (by kernel_rfl))
  refine WpOps.keep 5 (Value.int IntKind.i64 1) (by kernel_rfl) (by kernel_rfl) (by kernel_rfl) ?_ (fun cf => (by kernel_rfl))
  refine WpOps.nil ?_
  refine thenK_at ?_
  refine Wp.ret ?_
  refine thenK_ret ?_
  refine endK_retn [Value.slice none 0 0, Value.int IntKind.i64 1] (Value.tuple #[Value.slice none 0 0, Value.int IntKind.i64 1]) (by kernel_rfl) (by kernel_rfl) ?_
  exact ⟨[], by decide, by kernel_rfl, trivial, .tuple _ _ (by kernel_rfl) rfl (.cons (.un rfl rfl) (.cons (.un rfl rfl) .nil))⟩
theorem tick34z (x : Nat) (l : List Int) : Lent E 34 [.pointer (some ⟨0, 0, none⟩), sl x l] [zs] (.tuple #[.slice none 0 0, .int .i64 1]) [zs] := by
  refine Lent.of f34 rfl (of_decide_eq_true (by kernel_rfl)) rfl rfl (Nat.le_refl _) rfl rfl rfl ?_
  have c := no60z
  refine Wp.seq ?_
  refine Wp.text ?_
  refine WpOps.keep 4 (Value.slice none 0 0) (by kernel_rfl) (by kernel_rfl) (by kernel_rfl) ?_ (fun cf => (by kernel_rfl))
  refine WpOps.keep 5 (Value.int IntKind.i64 0) (by kernel_rfl) (by kernel_rfl) (by kernel_rfl) ?_ (fun cf => (by kernel_rfl))
  refine WpOps.nil ?_
  refine thenK_at ?_
  refine Wp.seq ?_
  refine Wp.seq ?_
  refine Wp.text ?_
  refine WpOps.keep 10 (Value.pointer (some (Addr.mk 0 0 none))) (by kernel_rfl) (by kernel_rfl) (by kernel_rfl) ?_ (fun cf => (by kernel_rfl))
  refine WpOps.called 11 60 [Value.pointer (some (Addr.mk 0 0 none))] (by kernel_rfl) (by kernel_rfl) (by kernel_rfl) (by kernel_rfl) (fun cf => (by kernel_rfl)) ?_
  refine WpCall.lent [0] (c) (by decide) ⟨⟨[Value.int IntKind.i64 0, Value.int IntKind.i64 0, Value.slice none 0 0], (by kernel_rfl), (by kernel_rfl), (by kernel_rfl)⟩, trivial⟩ (by kernel_rfl) (Value.bool true) ([Blk.mk 66 true [Value.int IntKind.i64 0, Value.int IntKind.i64 0, Value.slice none 0 0]]) (.cons (by kernel_rfl) .nil) (by kernel_rfl) (Heap.set (heapOf [zs]) 0 (some (Blk.mk 66 true [Value.int IntKind.i64 0, Value.int IntKind.i64 0, Value.slice none 0 0]))) (by kernel_rfl) ?_
  refine WpOps.keep 12 (Value.bool true) (by kernel_rfl) (by kernel_rfl) (by kernel_rfl) ?_ (fun cf => (by kernel_rfl))
  refine WpOps.unmet 13 (by kernel_rfl) (by kernel_rfl) (by kernel_rfl) ?_
  refine WpOps.unmet 14 (by kernel_rfl) (by kernel_rfl) (by kernel_rfl) ?_
  refine WpOps.unmet 15 (by kernel_rfl) (by kernel_rfl) (by kernel_rfl) ?_
  refine WpOps.keep 16 (Value.bool true) (by kernel_rfl) (by kernel_rfl) (by kernel_rfl) ?_ (fun cf => (by kernel_rfl))
  refine WpOps.nil ?_
  refine thenK_at ?_
  refine Wp.on (by kernel_rfl) ?_
  refine Wp.seq ?_
  refine Wp.text ?_
  refine WpOps.keep 4 (Value.slice none 0 0) (by kernel_rfl) (by kernel_rfl) (by kernel_rfl) ?_ (fun cf => (by kernel_rfl))
  refine WpOps.keep 5 (Value.int IntKind.i64 1) (by kernel_rfl) (by kernel_rfl) (by kernel_rfl) ?_ (fun cf => (by kernel_rfl))
  refine WpOps.nil ?_
  refine thenK_at ?_
  refine Wp.ret ?_
  refine thenK_ret ?_
  refine endK_retn [Value.slice none 0 0, Value.int IntKind.i64 1] (Value.tuple #[Value.slice none 0 0, Value.int IntKind.i64 1]) (by kernel_rfl) (by kernel_rfl) ?_
  exact ⟨[0], by decide, by kernel_rfl, ⟨⟨_, by kernel_rfl, .cons (.inl ⟨rfl, rfl⟩) (.cons (.inl ⟨rfl, rfl⟩) (.cons (.inl ⟨rfl, rfl⟩) .nil))⟩, trivial⟩, .tuple _ _ (by kernel_rfl) rfl (.cons (.un rfl rfl) (.cons (.un rfl rfl) .nil))⟩
theorem f33 : E.funcs 33 = some Try.f33 := by kernel_rfl
theorem open33n : Lent E 33 [.pointer none] [] (.int .i64 0) [] := by
  refine Lent.of f33 rfl (of_decide_eq_true (by kernel_rfl)) rfl rfl (Nat.le_refl _) rfl rfl rfl ?_
  have c := no60n
  refine Wp.seq ?_
  refine Wp.text ?_
  refine WpOps.keep 2 (Value.int IntKind.i64 0) (by kernel_rfl) (by kernel_rfl) (by kernel_rfl) ?_ (fun cf => (by kernel_rfl))
  refine WpOps.nil ?_
  refine thenK_at ?_
  refine Wp.seq ?_
  refine Wp.seq ?_
  refine Wp.text ?_
  refine WpOps.keep 3 (Value.pointer none) (by kernel_rfl) (by kernel_rfl) (by kernel_rfl) ?_ (fun cf => (by kernel_rfl))
  refine WpOps.called 4 60 [Value.pointer none] (by kernel_rfl) (by kernel_rfl) (by kernel_rfl) (by kernel_rfl) (fun cf => (by kernel_rfl)) ?_
  refine WpCall.lent [] (c) (by decide) trivial (by kernel_rfl) (Value.bool true) ([]) .nil (by kernel_rfl) (heapOf []) (by kernel_rfl) ?_
  refine WpOps.nil ?_
  refine thenK_at ?_
  refine Wp.on (by kernel_rfl) ?_
  refine Wp.seq ?_
  refine Wp.text ?_
  refine WpOps.keep 2 (Value.int IntKind.i64 0) (by kernel_rfl) (by kernel_rfl) (by kernel_rfl) ?_ (fun cf => (by kernel_rfl))
  refine WpOps.nil ?_
  refine thenK_at ?_
  refine Wp.ret ?_
  refine thenK_ret ?_
  refine endK_retn [Value.int IntKind.i64 0] (Value.int IntKind.i64 0) (by kernel_rfl) (by kernel_rfl) ?_
  exact ⟨[], by decide, by kernel_rfl, trivial, .w (.un rfl rfl)⟩
theorem f35 : E.funcs 35 = some Try.f35 := by kernel_rfl
theorem copy35n : Lent E 35 [.pointer none] [] (.pointer none) [] := by
  refine Lent.of f35 rfl (of_decide_eq_true (by kernel_rfl)) rfl rfl (Nat.le_refl _) rfl rfl rfl ?_
  have c := no60n
  refine Wp.seq ?_
  refine Wp.text ?_
  refine WpOps.keep 2 (Value.pointer none) (by kernel_rfl) (by kernel_rfl) (by kernel_rfl) ?_ (fun cf => (by kernel_rfl))
  refine WpOps.nil ?_
  refine thenK_at ?_
  refine Wp.seq ?_
  refine Wp.seq ?_
  refine Wp.text ?_
  refine WpOps.keep 7 (Value.pointer none) (by kernel_rfl) (by kernel_rfl) (by kernel_rfl) ?_ (fun cf => (by kernel_rfl))
  refine WpOps.called 8 60 [Value.pointer none] (by kernel_rfl) (by kernel_rfl) (by kernel_rfl) (by kernel_rfl) (fun cf => (by kernel_rfl)) ?_
  refine WpCall.lent [] (c) (by decide) trivial (by kernel_rfl) (Value.bool true) ([]) .nil (by kernel_rfl) (heapOf []) (by kernel_rfl) ?_
  refine WpOps.nil ?_
  refine thenK_at ?_
  refine Wp.on (by kernel_rfl) ?_
  refine Wp.seq ?_
  refine Wp.text ?_
  refine WpOps.keep 2 (Value.pointer none) (by kernel_rfl) (by kernel_rfl) (by kernel_rfl) ?_ (fun cf => (by kernel_rfl))
  refine WpOps.nil ?_
  refine thenK_at ?_
  refine Wp.ret ?_
  refine thenK_ret ?_
  refine endK_retn [Value.pointer none] (Value.pointer none) (by kernel_rfl) (by kernel_rfl) ?_
  exact ⟨[], by decide, by kernel_rfl, trivial, .w (.un rfl rfl)⟩
theorem copy35z : Lent E 35 [.pointer (some ⟨0, 0, none⟩)] [zs] (.pointer none) [zs] := by
  refine Lent.of f35 rfl (of_decide_eq_true (by kernel_rfl)) rfl rfl (Nat.le_refl _) rfl rfl rfl ?_
  have c := no60z
  refine Wp.seq ?_
  refine Wp.text ?_
  refine WpOps.keep 2 (Value.pointer none) (by kernel_rfl) (by kernel_rfl) (by kernel_rfl) ?_ (fun cf => (by kernel_rfl))
  refine WpOps.nil ?_
  refine thenK_at ?_
  refine Wp.seq ?_
  refine Wp.seq ?_
  refine Wp.text ?_
  refine WpOps.keep 7 (Value.pointer (some (Addr.mk 0 0 none))) (by kernel_rfl) (by kernel_rfl) (by kernel_rfl) ?_ (fun cf => (by kernel_rfl))
  refine WpOps.called 8 60 [Value.pointer (some (Addr.mk 0 0 none))] (by kernel_rfl) (by kernel_rfl) (by kernel_rfl) (by kernel_rfl) (fun cf => (by kernel_rfl)) ?_
  refine WpCall.lent [0] (c) (by decide) ⟨⟨[Value.int IntKind.i64 0, Value.int IntKind.i64 0, Value.slice none 0 0], (by kernel_rfl), (by kernel_rfl), (by kernel_rfl)⟩, trivial⟩ (by kernel_rfl) (Value.bool true) ([Blk.mk 66 true [Value.int IntKind.i64 0, Value.int IntKind.i64 0, Value.slice none 0 0]]) (.cons (by kernel_rfl) .nil) (by kernel_rfl) (Heap.set (heapOf [zs]) 0 (some (Blk.mk 66 true [Value.int IntKind.i64 0, Value.int IntKind.i64 0, Value.slice none 0 0]))) (by kernel_rfl) ?_
  refine WpOps.nil ?_
  refine thenK_at ?_
  refine Wp.on (by kernel_rfl) ?_
  refine Wp.seq ?_
  refine Wp.text ?_
  refine WpOps.keep 2 (Value.pointer none) (by kernel_rfl) (by kernel_rfl) (by kernel_rfl) ?_ (fun cf => (by kernel_rfl))
  refine WpOps.nil ?_
  refine thenK_at ?_
  refine Wp.ret ?_
  refine thenK_ret ?_
  refine endK_retn [Value.pointer none] (Value.pointer none) (by kernel_rfl) (by kernel_rfl) ?_
  exact ⟨[0], by decide, by kernel_rfl, ⟨⟨_, by kernel_rfl, .cons (.inl ⟨rfl, rfl⟩) (.cons (.inl ⟨rfl, rfl⟩) (.cons (.inl ⟨rfl, rfl⟩) .nil))⟩, trivial⟩, .w (.un rfl rfl)⟩
theorem f9 : E.funcs 9 = some Try.f9 := by kernel_rfl
theorem law9 (g : Gr) (x : Nat) (l : List Int) : Fun E 9 [gv g, sl x l] (.bool true) := by
  refine Fun.of f9 rfl (of_decide_eq_true (by kernel_rfl)) rfl ?_
  have c1 := take32n g
  have c2 := take32z g
  have c3 := tick34n x l
  have c4 := tick34z x l
  have c5 := open33n
  have c6 := copy35n
  have c7 := copy35z
  have c8 := sane19
  refine Wp.seq ?_
  refine Wp.text ?_
  refine WpOps.made 2 (Value.pointer (some (Addr.mk 0 0 none))) (Blk.mk 24 true [Value.iface 3 (Value.iface (List.length (Gr.fr g)) (Value.iface (Gr.fx g) (Value.agg (List.toArray (List.map (fun n => Value.int IntKind.i64 n) (Gr.fr g)))))), Value.iface 3 (Value.iface (List.length (Gr.to g)) (Value.iface (Gr.tx g) (Value.agg (List.toArray (List.map (fun n => Value.int IntKind.i64 n) (Gr.to g)))))), Value.int IntKind.i64 (Gr.number g), Value.int IntKind.i64 (Gr.life g), Value.int IntKind.i64 (Gr.at' g), Value.int IntKind.i64 (Gr.total g), Value.int IntKind.i64 (Gr.report g), Value.bool (Gr.more g), Value.bool (Gr.may g), Value.bool (Gr.wants g), Value.string (Gr.data g)]) (by kernel_rfl) (by kernel_rfl) (by kernel_rfl) ?_ (fun cf => (by kernel_rfl))
  refine WpOps.keep 4 (Value.bool false) (by kernel_rfl) (by kernel_rfl) (by kernel_rfl) ?_ (fun cf => (by kernel_rfl))
  refine WpOps.nil ?_
  refine thenK_at ?_
  refine Wp.seq ?_
  refine Wp.text ?_
  refine WpOps.keep 5 (Value.pointer none) (by kernel_rfl) (by kernel_rfl) (by kernel_rfl) ?_ (fun cf => (by kernel_rfl))
  refine WpOps.nil ?_
  refine thenK_at ?_
  refine Wp.seq ?_
  refine Wp.text ?_
  refine WpOps.keep 17 (Value.agg #[Value.int IntKind.i64 0, Value.int IntKind.i64 0, Value.slice none 0 0]) (by kernel_rfl) (by kernel_rfl) (by kernel_rfl) ?_ (fun cf => (by kernel_rfl))
  refine WpOps.made 18 (Value.pointer (some (Addr.mk 1 0 none))) (Blk.mk 66 true [Value.int IntKind.i64 0, Value.int IntKind.i64 0, Value.slice none 0 0]) (by kernel_rfl) (by kernel_rfl) (by kernel_rfl) ?_ (fun cf => (by kernel_rfl))
  refine WpOps.keep 6 (Value.pointer (some (Addr.mk 1 0 none))) (by kernel_rfl) (by kernel_rfl) (by kernel_rfl) ?_ (fun cf => (by kernel_rfl))
  refine WpOps.nil ?_
  refine thenK_at ?_
  refine Wp.seq ?_
  refine Wp.text ?_
  refine WpOps.keep 20 (Value.pointer none) (by kernel_rfl) (by kernel_rfl) (by kernel_rfl) ?_ (fun cf => (by kernel_rfl))
  refine WpOps.keep 21 (Value.agg #[Value.iface 3 (Value.iface (List.length (Gr.fr g)) (Value.iface (Gr.fx g) (Value.agg (List.toArray (List.map (fun n => Value.int IntKind.i64 n) (Gr.fr g)))))), Value.iface 3 (Value.iface (List.length (Gr.to g)) (Value.iface (Gr.tx g) (Value.agg (List.toArray (List.map (fun n => Value.int IntKind.i64 n) (Gr.to g)))))), Value.int IntKind.i64 (Gr.number g), Value.int IntKind.i64 (Gr.life g), Value.int IntKind.i64 (Gr.at' g), Value.int IntKind.i64 (Gr.total g), Value.int IntKind.i64 (Gr.report g), Value.bool (Gr.more g), Value.bool (Gr.may g), Value.bool (Gr.wants g), Value.string (Gr.data g)]) (by kernel_rfl) (by kernel_rfl) (by kernel_rfl) ?_ (fun cf => (by kernel_rfl))
  refine WpOps.called 22 32 [Value.pointer none, Value.agg #[Value.iface 3 (Value.iface (List.length (Gr.fr g)) (Value.iface (Gr.fx g) (Value.agg (List.toArray (List.map (fun n => Value.int IntKind.i64 n) (Gr.fr g)))))), Value.iface 3 (Value.iface (List.length (Gr.to g)) (Value.iface (Gr.tx g) (Value.agg (List.toArray (List.map (fun n => Value.int IntKind.i64 n) (Gr.to g)))))), Value.int IntKind.i64 (Gr.number g), Value.int IntKind.i64 (Gr.life g), Value.int IntKind.i64 (Gr.at' g), Value.int IntKind.i64 (Gr.total g), Value.int IntKind.i64 (Gr.report g), Value.bool (Gr.more g), Value.bool (Gr.may g), Value.bool (Gr.wants g), Value.string (Gr.data g)]] (by kernel_rfl) (by kernel_rfl) (by kernel_rfl) (by kernel_rfl) (fun cf => (by kernel_rfl)) ?_
  refine WpCall.lent [] (c1) (by decide) trivial (by kernel_rfl) (Value.tuple #[Value.agg (List.toArray (List.map (unC []) (Array.toList #[Value.slice none 0 0, Value.slice none 0 0, Value.int IntKind.i64 0, Value.int IntKind.i64 0, Value.int IntKind.i64 0, Value.int IntKind.i64 0, Value.int IntKind.i64 0, Value.bool false, Value.bool false, Value.bool false, Value.string ByteArray.empty]))), Value.bool false, Value.int IntKind.i64 1]) ([]) .nil (by kernel_rfl) (Heap.alloc (Heap.alloc Heap.none (Blk.mk 24 true [Value.iface 3 (Value.iface (List.length (Gr.fr g)) (Value.iface (Gr.fx g) (Value.agg (List.toArray (List.map (fun n => Value.int IntKind.i64 n) (Gr.fr g)))))), Value.iface 3 (Value.iface (List.length (Gr.to g)) (Value.iface (Gr.tx g) (Value.agg (List.toArray (List.map (fun n => Value.int IntKind.i64 n) (Gr.to g)))))), Value.int IntKind.i64 (Gr.number g), Value.int IntKind.i64 (Gr.life g), Value.int IntKind.i64 (Gr.at' g), Value.int IntKind.i64 (Gr.total g), Value.int IntKind.i64 (Gr.report g), Value.bool (Gr.more g), Value.bool (Gr.may g), Value.bool (Gr.wants g), Value.string (Gr.data g)])) (Blk.mk 66 true [Value.int IntKind.i64 0, Value.int IntKind.i64 0, Value.slice none 0 0])) (by kernel_rfl) ?_
  refine WpOps.keep 19 (Value.tuple #[Value.agg #[Value.slice none 0 0, Value.slice none 0 0, Value.int IntKind.i64 0, Value.int IntKind.i64 0, Value.int IntKind.i64 0, Value.int IntKind.i64 0, Value.int IntKind.i64 0, Value.bool false, Value.bool false, Value.bool false, Value.string ByteArray.empty], Value.bool false, Value.int IntKind.i64 1]) (by kernel_rfl) (by kernel_rfl) (by kernel_rfl) ?_ (fun cf => (by kernel_rfl))
  refine WpOps.keep 23 (Value.agg #[Value.slice none 0 0, Value.slice none 0 0, Value.int IntKind.i64 0, Value.int IntKind.i64 0, Value.int IntKind.i64 0, Value.int IntKind.i64 0, Value.int IntKind.i64 0, Value.bool false, Value.bool false, Value.bool false, Value.string ByteArray.empty]) (by kernel_rfl) (by kernel_rfl) (by kernel_rfl) ?_ (fun cf => (by kernel_rfl))
  refine WpOps.keep 24 (Value.bool false) (by kernel_rfl) (by kernel_rfl) (by kernel_rfl) ?_ (fun cf => (by kernel_rfl))
  refine WpOps.keep 25 (Value.int IntKind.i64 1) (by kernel_rfl) (by kernel_rfl) (by kernel_rfl) ?_ (fun cf => (by kernel_rfl))
  refine WpOps.made 7 (Value.pointer (some (Addr.mk 2 0 none))) (Blk.mk 24 true [Value.slice none 0 0, Value.slice none 0 0, Value.int IntKind.i64 0, Value.int IntKind.i64 0, Value.int IntKind.i64 0, Value.int IntKind.i64 0, Value.int IntKind.i64 0, Value.bool false, Value.bool false, Value.bool false, Value.string (ByteArray.mk #[])]) (by kernel_rfl) (by kernel_rfl) (by kernel_rfl) ?_ (fun cf => (by kernel_rfl))
  refine WpOps.laid (Value.tuple #[]) (2) (Blk.mk 24 true [Value.slice none 0 0, Value.slice none 0 0, Value.int IntKind.i64 0, Value.int IntKind.i64 0, Value.int IntKind.i64 0, Value.int IntKind.i64 0, Value.int IntKind.i64 0, Value.bool false, Value.bool false, Value.bool false, Value.string ByteArray.empty]) (by kernel_rfl) (by kernel_rfl) (by kernel_rfl) ?_ (fun cf => (by kernel_rfl))
  refine WpOps.keep 8 (Value.bool false) (by kernel_rfl) (by kernel_rfl) (by kernel_rfl) ?_ (fun cf => (by kernel_rfl))
  refine WpOps.keep 9 (Value.int IntKind.i64 1) (by kernel_rfl) (by kernel_rfl) (by kernel_rfl) ?_ (fun cf => (by kernel_rfl))
  refine WpOps.nil ?_
  refine thenK_at ?_
  refine Wp.seq ?_
  refine Wp.text ?_
  refine WpOps.keep 27 (Value.pointer (some (Addr.mk 1 0 none))) (by kernel_rfl) (by kernel_rfl) (by kernel_rfl) ?_ (fun cf => (by kernel_rfl))
  refine WpOps.keep 28 (Value.agg #[Value.iface 3 (Value.iface (List.length (Gr.fr g)) (Value.iface (Gr.fx g) (Value.agg (List.toArray (List.map (fun n => Value.int IntKind.i64 n) (Gr.fr g)))))), Value.iface 3 (Value.iface (List.length (Gr.to g)) (Value.iface (Gr.tx g) (Value.agg (List.toArray (List.map (fun n => Value.int IntKind.i64 n) (Gr.to g)))))), Value.int IntKind.i64 (Gr.number g), Value.int IntKind.i64 (Gr.life g), Value.int IntKind.i64 (Gr.at' g), Value.int IntKind.i64 (Gr.total g), Value.int IntKind.i64 (Gr.report g), Value.bool (Gr.more g), Value.bool (Gr.may g), Value.bool (Gr.wants g), Value.string (Gr.data g)]) (by kernel_rfl) (by kernel_rfl) (by kernel_rfl) ?_ (fun cf => (by kernel_rfl))
  refine WpOps.called 29 32 [Value.pointer (some (Addr.mk 1 0 none)), Value.agg #[Value.iface 3 (Value.iface (List.length (Gr.fr g)) (Value.iface (Gr.fx g) (Value.agg (List.toArray (List.map (fun n => Value.int IntKind.i64 n) (Gr.fr g)))))), Value.iface 3 (Value.iface (List.length (Gr.to g)) (Value.iface (Gr.tx g) (Value.agg (List.toArray (List.map (fun n => Value.int IntKind.i64 n) (Gr.to g)))))), Value.int IntKind.i64 (Gr.number g), Value.int IntKind.i64 (Gr.life g), Value.int IntKind.i64 (Gr.at' g), Value.int IntKind.i64 (Gr.total g), Value.int IntKind.i64 (Gr.report g), Value.bool (Gr.more g), Value.bool (Gr.may g), Value.bool (Gr.wants g), Value.string (Gr.data g)]] (by kernel_rfl) (by kernel_rfl) (by kernel_rfl) (by kernel_rfl) (fun cf => (by kernel_rfl)) ?_
  refine WpCall.lent [1] (c2) (by decide) ⟨⟨[Value.int IntKind.i64 0, Value.int IntKind.i64 0, Value.slice none 0 0], (by kernel_rfl), (by kernel_rfl), (by kernel_rfl)⟩, trivial⟩ (by kernel_rfl) (Value.tuple #[Value.agg (List.toArray (List.map (unC [1]) (Array.toList #[Value.slice none 0 0, Value.slice none 0 0, Value.int IntKind.i64 0, Value.int IntKind.i64 0, Value.int IntKind.i64 0, Value.int IntKind.i64 0, Value.int IntKind.i64 0, Value.bool false, Value.bool false, Value.bool false, Value.string ByteArray.empty]))), Value.bool false, Value.int IntKind.i64 1]) ([Blk.mk 66 true [Value.int IntKind.i64 0, Value.int IntKind.i64 0, Value.slice none 0 0]]) (.cons (by kernel_rfl) .nil) (by kernel_rfl) (Heap.set (Heap.set (Heap.alloc (Heap.alloc (Heap.alloc Heap.none (Blk.mk 24 true [Value.iface 3 (Value.iface (List.length (Gr.fr g)) (Value.iface (Gr.fx g) (Value.agg (List.toArray (List.map (fun n => Value.int IntKind.i64 n) (Gr.fr g)))))), Value.iface 3 (Value.iface (List.length (Gr.to g)) (Value.iface (Gr.tx g) (Value.agg (List.toArray (List.map (fun n => Value.int IntKind.i64 n) (Gr.to g)))))), Value.int IntKind.i64 (Gr.number g), Value.int IntKind.i64 (Gr.life g), Value.int IntKind.i64 (Gr.at' g), Value.int IntKind.i64 (Gr.total g), Value.int IntKind.i64 (Gr.report g), Value.bool (Gr.more g), Value.bool (Gr.may g), Value.bool (Gr.wants g), Value.string (Gr.data g)])) (Blk.mk 66 true [Value.int IntKind.i64 0, Value.int IntKind.i64 0, Value.slice none 0 0])) (Blk.mk 24 true [Value.slice none 0 0, Value.slice none 0 0, Value.int IntKind.i64 0, Value.int IntKind.i64 0, Value.int IntKind.i64 0, Value.int IntKind.i64 0, Value.int IntKind.i64 0, Value.bool false, Value.bool false, Value.bool false, Value.string (ByteArray.mk #[])])) 2 (some (Blk.mk 24 true [Value.slice none 0 0, Value.slice none 0 0, Value.int IntKind.i64 0, Value.int IntKind.i64 0, Value.int IntKind.i64 0, Value.int IntKind.i64 0, Value.int IntKind.i64 0, Value.bool false, Value.bool false, Value.bool false, Value.string ByteArray.empty]))) 1 (some (Blk.mk 66 true [Value.int IntKind.i64 0, Value.int IntKind.i64 0, Value.slice none 0 0]))) (by kernel_rfl) ?_
  refine WpOps.keep 26 (Value.tuple #[Value.agg #[Value.slice none 0 0, Value.slice none 0 0, Value.int IntKind.i64 0, Value.int IntKind.i64 0, Value.int IntKind.i64 0, Value.int IntKind.i64 0, Value.int IntKind.i64 0, Value.bool false, Value.bool false, Value.bool false, Value.string ByteArray.empty], Value.bool false, Value.int IntKind.i64 1]) (by kernel_rfl) (by kernel_rfl) (by kernel_rfl) ?_ (fun cf => (by kernel_rfl))
  refine WpOps.keep 30 (Value.agg #[Value.slice none 0 0, Value.slice none 0 0, Value.int IntKind.i64 0, Value.int IntKind.i64 0, Value.int IntKind.i64 0, Value.int IntKind.i64 0, Value.int IntKind.i64 0, Value.bool false, Value.bool false, Value.bool false, Value.string ByteArray.empty]) (by kernel_rfl) (by kernel_rfl) (by kernel_rfl) ?_ (fun cf => (by kernel_rfl))
  refine WpOps.keep 31 (Value.bool false) (by kernel_rfl) (by kernel_rfl) (by kernel_rfl) ?_ (fun cf => (by kernel_rfl))
  refine WpOps.keep 32 (Value.int IntKind.i64 1) (by kernel_rfl) (by kernel_rfl) (by kernel_rfl) ?_ (fun cf => (by kernel_rfl))
  refine WpOps.made 10 (Value.pointer (some (Addr.mk 3 0 none))) (Blk.mk 24 true [Value.slice none 0 0, Value.slice none 0 0, Value.int IntKind.i64 0, Value.int IntKind.i64 0, Value.int IntKind.i64 0, Value.int IntKind.i64 0, Value.int IntKind.i64 0, Value.bool false, Value.bool false, Value.bool false, Value.string (ByteArray.mk #[])]) (by kernel_rfl) (by kernel_rfl) (by kernel_rfl) ?_ (fun cf => (by kernel_rfl))
  refine WpOps.laid (Value.tuple #[]) (3) (Blk.mk 24 true [Value.slice none 0 0, Value.slice none 0 0, Value.int IntKind.i64 0, Value.int IntKind.i64 0, Value.int IntKind.i64 0, Value.int IntKind.i64 0, Value.int IntKind.i64 0, Value.bool false, Value.bool false, Value.bool false, Value.string ByteArray.empty]) (by kernel_rfl) (by kernel_rfl) (by kernel_rfl) ?_ (fun cf => (by kernel_rfl))
  refine WpOps.keep 11 (Value.bool false) (by kernel_rfl) (by kernel_rfl) (by kernel_rfl) ?_ (fun cf => (by kernel_rfl))
  refine WpOps.keep 12 (Value.int IntKind.i64 1) (by kernel_rfl) (by kernel_rfl) (by kernel_rfl) ?_ (fun cf => (by kernel_rfl))
  refine WpOps.nil ?_
  refine thenK_at ?_
  refine Wp.seq ?_
  refine Wp.text ?_
  refine WpOps.keep 34 (Value.pointer none) (by kernel_rfl) (by kernel_rfl) (by kernel_rfl) ?_ (fun cf => (by kernel_rfl))
  refine WpOps.keep 35 (Value.iface 3 (Value.iface (List.length l) (Value.iface x (Value.agg (List.toArray (List.map (fun n => Value.int IntKind.i64 n) l)))))) (by kernel_rfl) (by kernel_rfl) (by kernel_rfl) ?_ (fun cf => (by kernel_rfl))
  refine WpOps.called 36 34 [Value.pointer none, Value.iface 3 (Value.iface (List.length l) (Value.iface x (Value.agg (List.toArray (List.map (fun n => Value.int IntKind.i64 n) l)))))] (by kernel_rfl) (by kernel_rfl) (by kernel_rfl) (by kernel_rfl) (fun cf => (by kernel_rfl)) ?_
  refine WpCall.lent [] (c3) (by decide) trivial (by kernel_rfl) (Value.tuple #[Value.slice none 0 0, Value.int IntKind.i64 1]) ([]) .nil (by kernel_rfl) (Heap.set (Heap.alloc (Heap.set (Heap.set (Heap.alloc (Heap.alloc (Heap.alloc Heap.none (Blk.mk 24 true [Value.iface 3 (Value.iface (List.length (Gr.fr g)) (Value.iface (Gr.fx g) (Value.agg (List.toArray (List.map (fun n => Value.int IntKind.i64 n) (Gr.fr g)))))), Value.iface 3 (Value.iface (List.length (Gr.to g)) (Value.iface (Gr.tx g) (Value.agg (List.toArray (List.map (fun n => Value.int IntKind.i64 n) (Gr.to g)))))), Value.int IntKind.i64 (Gr.number g), Value.int IntKind.i64 (Gr.life g), Value.int IntKind.i64 (Gr.at' g), Value.int IntKind.i64 (Gr.total g), Value.int IntKind.i64 (Gr.report g), Value.bool (Gr.more g), Value.bool (Gr.may g), Value.bool (Gr.wants g), Value.string (Gr.data g)])) (Blk.mk 66 true [Value.int IntKind.i64 0, Value.int IntKind.i64 0, Value.slice none 0 0])) (Blk.mk 24 true [Value.slice none 0 0, Value.slice none 0 0, Value.int IntKind.i64 0, Value.int IntKind.i64 0, Value.int IntKind.i64 0, Value.int IntKind.i64 0, Value.int IntKind.i64 0, Value.bool false, Value.bool false, Value.bool false, Value.string (ByteArray.mk #[])])) 2 (some (Blk.mk 24 true [Value.slice none 0 0, Value.slice none 0 0, Value.int IntKind.i64 0, Value.int IntKind.i64 0, Value.int IntKind.i64 0, Value.int IntKind.i64 0, Value.int IntKind.i64 0, Value.bool false, Value.bool false, Value.bool false, Value.string ByteArray.empty]))) 1 (some (Blk.mk 66 true [Value.int IntKind.i64 0, Value.int IntKind.i64 0, Value.slice none 0 0]))) (Blk.mk 24 true [Value.slice none 0 0, Value.slice none 0 0, Value.int IntKind.i64 0, Value.int IntKind.i64 0, Value.int IntKind.i64 0, Value.int IntKind.i64 0, Value.int IntKind.i64 0, Value.bool false, Value.bool false, Value.bool false, Value.string (ByteArray.mk #[])])) 3 (some (Blk.mk 24 true [Value.slice none 0 0, Value.slice none 0 0, Value.int IntKind.i64 0, Value.int IntKind.i64 0, Value.int IntKind.i64 0, Value.int IntKind.i64 0, Value.int IntKind.i64 0, Value.bool false, Value.bool false, Value.bool false, Value.string ByteArray.empty]))) (by kernel_rfl) ?_
  refine WpOps.keep 33 (Value.tuple #[Value.slice none 0 0, Value.int IntKind.i64 1]) (by kernel_rfl) (by kernel_rfl) (by kernel_rfl) ?_ (fun cf => (by kernel_rfl))
  refine WpOps.keep 37 (Value.slice none 0 0) (by kernel_rfl) (by kernel_rfl) (by kernel_rfl) ?_ (fun cf => (by kernel_rfl))
  refine WpOps.keep 38 (Value.int IntKind.i64 1) (by kernel_rfl) (by kernel_rfl) (by kernel_rfl) ?_ (fun cf => (by kernel_rfl))
  refine WpOps.keep 13 (Value.slice none 0 0) (by kernel_rfl) (by kernel_rfl) (by kernel_rfl) ?_ (fun cf => (by kernel_rfl))
  refine WpOps.keep 14 (Value.int IntKind.i64 1) (by kernel_rfl) (by kernel_rfl) (by kernel_rfl) ?_ (fun cf => (by kernel_rfl))
  refine WpOps.nil ?_
  refine thenK_at ?_
  refine Wp.seq ?_
  refine Wp.text ?_
  refine WpOps.keep 40 (Value.pointer (some (Addr.mk 1 0 none))) (by kernel_rfl) (by kernel_rfl) (by kernel_rfl) ?_ (fun cf => (by kernel_rfl))
  refine WpOps.keep 41 (Value.iface 3 (Value.iface (List.length l) (Value.iface x (Value.agg (List.toArray (List.map (fun n => Value.int IntKind.i64 n) l)))))) (by kernel_rfl) (by kernel_rfl) (by kernel_rfl) ?_ (fun cf => (by kernel_rfl))
  refine WpOps.called 42 34 [Value.pointer (some (Addr.mk 1 0 none)), Value.iface 3 (Value.iface (List.length l) (Value.iface x (Value.agg (List.toArray (List.map (fun n => Value.int IntKind.i64 n) l)))))] (by kernel_rfl) (by kernel_rfl) (by kernel_rfl) (by kernel_rfl) (fun cf => (by kernel_rfl)) ?_
  refine WpCall.lent [1] (c4) (by decide) ⟨⟨[Value.int IntKind.i64 0, Value.int IntKind.i64 0, Value.slice none 0 0], (by kernel_rfl), (by kernel_rfl), (by kernel_rfl)⟩, trivial⟩ (by kernel_rfl) (Value.tuple #[Value.slice none 0 0, Value.int IntKind.i64 1]) ([Blk.mk 66 true [Value.int IntKind.i64 0, Value.int IntKind.i64 0, Value.slice none 0 0]]) (.cons (by kernel_rfl) .nil) (by kernel_rfl) (Heap.set (Heap.set (Heap.alloc (Heap.set (Heap.set (Heap.alloc (Heap.alloc (Heap.alloc Heap.none (Blk.mk 24 true [Value.iface 3 (Value.iface (List.length (Gr.fr g)) (Value.iface (Gr.fx g) (Value.agg (List.toArray (List.map (fun n => Value.int IntKind.i64 n) (Gr.fr g)))))), Value.iface 3 (Value.iface (List.length (Gr.to g)) (Value.iface (Gr.tx g) (Value.agg (List.toArray (List.map (fun n => Value.int IntKind.i64 n) (Gr.to g)))))), Value.int IntKind.i64 (Gr.number g), Value.int IntKind.i64 (Gr.life g), Value.int IntKind.i64 (Gr.at' g), Value.int IntKind.i64 (Gr.total g), Value.int IntKind.i64 (Gr.report g), Value.bool (Gr.more g), Value.bool (Gr.may g), Value.bool (Gr.wants g), Value.string (Gr.data g)])) (Blk.mk 66 true [Value.int IntKind.i64 0, Value.int IntKind.i64 0, Value.slice none 0 0])) (Blk.mk 24 true [Value.slice none 0 0, Value.slice none 0 0, Value.int IntKind.i64 0, Value.int IntKind.i64 0, Value.int IntKind.i64 0, Value.int IntKind.i64 0, Value.int IntKind.i64 0, Value.bool false, Value.bool false, Value.bool false, Value.string (ByteArray.mk #[])])) 2 (some (Blk.mk 24 true [Value.slice none 0 0, Value.slice none 0 0, Value.int IntKind.i64 0, Value.int IntKind.i64 0, Value.int IntKind.i64 0, Value.int IntKind.i64 0, Value.int IntKind.i64 0, Value.bool false, Value.bool false, Value.bool false, Value.string ByteArray.empty]))) 1 (some (Blk.mk 66 true [Value.int IntKind.i64 0, Value.int IntKind.i64 0, Value.slice none 0 0]))) (Blk.mk 24 true [Value.slice none 0 0, Value.slice none 0 0, Value.int IntKind.i64 0, Value.int IntKind.i64 0, Value.int IntKind.i64 0, Value.int IntKind.i64 0, Value.int IntKind.i64 0, Value.bool false, Value.bool false, Value.bool false, Value.string (ByteArray.mk #[])])) 3 (some (Blk.mk 24 true [Value.slice none 0 0, Value.slice none 0 0, Value.int IntKind.i64 0, Value.int IntKind.i64 0, Value.int IntKind.i64 0, Value.int IntKind.i64 0, Value.int IntKind.i64 0, Value.bool false, Value.bool false, Value.bool false, Value.string ByteArray.empty]))) 1 (some (Blk.mk 66 true [Value.int IntKind.i64 0, Value.int IntKind.i64 0, Value.slice none 0 0]))) (by kernel_rfl) ?_
  refine WpOps.keep 39 (Value.tuple #[Value.slice none 0 0, Value.int IntKind.i64 1]) (by kernel_rfl) (by kernel_rfl) (by kernel_rfl) ?_ (fun cf => (by kernel_rfl))
  refine WpOps.keep 43 (Value.slice none 0 0) (by kernel_rfl) (by kernel_rfl) (by kernel_rfl) ?_ (fun cf => (by kernel_rfl))
  refine WpOps.keep 44 (Value.int IntKind.i64 1) (by kernel_rfl) (by kernel_rfl) (by kernel_rfl) ?_ (fun cf => (by kernel_rfl))
  refine WpOps.keep 15 (Value.slice none 0 0) (by kernel_rfl) (by kernel_rfl) (by kernel_rfl) ?_ (fun cf => (by kernel_rfl))
  refine WpOps.keep 16 (Value.int IntKind.i64 1) (by kernel_rfl) (by kernel_rfl) (by kernel_rfl) ?_ (fun cf => (by kernel_rfl))
  refine WpOps.nil ?_
  refine thenK_at ?_
  refine Wp.seq ?_
  refine Wp.text ?_
  refine WpOps.keep 45 (Value.int IntKind.i64 1) (by kernel_rfl) (by kernel_rfl) (by kernel_rfl) ?_ (fun cf => (by kernel_rfl))
  refine WpOps.keep 46 (Value.bool true) (by kernel_rfl) (by kernel_rfl) (by kernel_rfl) ?_ (fun cf => (by kernel_rfl))
  refine WpOps.keep 47 (Value.bool true) (by kernel_rfl) (by kernel_rfl) (by kernel_rfl) ?_ (fun cf => (by kernel_rfl))
  refine WpOps.keep 48 (Value.int IntKind.i64 1) (by kernel_rfl) (by kernel_rfl) (by kernel_rfl) ?_ (fun cf => (by kernel_rfl))
  refine WpOps.keep 49 (Value.bool true) (by kernel_rfl) (by kernel_rfl) (by kernel_rfl) ?_ (fun cf => (by kernel_rfl))
  refine WpOps.keep 50 (Value.bool true) (by kernel_rfl) (by kernel_rfl) (by kernel_rfl) ?_ (fun cf => (by kernel_rfl))
  refine WpOps.keep 51 (Value.bool true) (by kernel_rfl) (by kernel_rfl) (by kernel_rfl) ?_ (fun cf => (by kernel_rfl))
  refine WpOps.keep 52 (Value.int IntKind.i64 1) (by kernel_rfl) (by kernel_rfl) (by kernel_rfl) ?_ (fun cf => (by kernel_rfl))
  refine WpOps.keep 53 (Value.bool true) (by kernel_rfl) (by kernel_rfl) (by kernel_rfl) ?_ (fun cf => (by kernel_rfl))
  refine WpOps.keep 54 (Value.bool true) (by kernel_rfl) (by kernel_rfl) (by kernel_rfl) ?_ (fun cf => (by kernel_rfl))
  refine WpOps.keep 55 (Value.bool true) (by kernel_rfl) (by kernel_rfl) (by kernel_rfl) ?_ (fun cf => (by kernel_rfl))
  refine WpOps.keep 56 (Value.int IntKind.i64 1) (by kernel_rfl) (by kernel_rfl) (by kernel_rfl) ?_ (fun cf => (by kernel_rfl))
  refine WpOps.keep 57 (Value.bool true) (by kernel_rfl) (by kernel_rfl) (by kernel_rfl) ?_ (fun cf => (by kernel_rfl))
  refine WpOps.keep 58 (Value.bool true) (by kernel_rfl) (by kernel_rfl) (by kernel_rfl) ?_ (fun cf => (by kernel_rfl))
  refine WpOps.keep 59 (Value.bool true) (by kernel_rfl) (by kernel_rfl) (by kernel_rfl) ?_ (fun cf => (by kernel_rfl))
  refine WpOps.keep 60 (Value.pointer none) (by kernel_rfl) (by kernel_rfl) (by kernel_rfl) ?_ (fun cf => (by kernel_rfl))
  refine WpOps.called 61 33 [Value.pointer none] (by kernel_rfl) (by kernel_rfl) (by kernel_rfl) (by kernel_rfl) (fun cf => (by kernel_rfl)) ?_
  refine WpCall.lent [] (c5) (by decide) trivial (by kernel_rfl) (Value.int IntKind.i64 0) ([]) .nil (by kernel_rfl) (Heap.set (Heap.set (Heap.alloc (Heap.set (Heap.set (Heap.alloc (Heap.alloc (Heap.alloc Heap.none (Blk.mk 24 true [Value.iface 3 (Value.iface (List.length (Gr.fr g)) (Value.iface (Gr.fx g) (Value.agg (List.toArray (List.map (fun n => Value.int IntKind.i64 n) (Gr.fr g)))))), Value.iface 3 (Value.iface (List.length (Gr.to g)) (Value.iface (Gr.tx g) (Value.agg (List.toArray (List.map (fun n => Value.int IntKind.i64 n) (Gr.to g)))))), Value.int IntKind.i64 (Gr.number g), Value.int IntKind.i64 (Gr.life g), Value.int IntKind.i64 (Gr.at' g), Value.int IntKind.i64 (Gr.total g), Value.int IntKind.i64 (Gr.report g), Value.bool (Gr.more g), Value.bool (Gr.may g), Value.bool (Gr.wants g), Value.string (Gr.data g)])) (Blk.mk 66 true [Value.int IntKind.i64 0, Value.int IntKind.i64 0, Value.slice none 0 0])) (Blk.mk 24 true [Value.slice none 0 0, Value.slice none 0 0, Value.int IntKind.i64 0, Value.int IntKind.i64 0, Value.int IntKind.i64 0, Value.int IntKind.i64 0, Value.int IntKind.i64 0, Value.bool false, Value.bool false, Value.bool false, Value.string (ByteArray.mk #[])])) 2 (some (Blk.mk 24 true [Value.slice none 0 0, Value.slice none 0 0, Value.int IntKind.i64 0, Value.int IntKind.i64 0, Value.int IntKind.i64 0, Value.int IntKind.i64 0, Value.int IntKind.i64 0, Value.bool false, Value.bool false, Value.bool false, Value.string ByteArray.empty]))) 1 (some (Blk.mk 66 true [Value.int IntKind.i64 0, Value.int IntKind.i64 0, Value.slice none 0 0]))) (Blk.mk 24 true [Value.slice none 0 0, Value.slice none 0 0, Value.int IntKind.i64 0, Value.int IntKind.i64 0, Value.int IntKind.i64 0, Value.int IntKind.i64 0, Value.int IntKind.i64 0, Value.bool false, Value.bool false, Value.bool false, Value.string (ByteArray.mk #[])])) 3 (some (Blk.mk 24 true [Value.slice none 0 0, Value.slice none 0 0, Value.int IntKind.i64 0, Value.int IntKind.i64 0, Value.int IntKind.i64 0, Value.int IntKind.i64 0, Value.int IntKind.i64 0, Value.bool false, Value.bool false, Value.bool false, Value.string ByteArray.empty]))) 1 (some (Blk.mk 66 true [Value.int IntKind.i64 0, Value.int IntKind.i64 0, Value.slice none 0 0]))) (by kernel_rfl) ?_
  refine WpOps.keep 62 (Value.bool true) (by kernel_rfl) (by kernel_rfl) (by kernel_rfl) ?_ (fun cf => (by kernel_rfl))
  refine WpOps.keep 63 (Value.bool true) (by kernel_rfl) (by kernel_rfl) (by kernel_rfl) ?_ (fun cf => (by kernel_rfl))
  refine WpOps.keep 64 (Value.bool true) (by kernel_rfl) (by kernel_rfl) (by kernel_rfl) ?_ (fun cf => (by kernel_rfl))
  refine WpOps.keep 65 (Value.pointer none) (by kernel_rfl) (by kernel_rfl) (by kernel_rfl) ?_ (fun cf => (by kernel_rfl))
  refine WpOps.called 66 35 [Value.pointer none] (by kernel_rfl) (by kernel_rfl) (by kernel_rfl) (by kernel_rfl) (fun cf => (by kernel_rfl)) ?_
  refine WpCall.lent [] (c6) (by decide) trivial (by kernel_rfl) (Value.pointer none) ([]) .nil (by kernel_rfl) (Heap.set (Heap.set (Heap.alloc (Heap.set (Heap.set (Heap.alloc (Heap.alloc (Heap.alloc Heap.none (Blk.mk 24 true [Value.iface 3 (Value.iface (List.length (Gr.fr g)) (Value.iface (Gr.fx g) (Value.agg (List.toArray (List.map (fun n => Value.int IntKind.i64 n) (Gr.fr g)))))), Value.iface 3 (Value.iface (List.length (Gr.to g)) (Value.iface (Gr.tx g) (Value.agg (List.toArray (List.map (fun n => Value.int IntKind.i64 n) (Gr.to g)))))), Value.int IntKind.i64 (Gr.number g), Value.int IntKind.i64 (Gr.life g), Value.int IntKind.i64 (Gr.at' g), Value.int IntKind.i64 (Gr.total g), Value.int IntKind.i64 (Gr.report g), Value.bool (Gr.more g), Value.bool (Gr.may g), Value.bool (Gr.wants g), Value.string (Gr.data g)])) (Blk.mk 66 true [Value.int IntKind.i64 0, Value.int IntKind.i64 0, Value.slice none 0 0])) (Blk.mk 24 true [Value.slice none 0 0, Value.slice none 0 0, Value.int IntKind.i64 0, Value.int IntKind.i64 0, Value.int IntKind.i64 0, Value.int IntKind.i64 0, Value.int IntKind.i64 0, Value.bool false, Value.bool false, Value.bool false, Value.string (ByteArray.mk #[])])) 2 (some (Blk.mk 24 true [Value.slice none 0 0, Value.slice none 0 0, Value.int IntKind.i64 0, Value.int IntKind.i64 0, Value.int IntKind.i64 0, Value.int IntKind.i64 0, Value.int IntKind.i64 0, Value.bool false, Value.bool false, Value.bool false, Value.string ByteArray.empty]))) 1 (some (Blk.mk 66 true [Value.int IntKind.i64 0, Value.int IntKind.i64 0, Value.slice none 0 0]))) (Blk.mk 24 true [Value.slice none 0 0, Value.slice none 0 0, Value.int IntKind.i64 0, Value.int IntKind.i64 0, Value.int IntKind.i64 0, Value.int IntKind.i64 0, Value.int IntKind.i64 0, Value.bool false, Value.bool false, Value.bool false, Value.string (ByteArray.mk #[])])) 3 (some (Blk.mk 24 true [Value.slice none 0 0, Value.slice none 0 0, Value.int IntKind.i64 0, Value.int IntKind.i64 0, Value.int IntKind.i64 0, Value.int IntKind.i64 0, Value.int IntKind.i64 0, Value.bool false, Value.bool false, Value.bool false, Value.string ByteArray.empty]))) 1 (some (Blk.mk 66 true [Value.int IntKind.i64 0, Value.int IntKind.i64 0, Value.slice none 0 0]))) (by kernel_rfl) ?_
  refine WpOps.keep 67 (Value.bool true) (by kernel_rfl) (by kernel_rfl) (by kernel_rfl) ?_ (fun cf => (by kernel_rfl))
  refine WpOps.keep 68 (Value.bool true) (by kernel_rfl) (by kernel_rfl) (by kernel_rfl) ?_ (fun cf => (by kernel_rfl))
  refine WpOps.keep 69 (Value.bool true) (by kernel_rfl) (by kernel_rfl) (by kernel_rfl) ?_ (fun cf => (by kernel_rfl))
  refine WpOps.keep 70 (Value.pointer (some (Addr.mk 1 0 none))) (by kernel_rfl) (by kernel_rfl) (by kernel_rfl) ?_ (fun cf => (by kernel_rfl))
  refine WpOps.called 71 35 [Value.pointer (some (Addr.mk 1 0 none))] (by kernel_rfl) (by kernel_rfl) (by kernel_rfl) (by kernel_rfl) (fun cf => (by kernel_rfl)) ?_
  refine WpCall.lent [1] (c7) (by decide) ⟨⟨[Value.int IntKind.i64 0, Value.int IntKind.i64 0, Value.slice none 0 0], (by kernel_rfl), (by kernel_rfl), (by kernel_rfl)⟩, trivial⟩ (by kernel_rfl) (Value.pointer none) ([Blk.mk 66 true [Value.int IntKind.i64 0, Value.int IntKind.i64 0, Value.slice none 0 0]]) (.cons (by kernel_rfl) .nil) (by kernel_rfl) (Heap.set (Heap.set (Heap.set (Heap.alloc (Heap.set (Heap.set (Heap.alloc (Heap.alloc (Heap.alloc Heap.none (Blk.mk 24 true [Value.iface 3 (Value.iface (List.length (Gr.fr g)) (Value.iface (Gr.fx g) (Value.agg (List.toArray (List.map (fun n => Value.int IntKind.i64 n) (Gr.fr g)))))), Value.iface 3 (Value.iface (List.length (Gr.to g)) (Value.iface (Gr.tx g) (Value.agg (List.toArray (List.map (fun n => Value.int IntKind.i64 n) (Gr.to g)))))), Value.int IntKind.i64 (Gr.number g), Value.int IntKind.i64 (Gr.life g), Value.int IntKind.i64 (Gr.at' g), Value.int IntKind.i64 (Gr.total g), Value.int IntKind.i64 (Gr.report g), Value.bool (Gr.more g), Value.bool (Gr.may g), Value.bool (Gr.wants g), Value.string (Gr.data g)])) (Blk.mk 66 true [Value.int IntKind.i64 0, Value.int IntKind.i64 0, Value.slice none 0 0])) (Blk.mk 24 true [Value.slice none 0 0, Value.slice none 0 0, Value.int IntKind.i64 0, Value.int IntKind.i64 0, Value.int IntKind.i64 0, Value.int IntKind.i64 0, Value.int IntKind.i64 0, Value.bool false, Value.bool false, Value.bool false, Value.string (ByteArray.mk #[])])) 2 (some (Blk.mk 24 true [Value.slice none 0 0, Value.slice none 0 0, Value.int IntKind.i64 0, Value.int IntKind.i64 0, Value.int IntKind.i64 0, Value.int IntKind.i64 0, Value.int IntKind.i64 0, Value.bool false, Value.bool false, Value.bool false, Value.string ByteArray.empty]))) 1 (some (Blk.mk 66 true [Value.int IntKind.i64 0, Value.int IntKind.i64 0, Value.slice none 0 0]))) (Blk.mk 24 true [Value.slice none 0 0, Value.slice none 0 0, Value.int IntKind.i64 0, Value.int IntKind.i64 0, Value.int IntKind.i64 0, Value.int IntKind.i64 0, Value.int IntKind.i64 0, Value.bool false, Value.bool false, Value.bool false, Value.string (ByteArray.mk #[])])) 3 (some (Blk.mk 24 true [Value.slice none 0 0, Value.slice none 0 0, Value.int IntKind.i64 0, Value.int IntKind.i64 0, Value.int IntKind.i64 0, Value.int IntKind.i64 0, Value.int IntKind.i64 0, Value.bool false, Value.bool false, Value.bool false, Value.string ByteArray.empty]))) 1 (some (Blk.mk 66 true [Value.int IntKind.i64 0, Value.int IntKind.i64 0, Value.slice none 0 0]))) 1 (some (Blk.mk 66 true [Value.int IntKind.i64 0, Value.int IntKind.i64 0, Value.slice none 0 0]))) (by kernel_rfl) ?_
  refine WpOps.keep 72 (Value.bool true) (by kernel_rfl) (by kernel_rfl) (by kernel_rfl) ?_ (fun cf => (by kernel_rfl))
  refine WpOps.keep 73 (Value.bool true) (by kernel_rfl) (by kernel_rfl) (by kernel_rfl) ?_ (fun cf => (by kernel_rfl))
  refine WpOps.keep 74 (Value.bool true) (by kernel_rfl) (by kernel_rfl) (by kernel_rfl) ?_ (fun cf => (by kernel_rfl))
  refine WpOps.framed 75 19 [] (by kernel_rfl) (by kernel_rfl) (by kernel_rfl) (by kernel_rfl) (by kernel_rfl) (fun cf => (by kernel_rfl)) ?_
  refine WpFun.of (c8) ?_
  refine WpOps.keep 76 (Value.bool true) (by kernel_rfl) (by kernel_rfl) (by kernel_rfl) ?_ (fun cf => (by kernel_rfl))
  refine WpOps.keep 4 (Value.bool true) (by kernel_rfl) (by kernel_rfl) (by kernel_rfl) ?_ (fun cf => (by kernel_rfl))
  refine WpOps.nil ?_
  refine thenK_at ?_
  refine Wp.ret ?_
  refine endK_retn [Value.bool true] (Value.bool true) (by kernel_rfl) (by kernel_rfl) ?_
  kernel_rfl
end Go.Proofs.Ytpkkcpglbjbgfaa.D
