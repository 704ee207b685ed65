/- The law ScreenNil: what a nil world, and a zero one, tells. -/
import Derived.Test.YtlejgfeoffhjoaaFwLem
import Derived.Test.YtlejgfeoffhjoaaF34s
namespace Go.Proofs.Ytlejgfeoffhjoaa.D
open Go.Fw Go.RowKit

def upV (a b c d : Int) (s : ByteArray) : Value := .agg #[.int .i64 a, .int .i64 b, .int .i64 c, .int .i64 d, .string s]
def zd : Value := .agg #[.slice none 0 0, .slice none 0 0, .int .i64 0, .int .i64 0]
def zs : Blk := ⟨64, true, [.slice none 0 0, .int .i64 0, .slice none 0 0]⟩
theorem f49 : E.funcs 49 = some Try.f49 := by kernel_rfl
theorem side49n (n : Int) : Lent E 49 [.pointer none, .int .i64 n] [] (.bool false) [] := by
  refine Lent.of f49 rfl (of_decide_eq_true (by kernel_rfl)) rfl rfl (Nat.le_refl _) rfl rfl rfl ?_
  refine Wp.seq ?_
  refine Wp.text ?_
  refine WpOps.keep 4 (Value.bool false) (by kernel_rfl) (by kernel_rfl) (by kernel_rfl) ?_ (fun cf => (by kernel_rfl))
  refine WpOps.nil ?_
  refine thenK_at ?_
  refine Wp.seq ?_
  refine Wp.text ?_
  refine WpOps.keep 5 (Value.pointer none) (by kernel_rfl) (by kernel_rfl) (by kernel_rfl) ?_ (fun cf => (by kernel_rfl))
  refine WpOps.keep 6 (Value.bool false) (by kernel_rfl) (by kernel_rfl) (by kernel_rfl) ?_ (fun cf => (by kernel_rfl))
  refine WpOps.keep 7 (Value.bool false) (by kernel_rfl) (by kernel_rfl) (by kernel_rfl) ?_ (fun cf => (by kernel_rfl))
  refine WpOps.unmet 8 (by kernel_rfl) (by kernel_rfl) (by kernel_rfl) ?_
  refine WpOps.unmet 9 (by kernel_rfl) (by kernel_rfl) (by kernel_rfl) ?_
  refine WpOps.keep 10 (Value.bool false) (by kernel_rfl) (by kernel_rfl) (by kernel_rfl) ?_ (fun cf => (by kernel_rfl))
  refine WpOps.keep 11 (Value.bool false) (by kernel_rfl) (by kernel_rfl) (by kernel_rfl) ?_ (fun cf => (by kernel_rfl))
  refine WpOps.unmet 12 (by kernel_rfl) (by kernel_rfl) (by kernel_rfl) ?_
  refine WpOps.unmet 13 (by kernel_rfl) (by kernel_rfl) (by kernel_rfl) ?_
  refine WpOps.unmet 14 (by kernel_rfl) (by kernel_rfl) (by kernel_rfl) ?_
  refine WpOps.unmet 15 (by kernel_rfl) (by kernel_rfl) (by kernel_rfl) ?_
  refine WpOps.unmet 16 (by kernel_rfl) (by kernel_rfl) (by kernel_rfl) ?_
  refine WpOps.unmet 17 (by kernel_rfl) (by kernel_rfl) (by kernel_rfl) ?_
  refine WpOps.unmet 18 (by kernel_rfl) (by kernel_rfl) (by kernel_rfl) ?_
  refine WpOps.keep 19 (Value.bool false) (by kernel_rfl) (by kernel_rfl) (by kernel_rfl) ?_ (fun cf => (by kernel_rfl))
  refine WpOps.keep 4 (Value.bool false) (by kernel_rfl) (by kernel_rfl) (by kernel_rfl) ?_ (fun cf => (by kernel_rfl))
  refine WpOps.nil ?_
  refine thenK_at ?_
  refine Wp.ret ?_
  refine endK_retn [Value.bool false] (Value.bool false) (by kernel_rfl) (by kernel_rfl) ?_
  exact ⟨[], by decide, by kernel_rfl, trivial, .w (.un rfl rfl)⟩
theorem side49z (n : Int) : Lent E 49 [.pointer (some ⟨0, 0, none⟩), .int .i64 n] [zs] (.bool false) [zs] := by
  refine Lent.of f49 rfl (of_decide_eq_true (by kernel_rfl)) rfl rfl (Nat.le_refl _) rfl rfl rfl ?_
  by_cases h : n ≥ 0
  · have h1 : decide (n ≥ 0) = true := decide_eq_true h
    have h2 : decide (n < ((0 : Nat) : Int)) = false := decide_eq_false (by omega)
    refine Wp.seq ?_
    refine Wp.text ?_
    refine WpOps.keep 4 (Value.bool false) (by kernel_rfl) (by kernel_rfl) (by kernel_rfl) ?_ (fun cf => (by kernel_rfl))
    refine WpOps.nil ?_
    refine thenK_at ?_
    refine Wp.seq ?_
    refine Wp.text ?_
    refine WpOps.keep 5 (Value.pointer (some (Addr.mk 0 0 none))) (by kernel_rfl) (by kernel_rfl) (by kernel_rfl) ?_ (fun cf => (by kernel_rfl))
    refine WpOps.keep 6 (Value.bool true) (by kernel_rfl) (by kernel_rfl) (by kernel_rfl) ?_ (fun cf => (by kernel_rfl))
    refine WpOps.keep 7 (Value.bool true) (by kernel_rfl) (by kernel_rfl) (by kernel_rfl) ?_ (fun cf => (by kernel_rfl))
    refine WpOps.keep 8 (Value.int IntKind.i64 n) (by kernel_rfl) (by kernel_rfl) (by kernel_rfl) ?_ (fun cf => (by kernel_rfl))
    refine WpOps.keep 9 (Value.bool true) (by kernel_rfl) (by kernel_rfl) (by kernel_rfl) ?_ (fun cf => by_fact h1 ((by kernel_rfl)))
    refine WpOps.keep 10 (Value.bool true) (by kernel_rfl) (by kernel_rfl) (by kernel_rfl) ?_ (fun cf => (by kernel_rfl))
    refine WpOps.keep 11 (Value.bool true) (by kernel_rfl) (by kernel_rfl) (by kernel_rfl) ?_ (fun cf => (by kernel_rfl))
    refine WpOps.keep 12 (Value.int IntKind.i64 n) (by kernel_rfl) (by kernel_rfl) (by kernel_rfl) ?_ (fun cf => (by kernel_rfl))
    refine WpOps.keep 13 (Value.pointer (some (Addr.mk 0 0 none))) (by kernel_rfl) (by kernel_rfl) (by kernel_rfl) ?_ (fun cf => (by kernel_rfl))
    refine WpOps.keep 14 (Value.pointer (some (Addr.mk 0 0 none))) (by kernel_rfl) (by kernel_rfl) (by kernel_rfl) ?_ (fun cf => (by kernel_rfl))
    refine WpOps.keep 15 (Value.pointer (some (Addr.mk 0 0 none))) (by kernel_rfl) (by kernel_rfl) (by kernel_rfl) ?_ (fun cf => (by kernel_rfl))
    refine WpOps.keep 16 (Value.slice none 0 0) (by kernel_rfl) (by kernel_rfl) (by kernel_rfl) ?_ (fun cf => (by kernel_rfl))
    refine WpOps.keep 17 (Value.int IntKind.i64 (↑0 : Int)) (by kernel_rfl) (by kernel_rfl) (by kernel_rfl) ?_ (fun cf => (by kernel_rfl))
    refine WpOps.keep 18 (Value.bool false) (by kernel_rfl) (by kernel_rfl) (by kernel_rfl) ?_ (fun cf => by_fact h2 ((by kernel_rfl)))
    refine WpOps.keep 19 (Value.bool false) (by kernel_rfl) (by kernel_rfl) (by kernel_rfl) ?_ (fun cf => (by kernel_rfl))
    refine WpOps.keep 4 (Value.bool false) (by kernel_rfl) (by kernel_rfl) (by kernel_rfl) ?_ (fun cf => (by kernel_rfl))
    refine WpOps.nil ?_
    refine thenK_at ?_
    refine Wp.ret ?_
    refine endK_retn [Value.bool false] (Value.bool false) (by kernel_rfl) (by kernel_rfl) ?_
    exact ⟨[0], by decide, by kernel_rfl, ⟨⟨_, by kernel_rfl, (.cons (.inl ⟨rfl, rfl⟩) (.cons (.inl ⟨rfl, rfl⟩) (.cons (.inl ⟨rfl, rfl⟩) .nil)))⟩, trivial⟩, .w (.un rfl rfl)⟩
  · have h1 : decide (n ≥ 0) = false := decide_eq_false h
    refine Wp.seq ?_
    refine Wp.text ?_
    refine WpOps.keep 4 (Value.bool false) (by kernel_rfl) (by kernel_rfl) (by kernel_rfl) ?_ (fun cf => (by kernel_rfl))
    refine WpOps.nil ?_
    refine thenK_at ?_
    refine Wp.seq ?_
    refine Wp.text ?_
    refine WpOps.keep 5 (Value.pointer (some (Addr.mk 0 0 none))) (by kernel_rfl) (by kernel_rfl) (by kernel_rfl) ?_ (fun cf => (by kernel_rfl))
    refine WpOps.keep 6 (Value.bool true) (by kernel_rfl) (by kernel_rfl) (by kernel_rfl) ?_ (fun cf => (by kernel_rfl))
    refine WpOps.keep 7 (Value.bool true) (by kernel_rfl) (by kernel_rfl) (by kernel_rfl) ?_ (fun cf => (by kernel_rfl))
    refine WpOps.keep 8 (Value.int IntKind.i64 n) (by kernel_rfl) (by kernel_rfl) (by kernel_rfl) ?_ (fun cf => (by kernel_rfl))
    refine WpOps.keep 9 (Value.bool false) (by kernel_rfl) (by kernel_rfl) (by kernel_rfl) ?_ (fun cf => by_fact h1 ((by kernel_rfl)))
    refine WpOps.keep 10 (Value.bool false) (by kernel_rfl) (by kernel_rfl) (by kernel_rfl) ?_ (fun cf => (by kernel_rfl))
    refine WpOps.keep 11 (Value.bool false) (by kernel_rfl) (by kernel_rfl) (by kernel_rfl) ?_ (fun cf => (by kernel_rfl))
    refine WpOps.unmet 12 (by kernel_rfl) (by kernel_rfl) (by kernel_rfl) ?_
    refine WpOps.unmet 13 (by kernel_rfl) (by kernel_rfl) (by kernel_rfl) ?_
    refine WpOps.unmet 14 (by kernel_rfl) (by kernel_rfl) (by kernel_rfl) ?_
    refine WpOps.unmet 15 (by kernel_rfl) (by kernel_rfl) (by kernel_rfl) ?_
    refine WpOps.unmet 16 (by kernel_rfl) (by kernel_rfl) (by kernel_rfl) ?_
    refine WpOps.unmet 17 (by kernel_rfl) (by kernel_rfl) (by kernel_rfl) ?_
    refine WpOps.unmet 18 (by kernel_rfl) (by kernel_rfl) (by kernel_rfl) ?_
    refine WpOps.keep 19 (Value.bool false) (by kernel_rfl) (by kernel_rfl) (by kernel_rfl) ?_ (fun cf => (by kernel_rfl))
    refine WpOps.keep 4 (Value.bool false) (by kernel_rfl) (by kernel_rfl) (by kernel_rfl) ?_ (fun cf => (by kernel_rfl))
    refine WpOps.nil ?_
    refine thenK_at ?_
    refine Wp.ret ?_
    refine endK_retn [Value.bool false] (Value.bool false) (by kernel_rfl) (by kernel_rfl) ?_
    exact ⟨[0], by decide, by kernel_rfl, ⟨⟨_, by kernel_rfl, (.cons (.inl ⟨rfl, rfl⟩) (.cons (.inl ⟨rfl, rfl⟩) (.cons (.inl ⟨rfl, rfl⟩) .nil)))⟩, trivial⟩, .w (.un rfl rfl)⟩
theorem f22 : E.funcs 22 = some Try.f22 := by kernel_rfl
theorem update22n (n a b c d : Int) (s : ByteArray) : Lent E 22 [.pointer none, .int .i64 n, upV a b c d s] [] (.int .i64 1) [] := by
  refine Lent.of f22 rfl (of_decide_eq_true (by kernel_rfl)) rfl rfl (Nat.le_refl _) rfl rfl rfl ?_
  have c0 := side49n n
  refine Wp.seq ?_
  refine Wp.text ?_
  refine WpOps.made 5 (Value.pointer (some (Addr.mk 0 0 none))) (Blk.mk 26 true [Value.int IntKind.i64 a, Value.int IntKind.i64 b, Value.int IntKind.i64 c, Value.int IntKind.i64 d, Value.string s]) (by kernel_rfl) (by kernel_rfl) (by kernel_rfl) ?_ (fun cf => (by kernel_rfl))
  refine WpOps.keep 6 (Value.int IntKind.i64 0) (by kernel_rfl) (by kernel_rfl) (by kernel_rfl) ?_ (fun cf => (by kernel_rfl))
  refine WpOps.nil ?_
  refine thenK_at ?_
  refine Wp.seq ?_
  refine Wp.seq ?_
  refine Wp.text ?_
  refine WpOps.keep 8 (Value.pointer none) (by kernel_rfl) (by kernel_rfl) (by kernel_rfl) ?_ (fun cf => (by kernel_rfl))
  refine WpOps.keep 9 (Value.int IntKind.i64 n) (by kernel_rfl) (by kernel_rfl) (by kernel_rfl) ?_ (fun cf => (by kernel_rfl))
  refine WpOps.called 10 49 [Value.pointer none, Value.int IntKind.i64 n] (by kernel_rfl) (by kernel_rfl) (by kernel_rfl) (by kernel_rfl) (fun cf => (by kernel_rfl)) ?_
  refine WpCall.lent [] (c0) (by decide) trivial (by kernel_rfl) (Value.bool false) ([]) .nil (by kernel_rfl) (Heap.alloc (heapOf []) (Blk.mk 26 true [Value.int IntKind.i64 a, Value.int IntKind.i64 b, Value.int IntKind.i64 c, Value.int IntKind.i64 d, Value.string s])) (by kernel_rfl) ?_
  refine WpOps.keep 11 (Value.bool true) (by kernel_rfl) (by kernel_rfl) (by kernel_rfl) ?_ (fun cf => (by kernel_rfl))
  refine WpOps.nil ?_
  refine thenK_at ?_
  refine Wp.on (by kernel_rfl) ?_
  refine Wp.seq ?_
  refine Wp.text ?_
  refine WpOps.keep 6 (Value.int IntKind.i64 1) (by kernel_rfl) (by kernel_rfl) (by kernel_rfl) ?_ (fun cf => (by kernel_rfl))
  refine WpOps.nil ?_
  refine thenK_at ?_
  refine Wp.ret ?_
  refine thenK_ret ?_
  refine endK_retn [Value.int IntKind.i64 1] (Value.int IntKind.i64 1) (by kernel_rfl) (by kernel_rfl) ?_
  exact ⟨[], by decide, by kernel_rfl, trivial, .w (.un rfl rfl)⟩
theorem update22z (n a b c d : Int) (s : ByteArray) : Lent E 22 [.pointer (some ⟨0, 0, none⟩), .int .i64 n, upV a b c d s] [zs] (.int .i64 1) [zs] := by
  refine Lent.of f22 rfl (of_decide_eq_true (by kernel_rfl)) rfl rfl (Nat.le_refl _) rfl rfl rfl ?_
  have c0 := side49z n
  refine Wp.seq ?_
  refine Wp.text ?_
  refine WpOps.made 5 (Value.pointer (some (Addr.mk 1 0 none))) (Blk.mk 26 true [Value.int IntKind.i64 a, Value.int IntKind.i64 b, Value.int IntKind.i64 c, Value.int IntKind.i64 d, Value.string s]) (by kernel_rfl) (by kernel_rfl) (by kernel_rfl) ?_ (fun cf => (by kernel_rfl))
  refine WpOps.keep 6 (Value.int IntKind.i64 0) (by kernel_rfl) (by kernel_rfl) (by kernel_rfl) ?_ (fun cf => (by kernel_rfl))
  refine WpOps.nil ?_
  refine thenK_at ?_
  refine Wp.seq ?_
  refine Wp.seq ?_
  refine Wp.text ?_
  refine WpOps.keep 8 (Value.pointer (some (Addr.mk 0 0 none))) (by kernel_rfl) (by kernel_rfl) (by kernel_rfl) ?_ (fun cf => (by kernel_rfl))
  refine WpOps.keep 9 (Value.int IntKind.i64 n) (by kernel_rfl) (by kernel_rfl) (by kernel_rfl) ?_ (fun cf => (by kernel_rfl))
  refine WpOps.called 10 49 [Value.pointer (some (Addr.mk 0 0 none)), Value.int IntKind.i64 n] (by kernel_rfl) (by kernel_rfl) (by kernel_rfl) (by kernel_rfl) (fun cf => (by kernel_rfl)) ?_
  refine WpCall.lent [0] (c0) (by decide) ⟨⟨[Value.slice none 0 0, Value.int IntKind.i64 0, Value.slice none 0 0], (by kernel_rfl), (by kernel_rfl), (by kernel_rfl)⟩, trivial⟩ (by kernel_rfl) (Value.bool false) ([Blk.mk 64 true [Value.slice none 0 0, Value.int IntKind.i64 0, Value.slice none 0 0]]) (.cons (by kernel_rfl) .nil) (by kernel_rfl) (Heap.set (Heap.alloc (heapOf [zs]) (Blk.mk 26 true [Value.int IntKind.i64 a, Value.int IntKind.i64 b, Value.int IntKind.i64 c, Value.int IntKind.i64 d, Value.string s])) 0 (some (Blk.mk 64 true [Value.slice none 0 0, Value.int IntKind.i64 0, Value.slice none 0 0]))) (by kernel_rfl) ?_
  refine WpOps.keep 11 (Value.bool true) (by kernel_rfl) (by kernel_rfl) (by kernel_rfl) ?_ (fun cf => (by kernel_rfl))
  refine WpOps.nil ?_
  refine thenK_at ?_
  refine Wp.on (by kernel_rfl) ?_
  refine Wp.seq ?_
  refine Wp.text ?_
  refine WpOps.keep 6 (Value.int IntKind.i64 1) (by kernel_rfl) (by kernel_rfl) (by kernel_rfl) ?_ (fun cf => (by kernel_rfl))
  refine WpOps.nil ?_
  refine thenK_at ?_
  refine Wp.ret ?_
  refine thenK_ret ?_
  refine endK_retn [Value.int IntKind.i64 1] (Value.int IntKind.i64 1) (by kernel_rfl) (by kernel_rfl) ?_
  exact ⟨[0], by decide, by kernel_rfl, ⟨⟨_, by kernel_rfl, (.cons (.inl ⟨rfl, rfl⟩) (.cons (.inl ⟨rfl, rfl⟩) (.cons (.inl ⟨rfl, rfl⟩) .nil)))⟩, trivial⟩, .w (.un rfl rfl)⟩
theorem f23 : E.funcs 23 = some Try.f23 := by kernel_rfl
theorem deliver23n (n : Int) : Lent E 23 [.pointer none, .int .i64 n] [] (.int .i64 1) [] := by
  refine Lent.of f23 rfl (of_decide_eq_true (by kernel_rfl)) rfl rfl (Nat.le_refl _) rfl rfl rfl ?_
  have c0 := side49n n
  refine Wp.seq ?_
  refine Wp.text ?_
  refine WpOps.keep 4 (Value.int IntKind.i64 0) (by kernel_rfl) (by kernel_rfl) (by kernel_rfl) ?_ (fun cf => (by kernel_rfl))
  refine WpOps.nil ?_
  refine thenK_at ?_
  refine Wp.seq ?_
  refine Wp.seq ?_
  refine Wp.text ?_
  refine WpOps.keep 5 (Value.pointer none) (by kernel_rfl) (by kernel_rfl) (by kernel_rfl) ?_ (fun cf => (by kernel_rfl))
  refine WpOps.keep 6 (Value.int IntKind.i64 n) (by kernel_rfl) (by kernel_rfl) (by kernel_rfl) ?_ (fun cf => (by kernel_rfl))
  refine WpOps.called 7 49 [Value.pointer none, Value.int IntKind.i64 n] (by kernel_rfl) (by kernel_rfl) (by kernel_rfl) (by kernel_rfl) (fun cf => (by kernel_rfl)) ?_
  refine WpCall.lent [] (c0) (by decide) trivial (by kernel_rfl) (Value.bool false) ([]) .nil (by kernel_rfl) (heapOf []) (by kernel_rfl) ?_
  refine WpOps.keep 8 (Value.bool true) (by kernel_rfl) (by kernel_rfl) (by kernel_rfl) ?_ (fun cf => (by kernel_rfl))
  refine WpOps.nil ?_
  refine thenK_at ?_
  refine Wp.on (by kernel_rfl) ?_
  refine Wp.seq ?_
  refine Wp.text ?_
  refine WpOps.keep 4 (Value.int IntKind.i64 1) (by kernel_rfl) (by kernel_rfl) (by kernel_rfl) ?_ (fun cf => (by kernel_rfl))
  refine WpOps.nil ?_
  refine thenK_at ?_
  refine Wp.ret ?_
  refine thenK_ret ?_
  refine endK_retn [Value.int IntKind.i64 1] (Value.int IntKind.i64 1) (by kernel_rfl) (by kernel_rfl) ?_
  exact ⟨[], by decide, by kernel_rfl, trivial, .w (.un rfl rfl)⟩
theorem deliver23z (n : Int) : Lent E 23 [.pointer (some ⟨0, 0, none⟩), .int .i64 n] [zs] (.int .i64 1) [zs] := by
  refine Lent.of f23 rfl (of_decide_eq_true (by kernel_rfl)) rfl rfl (Nat.le_refl _) rfl rfl rfl ?_
  have c0 := side49z n
  refine Wp.seq ?_
  refine Wp.text ?_
  refine WpOps.keep 4 (Value.int IntKind.i64 0) (by kernel_rfl) (by kernel_rfl) (by kernel_rfl) ?_ (fun cf => (by kernel_rfl))
  refine WpOps.nil ?_
  refine thenK_at ?_
  refine Wp.seq ?_
  refine Wp.seq ?_
  refine Wp.text ?_
  refine WpOps.keep 5 (Value.pointer (some (Addr.mk 0 0 none))) (by kernel_rfl) (by kernel_rfl) (by kernel_rfl) ?_ (fun cf => (by kernel_rfl))
  refine WpOps.keep 6 (Value.int IntKind.i64 n) (by kernel_rfl) (by kernel_rfl) (by kernel_rfl) ?_ (fun cf => (by kernel_rfl))
  refine WpOps.called 7 49 [Value.pointer (some (Addr.mk 0 0 none)), Value.int IntKind.i64 n] (by kernel_rfl) (by kernel_rfl) (by kernel_rfl) (by kernel_rfl) (fun cf => (by kernel_rfl)) ?_
  refine WpCall.lent [0] (c0) (by decide) ⟨⟨[Value.slice none 0 0, Value.int IntKind.i64 0, Value.slice none 0 0], (by kernel_rfl), (by kernel_rfl), (by kernel_rfl)⟩, trivial⟩ (by kernel_rfl) (Value.bool false) ([Blk.mk 64 true [Value.slice none 0 0, Value.int IntKind.i64 0, Value.slice none 0 0]]) (.cons (by kernel_rfl) .nil) (by kernel_rfl) (Heap.set (heapOf [zs]) 0 (some (Blk.mk 64 true [Value.slice none 0 0, Value.int IntKind.i64 0, Value.slice none 0 0]))) (by kernel_rfl) ?_
  refine WpOps.keep 8 (Value.bool true) (by kernel_rfl) (by kernel_rfl) (by kernel_rfl) ?_ (fun cf => (by kernel_rfl))
  refine WpOps.nil ?_
  refine thenK_at ?_
  refine Wp.on (by kernel_rfl) ?_
  refine Wp.seq ?_
  refine Wp.text ?_
  refine WpOps.keep 4 (Value.int IntKind.i64 1) (by kernel_rfl) (by kernel_rfl) (by kernel_rfl) ?_ (fun cf => (by kernel_rfl))
  refine WpOps.nil ?_
  refine thenK_at ?_
  refine Wp.ret ?_
  refine thenK_ret ?_
  refine endK_retn [Value.int IntKind.i64 1] (Value.int IntKind.i64 1) (by kernel_rfl) (by kernel_rfl) ?_
  exact ⟨[0], by decide, by kernel_rfl, ⟨⟨_, by kernel_rfl, (.cons (.inl ⟨rfl, rfl⟩) (.cons (.inl ⟨rfl, rfl⟩) (.cons (.inl ⟨rfl, rfl⟩) .nil)))⟩, trivial⟩, .w (.un rfl rfl)⟩
theorem f24 : E.funcs 24 = some Try.f24 := by kernel_rfl
theorem give24n (n : Int) : Lent E 24 [.pointer none, .int .i64 n] [] (.int .i64 1) [] := by
  refine Lent.of f24 rfl (of_decide_eq_true (by kernel_rfl)) rfl rfl (Nat.le_refl _) rfl rfl rfl ?_
  have c0 := side49n n
  refine Wp.seq ?_
  refine Wp.text ?_
  refine WpOps.keep 4 (Value.int IntKind.i64 0) (by kernel_rfl) (by kernel_rfl) (by kernel_rfl) ?_ (fun cf => (by kernel_rfl))
  refine WpOps.nil ?_
  refine thenK_at ?_
  refine Wp.seq ?_
  refine Wp.seq ?_
  refine Wp.text ?_
  refine WpOps.keep 5 (Value.pointer none) (by kernel_rfl) (by kernel_rfl) (by kernel_rfl) ?_ (fun cf => (by kernel_rfl))
  refine WpOps.keep 6 (Value.int IntKind.i64 n) (by kernel_rfl) (by kernel_rfl) (by kernel_rfl) ?_ (fun cf => (by kernel_rfl))
  refine WpOps.called 7 49 [Value.pointer none, Value.int IntKind.i64 n] (by kernel_rfl) (by kernel_rfl) (by kernel_rfl) (by kernel_rfl) (fun cf => (by kernel_rfl)) ?_
  refine WpCall.lent [] (c0) (by decide) trivial (by kernel_rfl) (Value.bool false) ([]) .nil (by kernel_rfl) (heapOf []) (by kernel_rfl) ?_
  refine WpOps.keep 8 (Value.bool true) (by kernel_rfl) (by kernel_rfl) (by kernel_rfl) ?_ (fun cf => (by kernel_rfl))
  refine WpOps.nil ?_
  refine thenK_at ?_
  refine Wp.on (by kernel_rfl) ?_
  refine Wp.seq ?_
  refine Wp.text ?_
  refine WpOps.keep 4 (Value.int IntKind.i64 1) (by kernel_rfl) (by kernel_rfl) (by kernel_rfl) ?_ (fun cf => (by kernel_rfl))
  refine WpOps.nil ?_
  refine thenK_at ?_
  refine Wp.ret ?_
  refine thenK_ret ?_
  refine endK_retn [Value.int IntKind.i64 1] (Value.int IntKind.i64 1) (by kernel_rfl) (by kernel_rfl) ?_
  exact ⟨[], by decide, by kernel_rfl, trivial, .w (.un rfl rfl)⟩
theorem give24z (n : Int) : Lent E 24 [.pointer (some ⟨0, 0, none⟩), .int .i64 n] [zs] (.int .i64 1) [zs] := by
  refine Lent.of f24 rfl (of_decide_eq_true (by kernel_rfl)) rfl rfl (Nat.le_refl _) rfl rfl rfl ?_
  have c0 := side49z n
  refine Wp.seq ?_
  refine Wp.text ?_
  refine WpOps.keep 4 (Value.int IntKind.i64 0) (by kernel_rfl) (by kernel_rfl) (by kernel_rfl) ?_ (fun cf => (by kernel_rfl))
  refine WpOps.nil ?_
  refine thenK_at ?_
  refine Wp.seq ?_
  refine Wp.seq ?_
  refine Wp.text ?_
  refine WpOps.keep 5 (Value.pointer (some (Addr.mk 0 0 none))) (by kernel_rfl) (by kernel_rfl) (by kernel_rfl) ?_ (fun cf => (by kernel_rfl))
  refine WpOps.keep 6 (Value.int IntKind.i64 n) (by kernel_rfl) (by kernel_rfl) (by kernel_rfl) ?_ (fun cf => (by kernel_rfl))
  refine WpOps.called 7 49 [Value.pointer (some (Addr.mk 0 0 none)), Value.int IntKind.i64 n] (by kernel_rfl) (by kernel_rfl) (by kernel_rfl) (by kernel_rfl) (fun cf => (by kernel_rfl)) ?_
  refine WpCall.lent [0] (c0) (by decide) ⟨⟨[Value.slice none 0 0, Value.int IntKind.i64 0, Value.slice none 0 0], (by kernel_rfl), (by kernel_rfl), (by kernel_rfl)⟩, trivial⟩ (by kernel_rfl) (Value.bool false) ([Blk.mk 64 true [Value.slice none 0 0, Value.int IntKind.i64 0, Value.slice none 0 0]]) (.cons (by kernel_rfl) .nil) (by kernel_rfl) (Heap.set (heapOf [zs]) 0 (some (Blk.mk 64 true [Value.slice none 0 0, Value.int IntKind.i64 0, Value.slice none 0 0]))) (by kernel_rfl) ?_
  refine WpOps.keep 8 (Value.bool true) (by kernel_rfl) (by kernel_rfl) (by kernel_rfl) ?_ (fun cf => (by kernel_rfl))
  refine WpOps.nil ?_
  refine thenK_at ?_
  refine Wp.on (by kernel_rfl) ?_
  refine Wp.seq ?_
  refine Wp.text ?_
  refine WpOps.keep 4 (Value.int IntKind.i64 1) (by kernel_rfl) (by kernel_rfl) (by kernel_rfl) ?_ (fun cf => (by kernel_rfl))
  refine WpOps.nil ?_
  refine thenK_at ?_
  refine Wp.ret ?_
  refine thenK_ret ?_
  refine endK_retn [Value.int IntKind.i64 1] (Value.int IntKind.i64 1) (by kernel_rfl) (by kernel_rfl) ?_
  exact ⟨[0], by decide, by kernel_rfl, ⟨⟨_, by kernel_rfl, (.cons (.inl ⟨rfl, rfl⟩) (.cons (.inl ⟨rfl, rfl⟩) (.cons (.inl ⟨rfl, rfl⟩) .nil)))⟩, trivial⟩, .w (.un rfl rfl)⟩
theorem f25 : E.funcs 25 = some Try.f25 := by kernel_rfl
theorem come25n (n : Int) : Lent E 25 [.pointer none, .int .i64 n] [] (.tuple #[.int .i64 0, .int .i64 1]) [] := by
  refine Lent.of f25 rfl (of_decide_eq_true (by kernel_rfl)) rfl rfl (Nat.le_refl _) rfl rfl rfl ?_
  have c0 := side49n n
  refine Wp.seq ?_
  refine Wp.text ?_
  refine WpOps.made 3 (Value.pointer (some (Addr.mk 0 0 none))) (Blk.mk 3 true [slots0 [Value.pointer none, Value.int IntKind.i64 n] 1]) (by kernel_rfl) (by kernel_rfl) (by kernel_rfl) ?_ (fun cf => (by kernel_rfl))
  refine WpOps.keep 4 (Value.int IntKind.i64 0) (by kernel_rfl) (by kernel_rfl) (by kernel_rfl) ?_ (fun cf => (by kernel_rfl))
  refine WpOps.keep 5 (Value.int IntKind.i64 0) (by kernel_rfl) (by kernel_rfl) (by kernel_rfl) ?_ (fun cf => (by kernel_rfl))
  refine WpOps.nil ?_
  refine thenK_at ?_
  refine Wp.seq ?_
  refine Wp.seq ?_
  refine Wp.text ?_
  refine WpOps.keep 11 (Value.pointer none) (by kernel_rfl) (by kernel_rfl) (by kernel_rfl) ?_ (fun cf => (by kernel_rfl))
  refine WpOps.keep 12 (Value.int IntKind.i64 n) (by kernel_rfl) (by kernel_rfl) (by kernel_rfl) ?_ (fun cf => (by kernel_rfl))
  refine WpOps.called 13 49 [Value.pointer none, Value.int IntKind.i64 n] (by kernel_rfl) (by kernel_rfl) (by kernel_rfl) (by kernel_rfl) (fun cf => (by kernel_rfl)) ?_
  refine WpCall.lent [] (c0) (by decide) trivial (by kernel_rfl) (Value.bool false) ([]) .nil (by kernel_rfl) (Heap.alloc (heapOf []) (Blk.mk 3 true [slots0 [Value.pointer none, Value.int IntKind.i64 n] 1])) (by kernel_rfl) ?_
  refine WpOps.keep 14 (Value.bool true) (by kernel_rfl) (by kernel_rfl) (by kernel_rfl) ?_ (fun cf => (by kernel_rfl))
  refine WpOps.nil ?_
  refine thenK_at ?_
  refine Wp.on (by kernel_rfl) ?_
  refine Wp.seq ?_
  refine Wp.text ?_
  refine WpOps.keep 4 (Value.int IntKind.i64 0) (by kernel_rfl) (by kernel_rfl) (by kernel_rfl) ?_ (fun cf => (by kernel_rfl))
  refine WpOps.keep 5 (Value.int IntKind.i64 1) (by kernel_rfl) (by kernel_rfl) (by kernel_rfl) ?_ (fun cf => (by kernel_rfl))
  refine WpOps.nil ?_
  refine thenK_at ?_
  refine Wp.ret ?_
  refine thenK_ret ?_
  refine endK_retn [Value.int IntKind.i64 0, Value.int IntKind.i64 1] (Value.tuple #[Value.int IntKind.i64 0, Value.int IntKind.i64 1]) (by kernel_rfl) (by kernel_rfl) ?_
  exact ⟨[], by decide, by kernel_rfl, trivial, .tuple _ _ (by kernel_rfl) rfl (.cons (.un rfl rfl) (.cons (.un rfl rfl) .nil))⟩
theorem come25z (n : Int) : Lent E 25 [.pointer (some ⟨0, 0, none⟩), .int .i64 n] [zs] (.tuple #[.int .i64 0, .int .i64 1]) [zs] := by
  refine Lent.of f25 rfl (of_decide_eq_true (by kernel_rfl)) rfl rfl (Nat.le_refl _) rfl rfl rfl ?_
  have c0 := side49z n
  refine Wp.seq ?_
  refine Wp.text ?_
  refine WpOps.made 3 (Value.pointer (some (Addr.mk 1 0 none))) (Blk.mk 3 true [slots0 [Value.pointer (some (Addr.mk 0 0 none)), Value.int IntKind.i64 n] 1]) (by kernel_rfl) (by kernel_rfl) (by kernel_rfl) ?_ (fun cf => (by kernel_rfl))
  refine WpOps.keep 4 (Value.int IntKind.i64 0) (by kernel_rfl) (by kernel_rfl) (by kernel_rfl) ?_ (fun cf => (by kernel_rfl))
  refine WpOps.keep 5 (Value.int IntKind.i64 0) (by kernel_rfl) (by kernel_rfl) (by kernel_rfl) ?_ (fun cf => (by kernel_rfl))
  refine WpOps.nil ?_
  refine thenK_at ?_
  refine Wp.seq ?_
  refine Wp.seq ?_
  refine Wp.text ?_
  refine WpOps.keep 11 (Value.pointer (some (Addr.mk 0 0 none))) (by kernel_rfl) (by kernel_rfl) (by kernel_rfl) ?_ (fun cf => (by kernel_rfl))
  refine WpOps.keep 12 (Value.int IntKind.i64 n) (by kernel_rfl) (by kernel_rfl) (by kernel_rfl) ?_ (fun cf => (by kernel_rfl))
  refine WpOps.called 13 49 [Value.pointer (some (Addr.mk 0 0 none)), Value.int IntKind.i64 n] (by kernel_rfl) (by kernel_rfl) (by kernel_rfl) (by kernel_rfl) (fun cf => (by kernel_rfl)) ?_
  refine WpCall.lent [0] (c0) (by decide) ⟨⟨[Value.slice none 0 0, Value.int IntKind.i64 0, Value.slice none 0 0], (by kernel_rfl), (by kernel_rfl), (by kernel_rfl)⟩, trivial⟩ (by kernel_rfl) (Value.bool false) ([Blk.mk 64 true [Value.slice none 0 0, Value.int IntKind.i64 0, Value.slice none 0 0]]) (.cons (by kernel_rfl) .nil) (by kernel_rfl) (Heap.set (Heap.alloc (heapOf [zs]) (Blk.mk 3 true [slots0 [Value.pointer (some (Addr.mk 0 0 none)), Value.int IntKind.i64 n] 1])) 0 (some (Blk.mk 64 true [Value.slice none 0 0, Value.int IntKind.i64 0, Value.slice none 0 0]))) (by kernel_rfl) ?_
  refine WpOps.keep 14 (Value.bool true) (by kernel_rfl) (by kernel_rfl) (by kernel_rfl) ?_ (fun cf => (by kernel_rfl))
  refine WpOps.nil ?_
  refine thenK_at ?_
  refine Wp.on (by kernel_rfl) ?_
  refine Wp.seq ?_
  refine Wp.text ?_
  refine WpOps.keep 4 (Value.int IntKind.i64 0) (by kernel_rfl) (by kernel_rfl) (by kernel_rfl) ?_ (fun cf => (by kernel_rfl))
  refine WpOps.keep 5 (Value.int IntKind.i64 1) (by kernel_rfl) (by kernel_rfl) (by kernel_rfl) ?_ (fun cf => (by kernel_rfl))
  refine WpOps.nil ?_
  refine thenK_at ?_
  refine Wp.ret ?_
  refine thenK_ret ?_
  refine endK_retn [Value.int IntKind.i64 0, Value.int IntKind.i64 1] (Value.tuple #[Value.int IntKind.i64 0, Value.int IntKind.i64 1]) (by kernel_rfl) (by kernel_rfl) ?_
  exact ⟨[0], by decide, by kernel_rfl, ⟨⟨_, by kernel_rfl, (.cons (.inl ⟨rfl, rfl⟩) (.cons (.inl ⟨rfl, rfl⟩) (.cons (.inl ⟨rfl, rfl⟩) .nil)))⟩, trivial⟩, .tuple _ _ (by kernel_rfl) rfl (.cons (.un rfl rfl) (.cons (.un rfl rfl) .nil))⟩
theorem f26 : E.funcs 26 = some Try.f26 := by kernel_rfl
theorem break26n (n : Int) : Lent E 26 [.pointer none, .int .i64 n] [] (.int .i64 1) [] := by
  refine Lent.of f26 rfl (of_decide_eq_true (by kernel_rfl)) rfl rfl (Nat.le_refl _) rfl rfl rfl ?_
  have c0 := side49n n
  refine Wp.seq ?_
  refine Wp.text ?_
  refine WpOps.keep 4 (Value.int IntKind.i64 0) (by kernel_rfl) (by kernel_rfl) (by kernel_rfl) ?_ (fun cf => (by kernel_rfl))
  refine WpOps.nil ?_
  refine thenK_at ?_
  refine Wp.seq ?_
  refine Wp.seq ?_
  refine Wp.text ?_
  refine WpOps.keep 7 (Value.pointer none) (by kernel_rfl) (by kernel_rfl) (by kernel_rfl) ?_ (fun cf => (by kernel_rfl))
  refine WpOps.keep 8 (Value.int IntKind.i64 n) (by kernel_rfl) (by kernel_rfl) (by kernel_rfl) ?_ (fun cf => (by kernel_rfl))
  refine WpOps.called 9 49 [Value.pointer none, Value.int IntKind.i64 n] (by kernel_rfl) (by kernel_rfl) (by kernel_rfl) (by kernel_rfl) (fun cf => (by kernel_rfl)) ?_
  refine WpCall.lent [] (c0) (by decide) trivial (by kernel_rfl) (Value.bool false) ([]) .nil (by kernel_rfl) (heapOf []) (by kernel_rfl) ?_
  refine WpOps.keep 10 (Value.bool true) (by kernel_rfl) (by kernel_rfl) (by kernel_rfl) ?_ (fun cf => (by kernel_rfl))
  refine WpOps.nil ?_
  refine thenK_at ?_
  refine Wp.on (by kernel_rfl) ?_
  refine Wp.seq ?_
  refine Wp.text ?_
  refine WpOps.keep 4 (Value.int IntKind.i64 1) (by kernel_rfl) (by kernel_rfl) (by kernel_rfl) ?_ (fun cf => (by kernel_rfl))
  refine WpOps.nil ?_
  refine thenK_at ?_
  refine Wp.ret ?_
  refine thenK_ret ?_
  refine endK_retn [Value.int IntKind.i64 1] (Value.int IntKind.i64 1) (by kernel_rfl) (by kernel_rfl) ?_
  exact ⟨[], by decide, by kernel_rfl, trivial, .w (.un rfl rfl)⟩
theorem break26z (n : Int) : Lent E 26 [.pointer (some ⟨0, 0, none⟩), .int .i64 n] [zs] (.int .i64 1) [zs] := by
  refine Lent.of f26 rfl (of_decide_eq_true (by kernel_rfl)) rfl rfl (Nat.le_refl _) rfl rfl rfl ?_
  have c0 := side49z n
  refine Wp.seq ?_
  refine Wp.text ?_
  refine WpOps.keep 4 (Value.int IntKind.i64 0) (by kernel_rfl) (by kernel_rfl) (by kernel_rfl) ?_ (fun cf => (by kernel_rfl))
  refine WpOps.nil ?_
  refine thenK_at ?_
  refine Wp.seq ?_
  refine Wp.seq ?_
  refine Wp.text ?_
  refine WpOps.keep 7 (Value.pointer (some (Addr.mk 0 0 none))) (by kernel_rfl) (by kernel_rfl) (by kernel_rfl) ?_ (fun cf => (by kernel_rfl))
  refine WpOps.keep 8 (Value.int IntKind.i64 n) (by kernel_rfl) (by kernel_rfl) (by kernel_rfl) ?_ (fun cf => (by kernel_rfl))
  refine WpOps.called 9 49 [Value.pointer (some (Addr.mk 0 0 none)), Value.int IntKind.i64 n] (by kernel_rfl) (by kernel_rfl) (by kernel_rfl) (by kernel_rfl) (fun cf => (by kernel_rfl)) ?_
  refine WpCall.lent [0] (c0) (by decide) ⟨⟨[Value.slice none 0 0, Value.int IntKind.i64 0, Value.slice none 0 0], (by kernel_rfl), (by kernel_rfl), (by kernel_rfl)⟩, trivial⟩ (by kernel_rfl) (Value.bool false) ([Blk.mk 64 true [Value.slice none 0 0, Value.int IntKind.i64 0, Value.slice none 0 0]]) (.cons (by kernel_rfl) .nil) (by kernel_rfl) (Heap.set (heapOf [zs]) 0 (some (Blk.mk 64 true [Value.slice none 0 0, Value.int IntKind.i64 0, Value.slice none 0 0]))) (by kernel_rfl) ?_
  refine WpOps.keep 10 (Value.bool true) (by kernel_rfl) (by kernel_rfl) (by kernel_rfl) ?_ (fun cf => (by kernel_rfl))
  refine WpOps.nil ?_
  refine thenK_at ?_
  refine Wp.on (by kernel_rfl) ?_
  refine Wp.seq ?_
  refine Wp.text ?_
  refine WpOps.keep 4 (Value.int IntKind.i64 1) (by kernel_rfl) (by kernel_rfl) (by kernel_rfl) ?_ (fun cf => (by kernel_rfl))
  refine WpOps.nil ?_
  refine thenK_at ?_
  refine Wp.ret ?_
  refine thenK_ret ?_
  refine endK_retn [Value.int IntKind.i64 1] (Value.int IntKind.i64 1) (by kernel_rfl) (by kernel_rfl) ?_
  exact ⟨[0], by decide, by kernel_rfl, ⟨⟨_, by kernel_rfl, (.cons (.inl ⟨rfl, rfl⟩) (.cons (.inl ⟨rfl, rfl⟩) (.cons (.inl ⟨rfl, rfl⟩) .nil)))⟩, trivial⟩, .w (.un rfl rfl)⟩
theorem f27 : E.funcs 27 = some Try.f27 := by kernel_rfl
theorem waiting27n (n : Int) : Lent E 27 [.pointer none, .int .i64 n] [] (.tuple #[.int .i64 0, .int .i64 1]) [] := by
  refine Lent.of f27 rfl (of_decide_eq_true (by kernel_rfl)) rfl rfl (Nat.le_refl _) rfl rfl rfl ?_
  have c0 := side49n n
  refine Wp.seq ?_
  refine Wp.text ?_
  refine WpOps.keep 4 (Value.int IntKind.i64 0) (by kernel_rfl) (by kernel_rfl) (by kernel_rfl) ?_ (fun cf => (by kernel_rfl))
  refine WpOps.keep 5 (Value.int IntKind.i64 0) (by kernel_rfl) (by kernel_rfl) (by kernel_rfl) ?_ (fun cf => (by kernel_rfl))
  refine WpOps.nil ?_
  refine thenK_at ?_
  refine Wp.seq ?_
  refine Wp.seq ?_
  refine Wp.text ?_
  refine WpOps.keep 6 (Value.pointer none) (by kernel_rfl) (by kernel_rfl) (by kernel_rfl) ?_ (fun cf => (by kernel_rfl))
  refine WpOps.keep 7 (Value.int IntKind.i64 n) (by kernel_rfl) (by kernel_rfl) (by kernel_rfl) ?_ (fun cf => (by kernel_rfl))
  refine WpOps.called 8 49 [Value.pointer none, Value.int IntKind.i64 n] (by kernel_rfl) (by kernel_rfl) (by kernel_rfl) (by kernel_rfl) (fun cf => (by kernel_rfl)) ?_
  refine WpCall.lent [] (c0) (by decide) trivial (by kernel_rfl) (Value.bool false) ([]) .nil (by kernel_rfl) (heapOf []) (by kernel_rfl) ?_
  refine WpOps.keep 9 (Value.bool true) (by kernel_rfl) (by kernel_rfl) (by kernel_rfl) ?_ (fun cf => (by kernel_rfl))
  refine WpOps.nil ?_
  refine thenK_at ?_
  refine Wp.on (by kernel_rfl) ?_
  refine Wp.seq ?_
  refine Wp.text ?_
  refine WpOps.keep 4 (Value.int IntKind.i64 0) (by kernel_rfl) (by kernel_rfl) (by kernel_rfl) ?_ (fun cf => (by kernel_rfl))
  refine WpOps.keep 5 (Value.int IntKind.i64 1) (by kernel_rfl) (by kernel_rfl) (by kernel_rfl) ?_ (fun cf => (by kernel_rfl))
  refine WpOps.nil ?_
  refine thenK_at ?_
  refine Wp.ret ?_
  refine thenK_ret ?_
  refine endK_retn [Value.int IntKind.i64 0, Value.int IntKind.i64 1] (Value.tuple #[Value.int IntKind.i64 0, Value.int IntKind.i64 1]) (by kernel_rfl) (by kernel_rfl) ?_
  exact ⟨[], by decide, by kernel_rfl, trivial, .tuple _ _ (by kernel_rfl) rfl (.cons (.un rfl rfl) (.cons (.un rfl rfl) .nil))⟩
theorem waiting27z (n : Int) : Lent E 27 [.pointer (some ⟨0, 0, none⟩), .int .i64 n] [zs] (.tuple #[.int .i64 0, .int .i64 1]) [zs] := by
  refine Lent.of f27 rfl (of_decide_eq_true (by kernel_rfl)) rfl rfl (Nat.le_refl _) rfl rfl rfl ?_
  have c0 := side49z n
  refine Wp.seq ?_
  refine Wp.text ?_
  refine WpOps.keep 4 (Value.int IntKind.i64 0) (by kernel_rfl) (by kernel_rfl) (by kernel_rfl) ?_ (fun cf => (by kernel_rfl))
  refine WpOps.keep 5 (Value.int IntKind.i64 0) (by kernel_rfl) (by kernel_rfl) (by kernel_rfl) ?_ (fun cf => (by kernel_rfl))
  refine WpOps.nil ?_
  refine thenK_at ?_
  refine Wp.seq ?_
  refine Wp.seq ?_
  refine Wp.text ?_
  refine WpOps.keep 6 (Value.pointer (some (Addr.mk 0 0 none))) (by kernel_rfl) (by kernel_rfl) (by kernel_rfl) ?_ (fun cf => (by kernel_rfl))
  refine WpOps.keep 7 (Value.int IntKind.i64 n) (by kernel_rfl) (by kernel_rfl) (by kernel_rfl) ?_ (fun cf => (by kernel_rfl))
  refine WpOps.called 8 49 [Value.pointer (some (Addr.mk 0 0 none)), Value.int IntKind.i64 n] (by kernel_rfl) (by kernel_rfl) (by kernel_rfl) (by kernel_rfl) (fun cf => (by kernel_rfl)) ?_
  refine WpCall.lent [0] (c0) (by decide) ⟨⟨[Value.slice none 0 0, Value.int IntKind.i64 0, Value.slice none 0 0], (by kernel_rfl), (by kernel_rfl), (by kernel_rfl)⟩, trivial⟩ (by kernel_rfl) (Value.bool false) ([Blk.mk 64 true [Value.slice none 0 0, Value.int IntKind.i64 0, Value.slice none 0 0]]) (.cons (by kernel_rfl) .nil) (by kernel_rfl) (Heap.set (heapOf [zs]) 0 (some (Blk.mk 64 true [Value.slice none 0 0, Value.int IntKind.i64 0, Value.slice none 0 0]))) (by kernel_rfl) ?_
  refine WpOps.keep 9 (Value.bool true) (by kernel_rfl) (by kernel_rfl) (by kernel_rfl) ?_ (fun cf => (by kernel_rfl))
  refine WpOps.nil ?_
  refine thenK_at ?_
  refine Wp.on (by kernel_rfl) ?_
  refine Wp.seq ?_
  refine Wp.text ?_
  refine WpOps.keep 4 (Value.int IntKind.i64 0) (by kernel_rfl) (by kernel_rfl) (by kernel_rfl) ?_ (fun cf => (by kernel_rfl))
  refine WpOps.keep 5 (Value.int IntKind.i64 1) (by kernel_rfl) (by kernel_rfl) (by kernel_rfl) ?_ (fun cf => (by kernel_rfl))
  refine WpOps.nil ?_
  refine thenK_at ?_
  refine Wp.ret ?_
  refine thenK_ret ?_
  refine endK_retn [Value.int IntKind.i64 0, Value.int IntKind.i64 1] (Value.tuple #[Value.int IntKind.i64 0, Value.int IntKind.i64 1]) (by kernel_rfl) (by kernel_rfl) ?_
  exact ⟨[0], by decide, by kernel_rfl, ⟨⟨_, by kernel_rfl, (.cons (.inl ⟨rfl, rfl⟩) (.cons (.inl ⟨rfl, rfl⟩) (.cons (.inl ⟨rfl, rfl⟩) .nil)))⟩, trivial⟩, .tuple _ _ (by kernel_rfl) rfl (.cons (.un rfl rfl) (.cons (.un rfl rfl) .nil))⟩
theorem f28 : E.funcs 28 = some Try.f28 := by kernel_rfl
theorem onway28n : Lent E 28 [.pointer none] [] (.int .i64 0) [] := by
  refine Lent.of f28 rfl (of_decide_eq_true (by kernel_rfl)) rfl rfl (Nat.le_refl _) rfl rfl rfl ?_
  have c0 := side49n 0
  refine Wp.seq ?_
  refine Wp.text ?_
  refine WpOps.keep 2 (Value.int IntKind.i64 0) (by kernel_rfl) (by kernel_rfl) (by kernel_rfl) ?_ (fun cf => (by kernel_rfl))
  refine WpOps.nil ?_
  refine thenK_at ?_
  refine Wp.seq ?_
  refine Wp.seq ?_
  refine Wp.text ?_
  refine WpOps.keep 3 (Value.pointer none) (by kernel_rfl) (by kernel_rfl) (by kernel_rfl) ?_ (fun cf => (by kernel_rfl))
  refine WpOps.keep 4 (Value.bool true) (by kernel_rfl) (by kernel_rfl) (by kernel_rfl) ?_ (fun cf => (by kernel_rfl))
  refine WpOps.nil ?_
  refine thenK_at ?_
  refine Wp.on (by kernel_rfl) ?_
  refine Wp.seq ?_
  refine Wp.text ?_
  refine WpOps.keep 2 (Value.int IntKind.i64 0) (by kernel_rfl) (by kernel_rfl) (by kernel_rfl) ?_ (fun cf => (by kernel_rfl))
  refine WpOps.nil ?_
  refine thenK_at ?_
  refine Wp.ret ?_
  refine thenK_ret ?_
  refine endK_retn [Value.int IntKind.i64 0] (Value.int IntKind.i64 0) (by kernel_rfl) (by kernel_rfl) ?_
  exact ⟨[], by decide, by kernel_rfl, trivial, .w (.un rfl rfl)⟩
theorem onway28z : Lent E 28 [.pointer (some ⟨0, 0, none⟩)] [zs] (.int .i64 0) [zs] := by
  refine Lent.of f28 rfl (of_decide_eq_true (by kernel_rfl)) rfl rfl (Nat.le_refl _) rfl rfl rfl ?_
  have c0 := side49z 0
  refine Wp.seq ?_
  refine Wp.text ?_
  refine WpOps.keep 2 (Value.int IntKind.i64 0) (by kernel_rfl) (by kernel_rfl) (by kernel_rfl) ?_ (fun cf => (by kernel_rfl))
  refine WpOps.nil ?_
  refine thenK_at ?_
  refine Wp.seq ?_
  refine Wp.seq ?_
  refine Wp.text ?_
  refine WpOps.keep 3 (Value.pointer (some (Addr.mk 0 0 none))) (by kernel_rfl) (by kernel_rfl) (by kernel_rfl) ?_ (fun cf => (by kernel_rfl))
  refine WpOps.keep 4 (Value.bool false) (by kernel_rfl) (by kernel_rfl) (by kernel_rfl) ?_ (fun cf => (by kernel_rfl))
  refine WpOps.nil ?_
  refine thenK_at ?_
  refine Wp.off (by kernel_rfl) ?_
  refine Wp.skip ?_
  refine thenK_at ?_
  refine Wp.seq ?_
  refine Wp.text ?_
  refine WpOps.keep 5 (Value.pointer (some (Addr.mk 0 0 none))) (by kernel_rfl) (by kernel_rfl) (by kernel_rfl) ?_ (fun cf => (by kernel_rfl))
  refine WpOps.keep 6 (Value.pointer (some (Addr.mk 0 0 none))) (by kernel_rfl) (by kernel_rfl) (by kernel_rfl) ?_ (fun cf => (by kernel_rfl))
  refine WpOps.keep 7 (Value.pointer (some (Addr.mk 0 2 none))) (by kernel_rfl) (by kernel_rfl) (by kernel_rfl) ?_ (fun cf => (by kernel_rfl))
  refine WpOps.keep 8 (Value.slice none 0 0) (by kernel_rfl) (by kernel_rfl) (by kernel_rfl) ?_ (fun cf => (by kernel_rfl))
  refine WpOps.keep 9 (Value.int IntKind.i64 (↑0 : Int)) (by kernel_rfl) (by kernel_rfl) (by kernel_rfl) ?_ (fun cf => (by kernel_rfl))
  refine WpOps.keep 2 (Value.int IntKind.i64 (↑0 : Int)) (by kernel_rfl) (by kernel_rfl) (by kernel_rfl) ?_ (fun cf => (by kernel_rfl))
  refine WpOps.nil ?_
  refine thenK_at ?_
  refine Wp.ret ?_
  refine endK_retn [Value.int IntKind.i64 (↑0 : Int)] (Value.int IntKind.i64 (↑0 : Int)) (by kernel_rfl) (by kernel_rfl) ?_
  exact ⟨[0], by decide, by kernel_rfl, ⟨⟨_, by kernel_rfl, (.cons (.inl ⟨rfl, rfl⟩) (.cons (.inl ⟨rfl, rfl⟩) (.cons (.inl ⟨rfl, rfl⟩) .nil)))⟩, trivial⟩, .w (.un rfl rfl)⟩
theorem f29 : E.funcs 29 = some Try.f29 := by kernel_rfl
theorem show29n (n : Int) : Lent E 29 [.pointer none, .int .i64 n] [] (.tuple #[zd, .int .i64 1]) [] := by
  refine Lent.of f29 rfl (of_decide_eq_true (by kernel_rfl)) rfl rfl (Nat.le_refl _) rfl rfl rfl ?_
  have c0 := side49n n
  refine Wp.seq ?_
  refine Wp.text ?_
  refine WpOps.made 4 (Value.pointer (some (Addr.mk 0 0 none))) (Blk.mk 24 true [Value.slice none 0 0, Value.slice none 0 0, Value.int IntKind.i64 0, Value.int IntKind.i64 0]) (by kernel_rfl) (by kernel_rfl) (by kernel_rfl) ?_ (fun cf => (by kernel_rfl))
  refine WpOps.keep 5 (Value.int IntKind.i64 0) (by kernel_rfl) (by kernel_rfl) (by kernel_rfl) ?_ (fun cf => (by kernel_rfl))
  refine WpOps.nil ?_
  refine thenK_at ?_
  refine Wp.seq ?_
  refine Wp.seq ?_
  refine Wp.text ?_
  refine WpOps.keep 6 (Value.pointer none) (by kernel_rfl) (by kernel_rfl) (by kernel_rfl) ?_ (fun cf => (by kernel_rfl))
  refine WpOps.keep 7 (Value.int IntKind.i64 n) (by kernel_rfl) (by kernel_rfl) (by kernel_rfl) ?_ (fun cf => (by kernel_rfl))
  refine WpOps.called 8 49 [Value.pointer none, Value.int IntKind.i64 n] (by kernel_rfl) (by kernel_rfl) (by kernel_rfl) (by kernel_rfl) (fun cf => (by kernel_rfl)) ?_
  refine WpCall.lent [] (c0) (by decide) trivial (by kernel_rfl) (Value.bool false) ([]) .nil (by kernel_rfl) (Heap.alloc (heapOf []) (Blk.mk 24 true [Value.slice none 0 0, Value.slice none 0 0, Value.int IntKind.i64 0, Value.int IntKind.i64 0])) (by kernel_rfl) ?_
  refine WpOps.keep 9 (Value.bool true) (by kernel_rfl) (by kernel_rfl) (by kernel_rfl) ?_ (fun cf => (by kernel_rfl))
  refine WpOps.nil ?_
  refine thenK_at ?_
  refine Wp.on (by kernel_rfl) ?_
  refine Wp.seq ?_
  refine Wp.text ?_
  refine WpOps.keep 10 (Value.agg #[Value.slice none 0 0, Value.slice none 0 0, Value.int IntKind.i64 0, Value.int IntKind.i64 0]) (by kernel_rfl) (by kernel_rfl) (by kernel_rfl) ?_ (fun cf => (by kernel_rfl))
  refine WpOps.laid (Value.tuple #[]) (0) (Blk.mk 24 true [Value.slice none 0 0, Value.slice none 0 0, Value.int IntKind.i64 0, Value.int IntKind.i64 0]) (by kernel_rfl) (by kernel_rfl) (by kernel_rfl) ?_ (fun cf => (by kernel_rfl))
  refine WpOps.keep 5 (Value.int IntKind.i64 1) (by kernel_rfl) (by kernel_rfl) (by kernel_rfl) ?_ (fun cf => (by kernel_rfl))
  refine WpOps.nil ?_
  refine thenK_at ?_
  refine Wp.ret ?_
  refine thenK_ret ?_
  refine endK_retn [Value.agg #[Value.slice none 0 0, Value.slice none 0 0, Value.int IntKind.i64 0, Value.int IntKind.i64 0], Value.int IntKind.i64 1] (Value.tuple #[Value.agg #[Value.slice none 0 0, Value.slice none 0 0, Value.int IntKind.i64 0, Value.int IntKind.i64 0], Value.int IntKind.i64 1]) (by kernel_rfl) (by kernel_rfl) ?_
  exact ⟨[], by decide, by kernel_rfl, trivial, .tuple _ _ (by kernel_rfl) rfl (.cons (.un rfl rfl) (.cons (.un rfl rfl) .nil))⟩
theorem show29z (n : Int) : Lent E 29 [.pointer (some ⟨0, 0, none⟩), .int .i64 n] [zs] (.tuple #[zd, .int .i64 1]) [zs] := by
  refine Lent.of f29 rfl (of_decide_eq_true (by kernel_rfl)) rfl rfl (Nat.le_refl _) rfl rfl rfl ?_
  have c0 := side49z n
  refine Wp.seq ?_
  refine Wp.text ?_
  refine WpOps.made 4 (Value.pointer (some (Addr.mk 1 0 none))) (Blk.mk 24 true [Value.slice none 0 0, Value.slice none 0 0, Value.int IntKind.i64 0, Value.int IntKind.i64 0]) (by kernel_rfl) (by kernel_rfl) (by kernel_rfl) ?_ (fun cf => (by kernel_rfl))
  refine WpOps.keep 5 (Value.int IntKind.i64 0) (by kernel_rfl) (by kernel_rfl) (by kernel_rfl) ?_ (fun cf => (by kernel_rfl))
  refine WpOps.nil ?_
  refine thenK_at ?_
  refine Wp.seq ?_
  refine Wp.seq ?_
  refine Wp.text ?_
  refine WpOps.keep 6 (Value.pointer (some (Addr.mk 0 0 none))) (by kernel_rfl) (by kernel_rfl) (by kernel_rfl) ?_ (fun cf => (by kernel_rfl))
  refine WpOps.keep 7 (Value.int IntKind.i64 n) (by kernel_rfl) (by kernel_rfl) (by kernel_rfl) ?_ (fun cf => (by kernel_rfl))
  refine WpOps.called 8 49 [Value.pointer (some (Addr.mk 0 0 none)), Value.int IntKind.i64 n] (by kernel_rfl) (by kernel_rfl) (by kernel_rfl) (by kernel_rfl) (fun cf => (by kernel_rfl)) ?_
  refine WpCall.lent [0] (c0) (by decide) ⟨⟨[Value.slice none 0 0, Value.int IntKind.i64 0, Value.slice none 0 0], (by kernel_rfl), (by kernel_rfl), (by kernel_rfl)⟩, trivial⟩ (by kernel_rfl) (Value.bool false) ([Blk.mk 64 true [Value.slice none 0 0, Value.int IntKind.i64 0, Value.slice none 0 0]]) (.cons (by kernel_rfl) .nil) (by kernel_rfl) (Heap.set (Heap.alloc (heapOf [zs]) (Blk.mk 24 true [Value.slice none 0 0, Value.slice none 0 0, Value.int IntKind.i64 0, Value.int IntKind.i64 0])) 0 (some (Blk.mk 64 true [Value.slice none 0 0, Value.int IntKind.i64 0, Value.slice none 0 0]))) (by kernel_rfl) ?_
  refine WpOps.keep 9 (Value.bool true) (by kernel_rfl) (by kernel_rfl) (by kernel_rfl) ?_ (fun cf => (by kernel_rfl))
  refine WpOps.nil ?_
  refine thenK_at ?_
  refine Wp.on (by kernel_rfl) ?_
  refine Wp.seq ?_
  refine Wp.text ?_
  refine WpOps.keep 10 (Value.agg #[Value.slice none 0 0, Value.slice none 0 0, Value.int IntKind.i64 0, Value.int IntKind.i64 0]) (by kernel_rfl) (by kernel_rfl) (by kernel_rfl) ?_ (fun cf => (by kernel_rfl))
  refine WpOps.laid (Value.tuple #[]) (1) (Blk.mk 24 true [Value.slice none 0 0, Value.slice none 0 0, Value.int IntKind.i64 0, Value.int IntKind.i64 0]) (by kernel_rfl) (by kernel_rfl) (by kernel_rfl) ?_ (fun cf => (by kernel_rfl))
  refine WpOps.keep 5 (Value.int IntKind.i64 1) (by kernel_rfl) (by kernel_rfl) (by kernel_rfl) ?_ (fun cf => (by kernel_rfl))
  refine WpOps.nil ?_
  refine thenK_at ?_
  refine Wp.ret ?_
  refine thenK_ret ?_
  refine endK_retn [Value.agg #[Value.slice none 0 0, Value.slice none 0 0, Value.int IntKind.i64 0, Value.int IntKind.i64 0], Value.int IntKind.i64 1] (Value.tuple #[Value.agg #[Value.slice none 0 0, Value.slice none 0 0, Value.int IntKind.i64 0, Value.int IntKind.i64 0], Value.int IntKind.i64 1]) (by kernel_rfl) (by kernel_rfl) ?_
  exact ⟨[0], by decide, by kernel_rfl, ⟨⟨_, by kernel_rfl, (.cons (.inl ⟨rfl, rfl⟩) (.cons (.inl ⟨rfl, rfl⟩) (.cons (.inl ⟨rfl, rfl⟩) .nil)))⟩, trivial⟩, .tuple _ _ (by kernel_rfl) rfl (.cons (.un rfl rfl) (.cons (.un rfl rfl) .nil))⟩
theorem f30 : E.funcs 30 = some Try.f30 := by kernel_rfl
theorem copy30n : Lent E 30 [.pointer none] [] (.pointer none) [] := by
  refine Lent.of f30 rfl (of_decide_eq_true (by kernel_rfl)) rfl rfl (Nat.le_refl _) rfl rfl rfl ?_
  have c0 := side49n 0
  refine Wp.seq ?_
  refine Wp.text ?_
  refine WpOps.keep 2 (Value.pointer none) (by kernel_rfl) (by kernel_rfl) (by kernel_rfl) ?_ (fun cf => (by kernel_rfl))
  refine WpOps.nil ?_
  refine thenK_at ?_
  refine Wp.seq ?_
  refine Wp.seq ?_
  refine Wp.text ?_
  refine WpOps.keep 5 (Value.pointer none) (by kernel_rfl) (by kernel_rfl) (by kernel_rfl) ?_ (fun cf => (by kernel_rfl))
  refine WpOps.called 6 49 [Value.pointer none, Value.int IntKind.i64 0] (by kernel_rfl) (by kernel_rfl) (by kernel_rfl) (by kernel_rfl) (fun cf => (by kernel_rfl)) ?_
  refine WpCall.lent [] (c0) (by decide) trivial (by kernel_rfl) (Value.bool false) ([]) .nil (by kernel_rfl) (heapOf []) (by kernel_rfl) ?_
  refine WpOps.keep 7 (Value.bool true) (by kernel_rfl) (by kernel_rfl) (by kernel_rfl) ?_ (fun cf => (by kernel_rfl))
  refine WpOps.nil ?_
  refine thenK_at ?_
  refine Wp.on (by kernel_rfl) ?_
  refine Wp.seq ?_
  refine Wp.text ?_
  refine WpOps.keep 2 (Value.pointer none) (by kernel_rfl) (by kernel_rfl) (by kernel_rfl) ?_ (fun cf => (by kernel_rfl))
  refine WpOps.nil ?_
  refine thenK_at ?_
  refine Wp.ret ?_
  refine thenK_ret ?_
  refine endK_retn [Value.pointer none] (Value.pointer none) (by kernel_rfl) (by kernel_rfl) ?_
  exact ⟨[], by decide, by kernel_rfl, trivial, .w (.un rfl rfl)⟩
theorem copy30z : Lent E 30 [.pointer (some ⟨0, 0, none⟩)] [zs] (.pointer none) [zs] := by
  refine Lent.of f30 rfl (of_decide_eq_true (by kernel_rfl)) rfl rfl (Nat.le_refl _) rfl rfl rfl ?_
  have c0 := side49z 0
  refine Wp.seq ?_
  refine Wp.text ?_
  refine WpOps.keep 2 (Value.pointer none) (by kernel_rfl) (by kernel_rfl) (by kernel_rfl) ?_ (fun cf => (by kernel_rfl))
  refine WpOps.nil ?_
  refine thenK_at ?_
  refine Wp.seq ?_
  refine Wp.seq ?_
  refine Wp.text ?_
  refine WpOps.keep 5 (Value.pointer (some (Addr.mk 0 0 none))) (by kernel_rfl) (by kernel_rfl) (by kernel_rfl) ?_ (fun cf => (by kernel_rfl))
  refine WpOps.called 6 49 [Value.pointer (some (Addr.mk 0 0 none)), Value.int IntKind.i64 0] (by kernel_rfl) (by kernel_rfl) (by kernel_rfl) (by kernel_rfl) (fun cf => (by kernel_rfl)) ?_
  refine WpCall.lent [0] (c0) (by decide) ⟨⟨[Value.slice none 0 0, Value.int IntKind.i64 0, Value.slice none 0 0], (by kernel_rfl), (by kernel_rfl), (by kernel_rfl)⟩, trivial⟩ (by kernel_rfl) (Value.bool false) ([Blk.mk 64 true [Value.slice none 0 0, Value.int IntKind.i64 0, Value.slice none 0 0]]) (.cons (by kernel_rfl) .nil) (by kernel_rfl) (Heap.set (heapOf [zs]) 0 (some (Blk.mk 64 true [Value.slice none 0 0, Value.int IntKind.i64 0, Value.slice none 0 0]))) (by kernel_rfl) ?_
  refine WpOps.keep 7 (Value.bool true) (by kernel_rfl) (by kernel_rfl) (by kernel_rfl) ?_ (fun cf => (by kernel_rfl))
  refine WpOps.nil ?_
  refine thenK_at ?_
  refine Wp.on (by kernel_rfl) ?_
  refine Wp.seq ?_
  refine Wp.text ?_
  refine WpOps.keep 2 (Value.pointer none) (by kernel_rfl) (by kernel_rfl) (by kernel_rfl) ?_ (fun cf => (by kernel_rfl))
  refine WpOps.nil ?_
  refine thenK_at ?_
  refine Wp.ret ?_
  refine thenK_ret ?_
  refine endK_retn [Value.pointer none] (Value.pointer none) (by kernel_rfl) (by kernel_rfl) ?_
  exact ⟨[0], by decide, by kernel_rfl, ⟨⟨_, by kernel_rfl, (.cons (.inl ⟨rfl, rfl⟩) (.cons (.inl ⟨rfl, rfl⟩) (.cons (.inl ⟨rfl, rfl⟩) .nil)))⟩, trivial⟩, .w (.un rfl rfl)⟩
theorem f31 : E.funcs 31 = some Try.f31 := by kernel_rfl
theorem turn31n : Lent E 31 [.pointer none] [] (.int .i64 (-1)) [] := by
  refine Lent.of f31 rfl (of_decide_eq_true (by kernel_rfl)) rfl rfl (Nat.le_refl _) rfl rfl rfl ?_
  have c0 := side49n 0
  refine Wp.seq ?_
  refine Wp.text ?_
  refine WpOps.keep 2 (Value.int IntKind.i64 0) (by kernel_rfl) (by kernel_rfl) (by kernel_rfl) ?_ (fun cf => (by kernel_rfl))
  refine WpOps.nil ?_
  refine thenK_at ?_
  refine Wp.seq ?_
  refine Wp.seq ?_
  refine Wp.text ?_
  refine WpOps.keep 3 (Value.pointer none) (by kernel_rfl) (by kernel_rfl) (by kernel_rfl) ?_ (fun cf => (by kernel_rfl))
  refine WpOps.called 4 49 [Value.pointer none, Value.int IntKind.i64 0] (by kernel_rfl) (by kernel_rfl) (by kernel_rfl) (by kernel_rfl) (fun cf => (by kernel_rfl)) ?_
  refine WpCall.lent [] (c0) (by decide) trivial (by kernel_rfl) (Value.bool false) ([]) .nil (by kernel_rfl) (heapOf []) (by kernel_rfl) ?_
  refine WpOps.keep 5 (Value.bool true) (by kernel_rfl) (by kernel_rfl) (by kernel_rfl) ?_ (fun cf => (by kernel_rfl))
  refine WpOps.nil ?_
  refine thenK_at ?_
  refine Wp.on (by kernel_rfl) ?_
  refine Wp.seq ?_
  refine Wp.text ?_
  refine WpOps.keep 2 (Value.int IntKind.i64 (-1)) (by kernel_rfl) (by kernel_rfl) (by kernel_rfl) ?_ (fun cf => (by kernel_rfl))
  refine WpOps.nil ?_
  refine thenK_at ?_
  refine Wp.ret ?_
  refine thenK_ret ?_
  refine endK_retn [Value.int IntKind.i64 (-1)] (Value.int IntKind.i64 (-1)) (by kernel_rfl) (by kernel_rfl) ?_
  exact ⟨[], by decide, by kernel_rfl, trivial, .w (.un rfl rfl)⟩
theorem turn31z : Lent E 31 [.pointer (some ⟨0, 0, none⟩)] [zs] (.int .i64 (-1)) [zs] := by
  refine Lent.of f31 rfl (of_decide_eq_true (by kernel_rfl)) rfl rfl (Nat.le_refl _) rfl rfl rfl ?_
  have c0 := side49z 0
  refine Wp.seq ?_
  refine Wp.text ?_
  refine WpOps.keep 2 (Value.int IntKind.i64 0) (by kernel_rfl) (by kernel_rfl) (by kernel_rfl) ?_ (fun cf => (by kernel_rfl))
  refine WpOps.nil ?_
  refine thenK_at ?_
  refine Wp.seq ?_
  refine Wp.seq ?_
  refine Wp.text ?_
  refine WpOps.keep 3 (Value.pointer (some (Addr.mk 0 0 none))) (by kernel_rfl) (by kernel_rfl) (by kernel_rfl) ?_ (fun cf => (by kernel_rfl))
  refine WpOps.called 4 49 [Value.pointer (some (Addr.mk 0 0 none)), Value.int IntKind.i64 0] (by kernel_rfl) (by kernel_rfl) (by kernel_rfl) (by kernel_rfl) (fun cf => (by kernel_rfl)) ?_
  refine WpCall.lent [0] (c0) (by decide) ⟨⟨[Value.slice none 0 0, Value.int IntKind.i64 0, Value.slice none 0 0], (by kernel_rfl), (by kernel_rfl), (by kernel_rfl)⟩, trivial⟩ (by kernel_rfl) (Value.bool false) ([Blk.mk 64 true [Value.slice none 0 0, Value.int IntKind.i64 0, Value.slice none 0 0]]) (.cons (by kernel_rfl) .nil) (by kernel_rfl) (Heap.set (heapOf [zs]) 0 (some (Blk.mk 64 true [Value.slice none 0 0, Value.int IntKind.i64 0, Value.slice none 0 0]))) (by kernel_rfl) ?_
  refine WpOps.keep 5 (Value.bool true) (by kernel_rfl) (by kernel_rfl) (by kernel_rfl) ?_ (fun cf => (by kernel_rfl))
  refine WpOps.nil ?_
  refine thenK_at ?_
  refine Wp.on (by kernel_rfl) ?_
  refine Wp.seq ?_
  refine Wp.text ?_
  refine WpOps.keep 2 (Value.int IntKind.i64 (-1)) (by kernel_rfl) (by kernel_rfl) (by kernel_rfl) ?_ (fun cf => (by kernel_rfl))
  refine WpOps.nil ?_
  refine thenK_at ?_
  refine Wp.ret ?_
  refine thenK_ret ?_
  refine endK_retn [Value.int IntKind.i64 (-1)] (Value.int IntKind.i64 (-1)) (by kernel_rfl) (by kernel_rfl) ?_
  exact ⟨[0], by decide, by kernel_rfl, ⟨⟨_, by kernel_rfl, (.cons (.inl ⟨rfl, rfl⟩) (.cons (.inl ⟨rfl, rfl⟩) (.cons (.inl ⟨rfl, rfl⟩) .nil)))⟩, trivial⟩, .w (.un rfl rfl)⟩
theorem f7 : E.funcs 7 = some Try.f7 := by kernel_rfl
theorem law7 (n a b c d : Int) (s : ByteArray) : Fun E 7 [.int .i64 n, upV a b c d s] (.bool true) := by
  refine Fun.of f7 rfl (of_decide_eq_true (by kernel_rfl)) rfl ?_
  have u1 := update22n n a b c d s
  have u2 := update22z n a b c d s
  have d1 := deliver23n n
  have d2 := deliver23z n
  have g1 := give24n n
  have g2 := give24z n
  have c1 := come25n n
  have c2 := come25z n
  have b1 := break26n n
  have b2 := break26z n
  have w1 := waiting27n n
  have w2 := waiting27z n
  have o1 := onway28n
  have o2 := onway28z
  have s1 := show29n n
  have s2 := show29z n
  have p1 := copy30n
  have p2 := copy30z
  have t1 := turn31n
  have t2 := turn31z
  have sn := sane18
  refine Wp.seq ?_
  refine Wp.text ?_
  refine WpOps.made 3 (Value.pointer (some (Addr.mk 0 0 none))) (Blk.mk 26 true [Value.int IntKind.i64 a, Value.int IntKind.i64 b, Value.int IntKind.i64 c, Value.int IntKind.i64 d, Value.string s]) (by kernel_rfl) (by kernel_rfl) (by kernel_rfl) ?_ (fun cf => (by kernel_rfl))
  refine WpOps.keep 4 (Value.bool false) (by kernel_rfl) (by kernel_rfl) (by kernel_rfl) ?_ (fun cf => (by kernel_rfl))
  refine WpOps.nil ?_
  refine thenK_at ?_
  refine Wp.seq ?_
  refine Wp.text ?_
  refine WpOps.keep 5 (Value.pointer none) (by kernel_rfl) (by kernel_rfl) (by kernel_rfl) ?_ (fun cf => (by kernel_rfl))
  refine WpOps.nil ?_
  refine thenK_at ?_
  refine Wp.seq ?_
  refine Wp.text ?_
  refine WpOps.keep 15 (Value.agg #[Value.slice none 0 0, Value.int IntKind.i64 0, Value.slice none 0 0]) (by kernel_rfl) (by kernel_rfl) (by kernel_rfl) ?_ (fun cf => (by kernel_rfl))
  refine WpOps.made 16 (Value.pointer (some (Addr.mk 1 0 none))) (Blk.mk 64 true [Value.slice none 0 0, Value.int IntKind.i64 0, Value.slice none 0 0]) (by kernel_rfl) (by kernel_rfl) (by kernel_rfl) ?_ (fun cf => (by kernel_rfl))
  refine WpOps.keep 6 (Value.pointer (some (Addr.mk 1 0 none))) (by kernel_rfl) (by kernel_rfl) (by kernel_rfl) ?_ (fun cf => (by kernel_rfl))
  refine WpOps.nil ?_
  refine thenK_at ?_
  refine Wp.seq ?_
  refine Wp.seq ?_
  refine Wp.text ?_
  refine WpOps.keep 17 (Value.pointer none) (by kernel_rfl) (by kernel_rfl) (by kernel_rfl) ?_ (fun cf => (by kernel_rfl))
  refine WpOps.keep 18 (Value.pointer (some (Addr.mk 1 0 none))) (by kernel_rfl) (by kernel_rfl) (by kernel_rfl) ?_ (fun cf => (by kernel_rfl))
  refine WpOps.made 19 (Value.slice (some (Addr.mk 2 0 none)) 2 2) (Blk.mk 48 true [Value.pointer none, Value.pointer (some (Addr.mk 1 0 none))]) (by kernel_rfl) (by kernel_rfl) (by kernel_rfl) ?_ (fun cf => (by kernel_rfl))
  refine WpOps.keep 20 (Value.int IntKind.i64 (↑2 : Int)) (by kernel_rfl) (by kernel_rfl) (by kernel_rfl) ?_ (fun cf => (by kernel_rfl))
  refine WpOps.keep 21 (Value.int IntKind.i64 0) (by kernel_rfl) (by kernel_rfl) (by kernel_rfl) ?_ (fun cf => (by kernel_rfl))
  refine WpOps.nil ?_
  refine thenK_at ?_
  refine Wp.block ?_
  refine Wp.unroll (WpL.step ?_)
  refine Wp.seq ?_
  refine Wp.text ?_
  refine WpOps.keep 22 (Value.bool true) (by kernel_rfl) (by kernel_rfl) (by kernel_rfl) ?_ (fun cf => (by kernel_rfl))
  refine WpOps.nil ?_
  refine thenK_at ?_
  refine Wp.seq ?_
  refine Wp.on (by kernel_rfl) ?_
  refine Wp.skip ?_
  refine thenK_at ?_
  refine Wp.seq ?_
  refine Wp.block ?_
  refine Wp.seq ?_
  refine Wp.text ?_
  refine WpOps.keep 23 (Value.pointer (some (Addr.mk 2 0 none))) (by kernel_rfl) (by kernel_rfl) (by kernel_rfl) ?_ (fun cf => (by kernel_rfl))
  refine WpOps.keep 24 (Value.pointer none) (by kernel_rfl) (by kernel_rfl) (by kernel_rfl) ?_ (fun cf => (by kernel_rfl))
  refine WpOps.keep 8 (Value.pointer none) (by kernel_rfl) (by kernel_rfl) (by kernel_rfl) ?_ (fun cf => (by kernel_rfl))
  refine WpOps.nil ?_
  refine thenK_at ?_
  refine Wp.seq ?_
  refine Wp.text ?_
  refine WpOps.keep 26 (Value.pointer none) (by kernel_rfl) (by kernel_rfl) (by kernel_rfl) ?_ (fun cf => (by kernel_rfl))
  refine WpOps.keep 27 (Value.int IntKind.i64 n) (by kernel_rfl) (by kernel_rfl) (by kernel_rfl) ?_ (fun cf => (by kernel_rfl))
  refine WpOps.called 28 25 [Value.pointer none, Value.int IntKind.i64 n] (by kernel_rfl) (by kernel_rfl) (by kernel_rfl) (by kernel_rfl) (fun cf => (by kernel_rfl)) ?_
  refine WpCall.lent [] (c1) (by decide) trivial (by kernel_rfl) (Value.tuple #[Value.int IntKind.i64 0, Value.int IntKind.i64 1]) ([]) .nil (by kernel_rfl) (Heap.alloc (Heap.alloc (Heap.alloc Heap.none (Blk.mk 26 true [Value.int IntKind.i64 a, Value.int IntKind.i64 b, Value.int IntKind.i64 c, Value.int IntKind.i64 d, Value.string s])) (Blk.mk 64 true [Value.slice none 0 0, Value.int IntKind.i64 0, Value.slice none 0 0])) (Blk.mk 48 true [Value.pointer none, Value.pointer (some (Addr.mk 1 0 none))])) (by kernel_rfl) ?_
  refine WpOps.keep 25 (Value.tuple #[Value.int IntKind.i64 0, Value.int IntKind.i64 1]) (by kernel_rfl) (by kernel_rfl) (by kernel_rfl) ?_ (fun cf => (by kernel_rfl))
  refine WpOps.keep 29 (Value.int IntKind.i64 0) (by kernel_rfl) (by kernel_rfl) (by kernel_rfl) ?_ (fun cf => (by kernel_rfl))
  refine WpOps.keep 30 (Value.int IntKind.i64 1) (by kernel_rfl) (by kernel_rfl) (by kernel_rfl) ?_ (fun cf => (by kernel_rfl))
  refine WpOps.keep 9 (Value.int IntKind.i64 0) (by kernel_rfl) (by kernel_rfl) (by kernel_rfl) ?_ (fun cf => (by kernel_rfl))
  refine WpOps.keep 10 (Value.int IntKind.i64 1) (by kernel_rfl) (by kernel_rfl) (by kernel_rfl) ?_ (fun cf => (by kernel_rfl))
  refine WpOps.nil ?_
  refine thenK_at ?_
  refine Wp.seq ?_
  refine Wp.text ?_
  refine WpOps.keep 32 (Value.pointer none) (by kernel_rfl) (by kernel_rfl) (by kernel_rfl) ?_ (fun cf => (by kernel_rfl))
  refine WpOps.keep 33 (Value.int IntKind.i64 n) (by kernel_rfl) (by kernel_rfl) (by kernel_rfl) ?_ (fun cf => (by kernel_rfl))
  refine WpOps.called 34 29 [Value.pointer none, Value.int IntKind.i64 n] (by kernel_rfl) (by kernel_rfl) (by kernel_rfl) (by kernel_rfl) (fun cf => (by kernel_rfl)) ?_
  refine WpCall.lent [] (s1) (by decide) trivial (by kernel_rfl) (Value.tuple #[Value.agg (List.toArray (List.map (unC []) (Array.toList #[Value.slice none 0 0, Value.slice none 0 0, Value.int IntKind.i64 0, Value.int IntKind.i64 0]))), Value.int IntKind.i64 1]) ([]) .nil (by kernel_rfl) (Heap.alloc (Heap.alloc (Heap.alloc Heap.none (Blk.mk 26 true [Value.int IntKind.i64 a, Value.int IntKind.i64 b, Value.int IntKind.i64 c, Value.int IntKind.i64 d, Value.string s])) (Blk.mk 64 true [Value.slice none 0 0, Value.int IntKind.i64 0, Value.slice none 0 0])) (Blk.mk 48 true [Value.pointer none, Value.pointer (some (Addr.mk 1 0 none))])) (by kernel_rfl) ?_
  refine WpOps.keep 31 (Value.tuple #[Value.agg #[Value.slice none 0 0, Value.slice none 0 0, Value.int IntKind.i64 0, Value.int IntKind.i64 0], Value.int IntKind.i64 1]) (by kernel_rfl) (by kernel_rfl) (by kernel_rfl) ?_ (fun cf => (by kernel_rfl))
  refine WpOps.keep 35 (Value.agg #[Value.slice none 0 0, Value.slice none 0 0, Value.int IntKind.i64 0, Value.int IntKind.i64 0]) (by kernel_rfl) (by kernel_rfl) (by kernel_rfl) ?_ (fun cf => (by kernel_rfl))
  refine WpOps.keep 36 (Value.int IntKind.i64 1) (by kernel_rfl) (by kernel_rfl) (by kernel_rfl) ?_ (fun cf => (by kernel_rfl))
  refine WpOps.made 11 (Value.pointer (some (Addr.mk 3 0 none))) (Blk.mk 24 true [Value.slice none 0 0, Value.slice none 0 0, Value.int IntKind.i64 0, Value.int IntKind.i64 0]) (by kernel_rfl) (by kernel_rfl) (by kernel_rfl) ?_ (fun cf => (by kernel_rfl))
  refine WpOps.laid (Value.tuple #[]) (3) (Blk.mk 24 true [Value.slice none 0 0, Value.slice none 0 0, Value.int IntKind.i64 0, Value.int IntKind.i64 0]) (by kernel_rfl) (by kernel_rfl) (by kernel_rfl) ?_ (fun cf => (by kernel_rfl))
  refine WpOps.keep 12 (Value.int IntKind.i64 1) (by kernel_rfl) (by kernel_rfl) (by kernel_rfl) ?_ (fun cf => (by kernel_rfl))
  refine WpOps.nil ?_
  refine thenK_at ?_
  refine Wp.seq ?_
  refine Wp.text ?_
  refine WpOps.keep 38 (Value.pointer none) (by kernel_rfl) (by kernel_rfl) (by kernel_rfl) ?_ (fun cf => (by kernel_rfl))
  refine WpOps.keep 39 (Value.int IntKind.i64 n) (by kernel_rfl) (by kernel_rfl) (by kernel_rfl) ?_ (fun cf => (by kernel_rfl))
  refine WpOps.called 40 27 [Value.pointer none, Value.int IntKind.i64 n] (by kernel_rfl) (by kernel_rfl) (by kernel_rfl) (by kernel_rfl) (fun cf => (by kernel_rfl)) ?_
  refine WpCall.lent [] (w1) (by decide) trivial (by kernel_rfl) (Value.tuple #[Value.int IntKind.i64 0, Value.int IntKind.i64 1]) ([]) .nil (by kernel_rfl) (Heap.set (Heap.alloc (Heap.alloc (Heap.alloc (Heap.alloc Heap.none (Blk.mk 26 true [Value.int IntKind.i64 a, Value.int IntKind.i64 b, Value.int IntKind.i64 c, Value.int IntKind.i64 d, Value.string s])) (Blk.mk 64 true [Value.slice none 0 0, Value.int IntKind.i64 0, Value.slice none 0 0])) (Blk.mk 48 true [Value.pointer none, Value.pointer (some (Addr.mk 1 0 none))])) (Blk.mk 24 true [Value.slice none 0 0, Value.slice none 0 0, Value.int IntKind.i64 0, Value.int IntKind.i64 0])) 3 (some (Blk.mk 24 true [Value.slice none 0 0, Value.slice none 0 0, Value.int IntKind.i64 0, Value.int IntKind.i64 0]))) (by kernel_rfl) ?_
  refine WpOps.keep 37 (Value.tuple #[Value.int IntKind.i64 0, Value.int IntKind.i64 1]) (by kernel_rfl) (by kernel_rfl) (by kernel_rfl) ?_ (fun cf => (by kernel_rfl))
  refine WpOps.keep 41 (Value.int IntKind.i64 0) (by kernel_rfl) (by kernel_rfl) (by kernel_rfl) ?_ (fun cf => (by kernel_rfl))
  refine WpOps.keep 42 (Value.int IntKind.i64 1) (by kernel_rfl) (by kernel_rfl) (by kernel_rfl) ?_ (fun cf => (by kernel_rfl))
  refine WpOps.keep 13 (Value.int IntKind.i64 0) (by kernel_rfl) (by kernel_rfl) (by kernel_rfl) ?_ (fun cf => (by kernel_rfl))
  refine WpOps.keep 14 (Value.int IntKind.i64 1) (by kernel_rfl) (by kernel_rfl) (by kernel_rfl) ?_ (fun cf => (by kernel_rfl))
  refine WpOps.nil ?_
  refine thenK_at ?_
  refine Wp.seq ?_
  refine Wp.text ?_
  refine WpOps.keep 43 (Value.int IntKind.i64 1) (by kernel_rfl) (by kernel_rfl) (by kernel_rfl) ?_ (fun cf => (by kernel_rfl))
  refine WpOps.keep 44 (Value.bool false) (by kernel_rfl) (by kernel_rfl) (by kernel_rfl) ?_ (fun cf => (by kernel_rfl))
  refine WpOps.keep 45 (Value.bool false) (by kernel_rfl) (by kernel_rfl) (by kernel_rfl) ?_ (fun cf => (by kernel_rfl))
  refine WpOps.keep 46 (Value.int IntKind.i64 1) (by kernel_rfl) (by kernel_rfl) (by kernel_rfl) ?_ (fun cf => (by kernel_rfl))
  refine WpOps.keep 47 (Value.bool false) (by kernel_rfl) (by kernel_rfl) (by kernel_rfl) ?_ (fun cf => (by kernel_rfl))
  refine WpOps.keep 48 (Value.bool false) (by kernel_rfl) (by kernel_rfl) (by kernel_rfl) ?_ (fun cf => (by kernel_rfl))
  refine WpOps.keep 49 (Value.bool false) (by kernel_rfl) (by kernel_rfl) (by kernel_rfl) ?_ (fun cf => (by kernel_rfl))
  refine WpOps.keep 50 (Value.int IntKind.i64 1) (by kernel_rfl) (by kernel_rfl) (by kernel_rfl) ?_ (fun cf => (by kernel_rfl))
  refine WpOps.keep 51 (Value.bool false) (by kernel_rfl) (by kernel_rfl) (by kernel_rfl) ?_ (fun cf => (by kernel_rfl))
  refine WpOps.keep 52 (Value.bool false) (by kernel_rfl) (by kernel_rfl) (by kernel_rfl) ?_ (fun cf => (by kernel_rfl))
  refine WpOps.keep 53 (Value.bool false) (by kernel_rfl) (by kernel_rfl) (by kernel_rfl) ?_ (fun cf => (by kernel_rfl))
  refine WpOps.keep 54 (Value.pointer none) (by kernel_rfl) (by kernel_rfl) (by kernel_rfl) ?_ (fun cf => (by kernel_rfl))
  refine WpOps.keep 55 (Value.int IntKind.i64 n) (by kernel_rfl) (by kernel_rfl) (by kernel_rfl) ?_ (fun cf => (by kernel_rfl))
  refine WpOps.keep 56 (Value.agg #[Value.int IntKind.i64 a, Value.int IntKind.i64 b, Value.int IntKind.i64 c, Value.int IntKind.i64 d, Value.string s]) (by kernel_rfl) (by kernel_rfl) (by kernel_rfl) ?_ (fun cf => (by kernel_rfl))
  refine WpOps.called 57 22 [Value.pointer none, Value.int IntKind.i64 n, Value.agg #[Value.int IntKind.i64 a, Value.int IntKind.i64 b, Value.int IntKind.i64 c, Value.int IntKind.i64 d, Value.string s]] (by kernel_rfl) (by kernel_rfl) (by kernel_rfl) (by kernel_rfl) (fun cf => (by kernel_rfl)) ?_
  refine WpCall.lent [] (u1) (by decide) trivial (by kernel_rfl) (Value.int IntKind.i64 1) ([]) .nil (by kernel_rfl) (Heap.set (Heap.alloc (Heap.alloc (Heap.alloc (Heap.alloc Heap.none (Blk.mk 26 true [Value.int IntKind.i64 a, Value.int IntKind.i64 b, Value.int IntKind.i64 c, Value.int IntKind.i64 d, Value.string s])) (Blk.mk 64 true [Value.slice none 0 0, Value.int IntKind.i64 0, Value.slice none 0 0])) (Blk.mk 48 true [Value.pointer none, Value.pointer (some (Addr.mk 1 0 none))])) (Blk.mk 24 true [Value.slice none 0 0, Value.slice none 0 0, Value.int IntKind.i64 0, Value.int IntKind.i64 0])) 3 (some (Blk.mk 24 true [Value.slice none 0 0, Value.slice none 0 0, Value.int IntKind.i64 0, Value.int IntKind.i64 0]))) (by kernel_rfl) ?_
  refine WpOps.keep 58 (Value.bool false) (by kernel_rfl) (by kernel_rfl) (by kernel_rfl) ?_ (fun cf => (by kernel_rfl))
  refine WpOps.keep 59 (Value.bool false) (by kernel_rfl) (by kernel_rfl) (by kernel_rfl) ?_ (fun cf => (by kernel_rfl))
  refine WpOps.keep 60 (Value.bool false) (by kernel_rfl) (by kernel_rfl) (by kernel_rfl) ?_ (fun cf => (by kernel_rfl))
  refine WpOps.keep 61 (Value.pointer none) (by kernel_rfl) (by kernel_rfl) (by kernel_rfl) ?_ (fun cf => (by kernel_rfl))
  refine WpOps.keep 62 (Value.int IntKind.i64 n) (by kernel_rfl) (by kernel_rfl) (by kernel_rfl) ?_ (fun cf => (by kernel_rfl))
  refine WpOps.called 63 23 [Value.pointer none, Value.int IntKind.i64 n] (by kernel_rfl) (by kernel_rfl) (by kernel_rfl) (by kernel_rfl) (fun cf => (by kernel_rfl)) ?_
  refine WpCall.lent [] (d1) (by decide) trivial (by kernel_rfl) (Value.int IntKind.i64 1) ([]) .nil (by kernel_rfl) (Heap.set (Heap.alloc (Heap.alloc (Heap.alloc (Heap.alloc Heap.none (Blk.mk 26 true [Value.int IntKind.i64 a, Value.int IntKind.i64 b, Value.int IntKind.i64 c, Value.int IntKind.i64 d, Value.string s])) (Blk.mk 64 true [Value.slice none 0 0, Value.int IntKind.i64 0, Value.slice none 0 0])) (Blk.mk 48 true [Value.pointer none, Value.pointer (some (Addr.mk 1 0 none))])) (Blk.mk 24 true [Value.slice none 0 0, Value.slice none 0 0, Value.int IntKind.i64 0, Value.int IntKind.i64 0])) 3 (some (Blk.mk 24 true [Value.slice none 0 0, Value.slice none 0 0, Value.int IntKind.i64 0, Value.int IntKind.i64 0]))) (by kernel_rfl) ?_
  refine WpOps.keep 64 (Value.bool false) (by kernel_rfl) (by kernel_rfl) (by kernel_rfl) ?_ (fun cf => (by kernel_rfl))
  refine WpOps.keep 65 (Value.bool false) (by kernel_rfl) (by kernel_rfl) (by kernel_rfl) ?_ (fun cf => (by kernel_rfl))
  refine WpOps.keep 66 (Value.bool false) (by kernel_rfl) (by kernel_rfl) (by kernel_rfl) ?_ (fun cf => (by kernel_rfl))
  refine WpOps.keep 67 (Value.pointer none) (by kernel_rfl) (by kernel_rfl) (by kernel_rfl) ?_ (fun cf => (by kernel_rfl))
  refine WpOps.keep 68 (Value.int IntKind.i64 n) (by kernel_rfl) (by kernel_rfl) (by kernel_rfl) ?_ (fun cf => (by kernel_rfl))
  refine WpOps.called 69 24 [Value.pointer none, Value.int IntKind.i64 n] (by kernel_rfl) (by kernel_rfl) (by kernel_rfl) (by kernel_rfl) (fun cf => (by kernel_rfl)) ?_
  refine WpCall.lent [] (g1) (by decide) trivial (by kernel_rfl) (Value.int IntKind.i64 1) ([]) .nil (by kernel_rfl) (Heap.set (Heap.alloc (Heap.alloc (Heap.alloc (Heap.alloc Heap.none (Blk.mk 26 true [Value.int IntKind.i64 a, Value.int IntKind.i64 b, Value.int IntKind.i64 c, Value.int IntKind.i64 d, Value.string s])) (Blk.mk 64 true [Value.slice none 0 0, Value.int IntKind.i64 0, Value.slice none 0 0])) (Blk.mk 48 true [Value.pointer none, Value.pointer (some (Addr.mk 1 0 none))])) (Blk.mk 24 true [Value.slice none 0 0, Value.slice none 0 0, Value.int IntKind.i64 0, Value.int IntKind.i64 0])) 3 (some (Blk.mk 24 true [Value.slice none 0 0, Value.slice none 0 0, Value.int IntKind.i64 0, Value.int IntKind.i64 0]))) (by kernel_rfl) ?_
  refine WpOps.keep 70 (Value.bool false) (by kernel_rfl) (by kernel_rfl) (by kernel_rfl) ?_ (fun cf => (by kernel_rfl))
  refine WpOps.keep 71 (Value.bool false) (by kernel_rfl) (by kernel_rfl) (by kernel_rfl) ?_ (fun cf => (by kernel_rfl))
  refine WpOps.keep 72 (Value.bool false) (by kernel_rfl) (by kernel_rfl) (by kernel_rfl) ?_ (fun cf => (by kernel_rfl))
  refine WpOps.keep 73 (Value.pointer none) (by kernel_rfl) (by kernel_rfl) (by kernel_rfl) ?_ (fun cf => (by kernel_rfl))
  refine WpOps.keep 74 (Value.int IntKind.i64 n) (by kernel_rfl) (by kernel_rfl) (by kernel_rfl) ?_ (fun cf => (by kernel_rfl))
  refine WpOps.called 75 26 [Value.pointer none, Value.int IntKind.i64 n] (by kernel_rfl) (by kernel_rfl) (by kernel_rfl) (by kernel_rfl) (fun cf => (by kernel_rfl)) ?_
  refine WpCall.lent [] (b1) (by decide) trivial (by kernel_rfl) (Value.int IntKind.i64 1) ([]) .nil (by kernel_rfl) (Heap.set (Heap.alloc (Heap.alloc (Heap.alloc (Heap.alloc Heap.none (Blk.mk 26 true [Value.int IntKind.i64 a, Value.int IntKind.i64 b, Value.int IntKind.i64 c, Value.int IntKind.i64 d, Value.string s])) (Blk.mk 64 true [Value.slice none 0 0, Value.int IntKind.i64 0, Value.slice none 0 0])) (Blk.mk 48 true [Value.pointer none, Value.pointer (some (Addr.mk 1 0 none))])) (Blk.mk 24 true [Value.slice none 0 0, Value.slice none 0 0, Value.int IntKind.i64 0, Value.int IntKind.i64 0])) 3 (some (Blk.mk 24 true [Value.slice none 0 0, Value.slice none 0 0, Value.int IntKind.i64 0, Value.int IntKind.i64 0]))) (by kernel_rfl) ?_
  refine WpOps.keep 76 (Value.bool false) (by kernel_rfl) (by kernel_rfl) (by kernel_rfl) ?_ (fun cf => (by kernel_rfl))
  refine WpOps.keep 77 (Value.bool false) (by kernel_rfl) (by kernel_rfl) (by kernel_rfl) ?_ (fun cf => (by kernel_rfl))
  refine WpOps.keep 78 (Value.bool false) (by kernel_rfl) (by kernel_rfl) (by kernel_rfl) ?_ (fun cf => (by kernel_rfl))
  refine WpOps.keep 79 (Value.pointer none) (by kernel_rfl) (by kernel_rfl) (by kernel_rfl) ?_ (fun cf => (by kernel_rfl))
  refine WpOps.called 80 28 [Value.pointer none] (by kernel_rfl) (by kernel_rfl) (by kernel_rfl) (by kernel_rfl) (fun cf => (by kernel_rfl)) ?_
  refine WpCall.lent [] (o1) (by decide) trivial (by kernel_rfl) (Value.int IntKind.i64 0) ([]) .nil (by kernel_rfl) (Heap.set (Heap.alloc (Heap.alloc (Heap.alloc (Heap.alloc Heap.none (Blk.mk 26 true [Value.int IntKind.i64 a, Value.int IntKind.i64 b, Value.int IntKind.i64 c, Value.int IntKind.i64 d, Value.string s])) (Blk.mk 64 true [Value.slice none 0 0, Value.int IntKind.i64 0, Value.slice none 0 0])) (Blk.mk 48 true [Value.pointer none, Value.pointer (some (Addr.mk 1 0 none))])) (Blk.mk 24 true [Value.slice none 0 0, Value.slice none 0 0, Value.int IntKind.i64 0, Value.int IntKind.i64 0])) 3 (some (Blk.mk 24 true [Value.slice none 0 0, Value.slice none 0 0, Value.int IntKind.i64 0, Value.int IntKind.i64 0]))) (by kernel_rfl) ?_
  refine WpOps.keep 81 (Value.bool false) (by kernel_rfl) (by kernel_rfl) (by kernel_rfl) ?_ (fun cf => (by kernel_rfl))
  refine WpOps.keep 82 (Value.bool false) (by kernel_rfl) (by kernel_rfl) (by kernel_rfl) ?_ (fun cf => (by kernel_rfl))
  refine WpOps.keep 83 (Value.bool false) (by kernel_rfl) (by kernel_rfl) (by kernel_rfl) ?_ (fun cf => (by kernel_rfl))
  refine WpOps.keep 84 (Value.pointer none) (by kernel_rfl) (by kernel_rfl) (by kernel_rfl) ?_ (fun cf => (by kernel_rfl))
  refine WpOps.called 85 30 [Value.pointer none] (by kernel_rfl) (by kernel_rfl) (by kernel_rfl) (by kernel_rfl) (fun cf => (by kernel_rfl)) ?_
  refine WpCall.lent [] (p1) (by decide) trivial (by kernel_rfl) (Value.pointer none) ([]) .nil (by kernel_rfl) (Heap.set (Heap.alloc (Heap.alloc (Heap.alloc (Heap.alloc Heap.none (Blk.mk 26 true [Value.int IntKind.i64 a, Value.int IntKind.i64 b, Value.int IntKind.i64 c, Value.int IntKind.i64 d, Value.string s])) (Blk.mk 64 true [Value.slice none 0 0, Value.int IntKind.i64 0, Value.slice none 0 0])) (Blk.mk 48 true [Value.pointer none, Value.pointer (some (Addr.mk 1 0 none))])) (Blk.mk 24 true [Value.slice none 0 0, Value.slice none 0 0, Value.int IntKind.i64 0, Value.int IntKind.i64 0])) 3 (some (Blk.mk 24 true [Value.slice none 0 0, Value.slice none 0 0, Value.int IntKind.i64 0, Value.int IntKind.i64 0]))) (by kernel_rfl) ?_
  refine WpOps.keep 86 (Value.bool false) (by kernel_rfl) (by kernel_rfl) (by kernel_rfl) ?_ (fun cf => (by kernel_rfl))
  refine WpOps.keep 87 (Value.bool false) (by kernel_rfl) (by kernel_rfl) (by kernel_rfl) ?_ (fun cf => (by kernel_rfl))
  refine WpOps.nil ?_
  refine thenK_at ?_
  refine Wp.off (by kernel_rfl) ?_
  refine Wp.skip ?_
  refine blockK_norm ?_
  refine thenK_at ?_
  refine Wp.text ?_
  refine WpOps.keep 88 (Value.int IntKind.i64 (IntKind.wrap IntKind.i64 (0 + 1))) (by kernel_rfl) (by kernel_rfl) (by kernel_rfl) ?_ (fun cf => (by kernel_rfl))
  refine WpOps.keep 21 (Value.int IntKind.i64 (IntKind.wrap IntKind.i64 (0 + 1))) (by kernel_rfl) (by kernel_rfl) (by kernel_rfl) ?_ (fun cf => (by kernel_rfl))
  refine WpOps.nil ?_
  refine thenK_at ?_
  refine WpL.step ?_
  refine Wp.seq ?_
  refine Wp.text ?_
  refine WpOps.keep 22 (Value.bool true) (by kernel_rfl) (by kernel_rfl) (by kernel_rfl) ?_ (fun cf => (by kernel_rfl))
  refine WpOps.nil ?_
  refine thenK_at ?_
  refine Wp.seq ?_
  refine Wp.on (by kernel_rfl) ?_
  refine Wp.skip ?_
  refine thenK_at ?_
  refine Wp.seq ?_
  refine Wp.block ?_
  refine Wp.seq ?_
  refine Wp.text ?_
  refine WpOps.keep 23 (Value.pointer (some (Addr.mk 2 1 none))) (by kernel_rfl) (by kernel_rfl) (by kernel_rfl) ?_ (fun cf => (by kernel_rfl))
  refine WpOps.keep 24 (Value.pointer (some (Addr.mk 1 0 none))) (by kernel_rfl) (by kernel_rfl) (by kernel_rfl) ?_ (fun cf => (by kernel_rfl))
  refine WpOps.keep 8 (Value.pointer (some (Addr.mk 1 0 none))) (by kernel_rfl) (by kernel_rfl) (by kernel_rfl) ?_ (fun cf => (by kernel_rfl))
  refine WpOps.nil ?_
  refine thenK_at ?_
  refine Wp.seq ?_
  refine Wp.text ?_
  refine WpOps.keep 26 (Value.pointer (some (Addr.mk 1 0 none))) (by kernel_rfl) (by kernel_rfl) (by kernel_rfl) ?_ (fun cf => (by kernel_rfl))
  refine WpOps.keep 27 (Value.int IntKind.i64 n) (by kernel_rfl) (by kernel_rfl) (by kernel_rfl) ?_ (fun cf => (by kernel_rfl))
  refine WpOps.called 28 25 [Value.pointer (some (Addr.mk 1 0 none)), Value.int IntKind.i64 n] (by kernel_rfl) (by kernel_rfl) (by kernel_rfl) (by kernel_rfl) (fun cf => (by kernel_rfl)) ?_
  refine WpCall.lent [1] (c2) (by decide) ⟨⟨[Value.slice none 0 0, Value.int IntKind.i64 0, Value.slice none 0 0], (by kernel_rfl), (by kernel_rfl), (by kernel_rfl)⟩, trivial⟩ (by kernel_rfl) (Value.tuple #[Value.int IntKind.i64 0, Value.int IntKind.i64 1]) ([Blk.mk 64 true [Value.slice none 0 0, Value.int IntKind.i64 0, Value.slice none 0 0]]) (.cons (by kernel_rfl) .nil) (by kernel_rfl) (Heap.set (Heap.set (Heap.alloc (Heap.alloc (Heap.alloc (Heap.alloc Heap.none (Blk.mk 26 true [Value.int IntKind.i64 a, Value.int IntKind.i64 b, Value.int IntKind.i64 c, Value.int IntKind.i64 d, Value.string s])) (Blk.mk 64 true [Value.slice none 0 0, Value.int IntKind.i64 0, Value.slice none 0 0])) (Blk.mk 48 true [Value.pointer none, Value.pointer (some (Addr.mk 1 0 none))])) (Blk.mk 24 true [Value.slice none 0 0, Value.slice none 0 0, Value.int IntKind.i64 0, Value.int IntKind.i64 0])) 3 (some (Blk.mk 24 true [Value.slice none 0 0, Value.slice none 0 0, Value.int IntKind.i64 0, Value.int IntKind.i64 0]))) 1 (some (Blk.mk 64 true [Value.slice none 0 0, Value.int IntKind.i64 0, Value.slice none 0 0]))) (by kernel_rfl) ?_
  refine WpOps.keep 25 (Value.tuple #[Value.int IntKind.i64 0, Value.int IntKind.i64 1]) (by kernel_rfl) (by kernel_rfl) (by kernel_rfl) ?_ (fun cf => (by kernel_rfl))
  refine WpOps.keep 29 (Value.int IntKind.i64 0) (by kernel_rfl) (by kernel_rfl) (by kernel_rfl) ?_ (fun cf => (by kernel_rfl))
  refine WpOps.keep 30 (Value.int IntKind.i64 1) (by kernel_rfl) (by kernel_rfl) (by kernel_rfl) ?_ (fun cf => (by kernel_rfl))
  refine WpOps.keep 9 (Value.int IntKind.i64 0) (by kernel_rfl) (by kernel_rfl) (by kernel_rfl) ?_ (fun cf => (by kernel_rfl))
  refine WpOps.keep 10 (Value.int IntKind.i64 1) (by kernel_rfl) (by kernel_rfl) (by kernel_rfl) ?_ (fun cf => (by kernel_rfl))
  refine WpOps.nil ?_
  refine thenK_at ?_
  refine Wp.seq ?_
  refine Wp.text ?_
  refine WpOps.keep 32 (Value.pointer (some (Addr.mk 1 0 none))) (by kernel_rfl) (by kernel_rfl) (by kernel_rfl) ?_ (fun cf => (by kernel_rfl))
  refine WpOps.keep 33 (Value.int IntKind.i64 n) (by kernel_rfl) (by kernel_rfl) (by kernel_rfl) ?_ (fun cf => (by kernel_rfl))
  refine WpOps.called 34 29 [Value.pointer (some (Addr.mk 1 0 none)), Value.int IntKind.i64 n] (by kernel_rfl) (by kernel_rfl) (by kernel_rfl) (by kernel_rfl) (fun cf => (by kernel_rfl)) ?_
  refine WpCall.lent [1] (s2) (by decide) ⟨⟨[Value.slice none 0 0, Value.int IntKind.i64 0, Value.slice none 0 0], (by kernel_rfl), (by kernel_rfl), (by kernel_rfl)⟩, trivial⟩ (by kernel_rfl) (Value.tuple #[Value.agg (List.toArray (List.map (unC [1]) (Array.toList #[Value.slice none 0 0, Value.slice none 0 0, Value.int IntKind.i64 0, Value.int IntKind.i64 0]))), Value.int IntKind.i64 1]) ([Blk.mk 64 true [Value.slice none 0 0, Value.int IntKind.i64 0, Value.slice none 0 0]]) (.cons (by kernel_rfl) .nil) (by kernel_rfl) (Heap.set (Heap.set (Heap.set (Heap.alloc (Heap.alloc (Heap.alloc (Heap.alloc Heap.none (Blk.mk 26 true [Value.int IntKind.i64 a, Value.int IntKind.i64 b, Value.int IntKind.i64 c, Value.int IntKind.i64 d, Value.string s])) (Blk.mk 64 true [Value.slice none 0 0, Value.int IntKind.i64 0, Value.slice none 0 0])) (Blk.mk 48 true [Value.pointer none, Value.pointer (some (Addr.mk 1 0 none))])) (Blk.mk 24 true [Value.slice none 0 0, Value.slice none 0 0, Value.int IntKind.i64 0, Value.int IntKind.i64 0])) 3 (some (Blk.mk 24 true [Value.slice none 0 0, Value.slice none 0 0, Value.int IntKind.i64 0, Value.int IntKind.i64 0]))) 1 (some (Blk.mk 64 true [Value.slice none 0 0, Value.int IntKind.i64 0, Value.slice none 0 0]))) 1 (some (Blk.mk 64 true [Value.slice none 0 0, Value.int IntKind.i64 0, Value.slice none 0 0]))) (by kernel_rfl) ?_
  refine WpOps.keep 31 (Value.tuple #[Value.agg #[Value.slice none 0 0, Value.slice none 0 0, Value.int IntKind.i64 0, Value.int IntKind.i64 0], Value.int IntKind.i64 1]) (by kernel_rfl) (by kernel_rfl) (by kernel_rfl) ?_ (fun cf => (by kernel_rfl))
  refine WpOps.keep 35 (Value.agg #[Value.slice none 0 0, Value.slice none 0 0, Value.int IntKind.i64 0, Value.int IntKind.i64 0]) (by kernel_rfl) (by kernel_rfl) (by kernel_rfl) ?_ (fun cf => (by kernel_rfl))
  refine WpOps.keep 36 (Value.int IntKind.i64 1) (by kernel_rfl) (by kernel_rfl) (by kernel_rfl) ?_ (fun cf => (by kernel_rfl))
  refine WpOps.made 11 (Value.pointer (some (Addr.mk 4 0 none))) (Blk.mk 24 true [Value.slice none 0 0, Value.slice none 0 0, Value.int IntKind.i64 0, Value.int IntKind.i64 0]) (by kernel_rfl) (by kernel_rfl) (by kernel_rfl) ?_ (fun cf => (by kernel_rfl))
  refine WpOps.laid (Value.tuple #[]) (4) (Blk.mk 24 true [Value.slice none 0 0, Value.slice none 0 0, Value.int IntKind.i64 0, Value.int IntKind.i64 0]) (by kernel_rfl) (by kernel_rfl) (by kernel_rfl) ?_ (fun cf => (by kernel_rfl))
  refine WpOps.keep 12 (Value.int IntKind.i64 1) (by kernel_rfl) (by kernel_rfl) (by kernel_rfl) ?_ (fun cf => (by kernel_rfl))
  refine WpOps.nil ?_
  refine thenK_at ?_
  refine Wp.seq ?_
  refine Wp.text ?_
  refine WpOps.keep 38 (Value.pointer (some (Addr.mk 1 0 none))) (by kernel_rfl) (by kernel_rfl) (by kernel_rfl) ?_ (fun cf => (by kernel_rfl))
  refine WpOps.keep 39 (Value.int IntKind.i64 n) (by kernel_rfl) (by kernel_rfl) (by kernel_rfl) ?_ (fun cf => (by kernel_rfl))
  refine WpOps.called 40 27 [Value.pointer (some (Addr.mk 1 0 none)), Value.int IntKind.i64 n] (by kernel_rfl) (by kernel_rfl) (by kernel_rfl) (by kernel_rfl) (fun cf => (by kernel_rfl)) ?_
  refine WpCall.lent [1] (w2) (by decide) ⟨⟨[Value.slice none 0 0, Value.int IntKind.i64 0, Value.slice none 0 0], (by kernel_rfl), (by kernel_rfl), (by kernel_rfl)⟩, trivial⟩ (by kernel_rfl) (Value.tuple #[Value.int IntKind.i64 0, Value.int IntKind.i64 1]) ([Blk.mk 64 true [Value.slice none 0 0, Value.int IntKind.i64 0, Value.slice none 0 0]]) (.cons (by kernel_rfl) .nil) (by kernel_rfl) (Heap.set (Heap.set (Heap.alloc (Heap.set (Heap.set (Heap.set (Heap.alloc (Heap.alloc (Heap.alloc (Heap.alloc Heap.none (Blk.mk 26 true [Value.int IntKind.i64 a, Value.int IntKind.i64 b, Value.int IntKind.i64 c, Value.int IntKind.i64 d, Value.string s])) (Blk.mk 64 true [Value.slice none 0 0, Value.int IntKind.i64 0, Value.slice none 0 0])) (Blk.mk 48 true [Value.pointer none, Value.pointer (some (Addr.mk 1 0 none))])) (Blk.mk 24 true [Value.slice none 0 0, Value.slice none 0 0, Value.int IntKind.i64 0, Value.int IntKind.i64 0])) 3 (some (Blk.mk 24 true [Value.slice none 0 0, Value.slice none 0 0, Value.int IntKind.i64 0, Value.int IntKind.i64 0]))) 1 (some (Blk.mk 64 true [Value.slice none 0 0, Value.int IntKind.i64 0, Value.slice none 0 0]))) 1 (some (Blk.mk 64 true [Value.slice none 0 0, Value.int IntKind.i64 0, Value.slice none 0 0]))) (Blk.mk 24 true [Value.slice none 0 0, Value.slice none 0 0, Value.int IntKind.i64 0, Value.int IntKind.i64 0])) 4 (some (Blk.mk 24 true [Value.slice none 0 0, Value.slice none 0 0, Value.int IntKind.i64 0, Value.int IntKind.i64 0]))) 1 (some (Blk.mk 64 true [Value.slice none 0 0, Value.int IntKind.i64 0, Value.slice none 0 0]))) (by kernel_rfl) ?_
  refine WpOps.keep 37 (Value.tuple #[Value.int IntKind.i64 0, Value.int IntKind.i64 1]) (by kernel_rfl) (by kernel_rfl) (by kernel_rfl) ?_ (fun cf => (by kernel_rfl))
  refine WpOps.keep 41 (Value.int IntKind.i64 0) (by kernel_rfl) (by kernel_rfl) (by kernel_rfl) ?_ (fun cf => (by kernel_rfl))
  refine WpOps.keep 42 (Value.int IntKind.i64 1) (by kernel_rfl) (by kernel_rfl) (by kernel_rfl) ?_ (fun cf => (by kernel_rfl))
  refine WpOps.keep 13 (Value.int IntKind.i64 0) (by kernel_rfl) (by kernel_rfl) (by kernel_rfl) ?_ (fun cf => (by kernel_rfl))
  refine WpOps.keep 14 (Value.int IntKind.i64 1) (by kernel_rfl) (by kernel_rfl) (by kernel_rfl) ?_ (fun cf => (by kernel_rfl))
  refine WpOps.nil ?_
  refine thenK_at ?_
  refine Wp.seq ?_
  refine Wp.text ?_
  refine WpOps.keep 43 (Value.int IntKind.i64 1) (by kernel_rfl) (by kernel_rfl) (by kernel_rfl) ?_ (fun cf => (by kernel_rfl))
  refine WpOps.keep 44 (Value.bool false) (by kernel_rfl) (by kernel_rfl) (by kernel_rfl) ?_ (fun cf => (by kernel_rfl))
  refine WpOps.keep 45 (Value.bool false) (by kernel_rfl) (by kernel_rfl) (by kernel_rfl) ?_ (fun cf => (by kernel_rfl))
  refine WpOps.keep 46 (Value.int IntKind.i64 1) (by kernel_rfl) (by kernel_rfl) (by kernel_rfl) ?_ (fun cf => (by kernel_rfl))
  refine WpOps.keep 47 (Value.bool false) (by kernel_rfl) (by kernel_rfl) (by kernel_rfl) ?_ (fun cf => (by kernel_rfl))
  refine WpOps.keep 48 (Value.bool false) (by kernel_rfl) (by kernel_rfl) (by kernel_rfl) ?_ (fun cf => (by kernel_rfl))
  refine WpOps.keep 49 (Value.bool false) (by kernel_rfl) (by kernel_rfl) (by kernel_rfl) ?_ (fun cf => (by kernel_rfl))
  refine WpOps.keep 50 (Value.int IntKind.i64 1) (by kernel_rfl) (by kernel_rfl) (by kernel_rfl) ?_ (fun cf => (by kernel_rfl))
  refine WpOps.keep 51 (Value.bool false) (by kernel_rfl) (by kernel_rfl) (by kernel_rfl) ?_ (fun cf => (by kernel_rfl))
  refine WpOps.keep 52 (Value.bool false) (by kernel_rfl) (by kernel_rfl) (by kernel_rfl) ?_ (fun cf => (by kernel_rfl))
  refine WpOps.keep 53 (Value.bool false) (by kernel_rfl) (by kernel_rfl) (by kernel_rfl) ?_ (fun cf => (by kernel_rfl))
  refine WpOps.keep 54 (Value.pointer (some (Addr.mk 1 0 none))) (by kernel_rfl) (by kernel_rfl) (by kernel_rfl) ?_ (fun cf => (by kernel_rfl))
  refine WpOps.keep 55 (Value.int IntKind.i64 n) (by kernel_rfl) (by kernel_rfl) (by kernel_rfl) ?_ (fun cf => (by kernel_rfl))
  refine WpOps.keep 56 (Value.agg #[Value.int IntKind.i64 a, Value.int IntKind.i64 b, Value.int IntKind.i64 c, Value.int IntKind.i64 d, Value.string s]) (by kernel_rfl) (by kernel_rfl) (by kernel_rfl) ?_ (fun cf => (by kernel_rfl))
  refine WpOps.called 57 22 [Value.pointer (some (Addr.mk 1 0 none)), Value.int IntKind.i64 n, Value.agg #[Value.int IntKind.i64 a, Value.int IntKind.i64 b, Value.int IntKind.i64 c, Value.int IntKind.i64 d, Value.string s]] (by kernel_rfl) (by kernel_rfl) (by kernel_rfl) (by kernel_rfl) (fun cf => (by kernel_rfl)) ?_
  refine WpCall.lent [1] (u2) (by decide) ⟨⟨[Value.slice none 0 0, Value.int IntKind.i64 0, Value.slice none 0 0], (by kernel_rfl), (by kernel_rfl), (by kernel_rfl)⟩, trivial⟩ (by kernel_rfl) (Value.int IntKind.i64 1) ([Blk.mk 64 true [Value.slice none 0 0, Value.int IntKind.i64 0, Value.slice none 0 0]]) (.cons (by kernel_rfl) .nil) (by kernel_rfl) (Heap.set (Heap.set (Heap.set (Heap.alloc (Heap.set (Heap.set (Heap.set (Heap.alloc (Heap.alloc (Heap.alloc (Heap.alloc Heap.none (Blk.mk 26 true [Value.int IntKind.i64 a, Value.int IntKind.i64 b, Value.int IntKind.i64 c, Value.int IntKind.i64 d, Value.string s])) (Blk.mk 64 true [Value.slice none 0 0, Value.int IntKind.i64 0, Value.slice none 0 0])) (Blk.mk 48 true [Value.pointer none, Value.pointer (some (Addr.mk 1 0 none))])) (Blk.mk 24 true [Value.slice none 0 0, Value.slice none 0 0, Value.int IntKind.i64 0, Value.int IntKind.i64 0])) 3 (some (Blk.mk 24 true [Value.slice none 0 0, Value.slice none 0 0, Value.int IntKind.i64 0, Value.int IntKind.i64 0]))) 1 (some (Blk.mk 64 true [Value.slice none 0 0, Value.int IntKind.i64 0, Value.slice none 0 0]))) 1 (some (Blk.mk 64 true [Value.slice none 0 0, Value.int IntKind.i64 0, Value.slice none 0 0]))) (Blk.mk 24 true [Value.slice none 0 0, Value.slice none 0 0, Value.int IntKind.i64 0, Value.int IntKind.i64 0])) 4 (some (Blk.mk 24 true [Value.slice none 0 0, Value.slice none 0 0, Value.int IntKind.i64 0, Value.int IntKind.i64 0]))) 1 (some (Blk.mk 64 true [Value.slice none 0 0, Value.int IntKind.i64 0, Value.slice none 0 0]))) 1 (some (Blk.mk 64 true [Value.slice none 0 0, Value.int IntKind.i64 0, Value.slice none 0 0]))) (by kernel_rfl) ?_
  refine WpOps.keep 58 (Value.bool false) (by kernel_rfl) (by kernel_rfl) (by kernel_rfl) ?_ (fun cf => (by kernel_rfl))
  refine WpOps.keep 59 (Value.bool false) (by kernel_rfl) (by kernel_rfl) (by kernel_rfl) ?_ (fun cf => (by kernel_rfl))
  refine WpOps.keep 60 (Value.bool false) (by kernel_rfl) (by kernel_rfl) (by kernel_rfl) ?_ (fun cf => (by kernel_rfl))
  refine WpOps.keep 61 (Value.pointer (some (Addr.mk 1 0 none))) (by kernel_rfl) (by kernel_rfl) (by kernel_rfl) ?_ (fun cf => (by kernel_rfl))
  refine WpOps.keep 62 (Value.int IntKind.i64 n) (by kernel_rfl) (by kernel_rfl) (by kernel_rfl) ?_ (fun cf => (by kernel_rfl))
  refine WpOps.called 63 23 [Value.pointer (some (Addr.mk 1 0 none)), Value.int IntKind.i64 n] (by kernel_rfl) (by kernel_rfl) (by kernel_rfl) (by kernel_rfl) (fun cf => (by kernel_rfl)) ?_
  refine WpCall.lent [1] (d2) (by decide) ⟨⟨[Value.slice none 0 0, Value.int IntKind.i64 0, Value.slice none 0 0], (by kernel_rfl), (by kernel_rfl), (by kernel_rfl)⟩, trivial⟩ (by kernel_rfl) (Value.int IntKind.i64 1) ([Blk.mk 64 true [Value.slice none 0 0, Value.int IntKind.i64 0, Value.slice none 0 0]]) (.cons (by kernel_rfl) .nil) (by kernel_rfl) (Heap.set (Heap.set (Heap.set (Heap.set (Heap.alloc (Heap.set (Heap.set (Heap.set (Heap.alloc (Heap.alloc (Heap.alloc (Heap.alloc Heap.none (Blk.mk 26 true [Value.int IntKind.i64 a, Value.int IntKind.i64 b, Value.int IntKind.i64 c, Value.int IntKind.i64 d, Value.string s])) (Blk.mk 64 true [Value.slice none 0 0, Value.int IntKind.i64 0, Value.slice none 0 0])) (Blk.mk 48 true [Value.pointer none, Value.pointer (some (Addr.mk 1 0 none))])) (Blk.mk 24 true [Value.slice none 0 0, Value.slice none 0 0, Value.int IntKind.i64 0, Value.int IntKind.i64 0])) 3 (some (Blk.mk 24 true [Value.slice none 0 0, Value.slice none 0 0, Value.int IntKind.i64 0, Value.int IntKind.i64 0]))) 1 (some (Blk.mk 64 true [Value.slice none 0 0, Value.int IntKind.i64 0, Value.slice none 0 0]))) 1 (some (Blk.mk 64 true [Value.slice none 0 0, Value.int IntKind.i64 0, Value.slice none 0 0]))) (Blk.mk 24 true [Value.slice none 0 0, Value.slice none 0 0, Value.int IntKind.i64 0, Value.int IntKind.i64 0])) 4 (some (Blk.mk 24 true [Value.slice none 0 0, Value.slice none 0 0, Value.int IntKind.i64 0, Value.int IntKind.i64 0]))) 1 (some (Blk.mk 64 true [Value.slice none 0 0, Value.int IntKind.i64 0, Value.slice none 0 0]))) 1 (some (Blk.mk 64 true [Value.slice none 0 0, Value.int IntKind.i64 0, Value.slice none 0 0]))) 1 (some (Blk.mk 64 true [Value.slice none 0 0, Value.int IntKind.i64 0, Value.slice none 0 0]))) (by kernel_rfl) ?_
  refine WpOps.keep 64 (Value.bool false) (by kernel_rfl) (by kernel_rfl) (by kernel_rfl) ?_ (fun cf => (by kernel_rfl))
  refine WpOps.keep 65 (Value.bool false) (by kernel_rfl) (by kernel_rfl) (by kernel_rfl) ?_ (fun cf => (by kernel_rfl))
  refine WpOps.keep 66 (Value.bool false) (by kernel_rfl) (by kernel_rfl) (by kernel_rfl) ?_ (fun cf => (by kernel_rfl))
  refine WpOps.keep 67 (Value.pointer (some (Addr.mk 1 0 none))) (by kernel_rfl) (by kernel_rfl) (by kernel_rfl) ?_ (fun cf => (by kernel_rfl))
  refine WpOps.keep 68 (Value.int IntKind.i64 n) (by kernel_rfl) (by kernel_rfl) (by kernel_rfl) ?_ (fun cf => (by kernel_rfl))
  refine WpOps.called 69 24 [Value.pointer (some (Addr.mk 1 0 none)), Value.int IntKind.i64 n] (by kernel_rfl) (by kernel_rfl) (by kernel_rfl) (by kernel_rfl) (fun cf => (by kernel_rfl)) ?_
  refine WpCall.lent [1] (g2) (by decide) ⟨⟨[Value.slice none 0 0, Value.int IntKind.i64 0, Value.slice none 0 0], (by kernel_rfl), (by kernel_rfl), (by kernel_rfl)⟩, trivial⟩ (by kernel_rfl) (Value.int IntKind.i64 1) ([Blk.mk 64 true [Value.slice none 0 0, Value.int IntKind.i64 0, Value.slice none 0 0]]) (.cons (by kernel_rfl) .nil) (by kernel_rfl) (Heap.set (Heap.set (Heap.set (Heap.set (Heap.set (Heap.alloc (Heap.set (Heap.set (Heap.set (Heap.alloc (Heap.alloc (Heap.alloc (Heap.alloc Heap.none (Blk.mk 26 true [Value.int IntKind.i64 a, Value.int IntKind.i64 b, Value.int IntKind.i64 c, Value.int IntKind.i64 d, Value.string s])) (Blk.mk 64 true [Value.slice none 0 0, Value.int IntKind.i64 0, Value.slice none 0 0])) (Blk.mk 48 true [Value.pointer none, Value.pointer (some (Addr.mk 1 0 none))])) (Blk.mk 24 true [Value.slice none 0 0, Value.slice none 0 0, Value.int IntKind.i64 0, Value.int IntKind.i64 0])) 3 (some (Blk.mk 24 true [Value.slice none 0 0, Value.slice none 0 0, Value.int IntKind.i64 0, Value.int IntKind.i64 0]))) 1 (some (Blk.mk 64 true [Value.slice none 0 0, Value.int IntKind.i64 0, Value.slice none 0 0]))) 1 (some (Blk.mk 64 true [Value.slice none 0 0, Value.int IntKind.i64 0, Value.slice none 0 0]))) (Blk.mk 24 true [Value.slice none 0 0, Value.slice none 0 0, Value.int IntKind.i64 0, Value.int IntKind.i64 0])) 4 (some (Blk.mk 24 true [Value.slice none 0 0, Value.slice none 0 0, Value.int IntKind.i64 0, Value.int IntKind.i64 0]))) 1 (some (Blk.mk 64 true [Value.slice none 0 0, Value.int IntKind.i64 0, Value.slice none 0 0]))) 1 (some (Blk.mk 64 true [Value.slice none 0 0, Value.int IntKind.i64 0, Value.slice none 0 0]))) 1 (some (Blk.mk 64 true [Value.slice none 0 0, Value.int IntKind.i64 0, Value.slice none 0 0]))) 1 (some (Blk.mk 64 true [Value.slice none 0 0, Value.int IntKind.i64 0, Value.slice none 0 0]))) (by kernel_rfl) ?_
  refine WpOps.keep 70 (Value.bool false) (by kernel_rfl) (by kernel_rfl) (by kernel_rfl) ?_ (fun cf => (by kernel_rfl))
  refine WpOps.keep 71 (Value.bool false) (by kernel_rfl) (by kernel_rfl) (by kernel_rfl) ?_ (fun cf => (by kernel_rfl))
  refine WpOps.keep 72 (Value.bool false) (by kernel_rfl) (by kernel_rfl) (by kernel_rfl) ?_ (fun cf => (by kernel_rfl))
  refine WpOps.keep 73 (Value.pointer (some (Addr.mk 1 0 none))) (by kernel_rfl) (by kernel_rfl) (by kernel_rfl) ?_ (fun cf => (by kernel_rfl))
  refine WpOps.keep 74 (Value.int IntKind.i64 n) (by kernel_rfl) (by kernel_rfl) (by kernel_rfl) ?_ (fun cf => (by kernel_rfl))
  refine WpOps.called 75 26 [Value.pointer (some (Addr.mk 1 0 none)), Value.int IntKind.i64 n] (by kernel_rfl) (by kernel_rfl) (by kernel_rfl) (by kernel_rfl) (fun cf => (by kernel_rfl)) ?_
  refine WpCall.lent [1] (b2) (by decide) ⟨⟨[Value.slice none 0 0, Value.int IntKind.i64 0, Value.slice none 0 0], (by kernel_rfl), (by kernel_rfl), (by kernel_rfl)⟩, trivial⟩ (by kernel_rfl) (Value.int IntKind.i64 1) ([Blk.mk 64 true [Value.slice none 0 0, Value.int IntKind.i64 0, Value.slice none 0 0]]) (.cons (by kernel_rfl) .nil) (by kernel_rfl) (Heap.set (Heap.set (Heap.set (Heap.set (Heap.set (Heap.set (Heap.alloc (Heap.set (Heap.set (Heap.set (Heap.alloc (Heap.alloc (Heap.alloc (Heap.alloc Heap.none (Blk.mk 26 true [Value.int IntKind.i64 a, Value.int IntKind.i64 b, Value.int IntKind.i64 c, Value.int IntKind.i64 d, Value.string s])) (Blk.mk 64 true [Value.slice none 0 0, Value.int IntKind.i64 0, Value.slice none 0 0])) (Blk.mk 48 true [Value.pointer none, Value.pointer (some (Addr.mk 1 0 none))])) (Blk.mk 24 true [Value.slice none 0 0, Value.slice none 0 0, Value.int IntKind.i64 0, Value.int IntKind.i64 0])) 3 (some (Blk.mk 24 true [Value.slice none 0 0, Value.slice none 0 0, Value.int IntKind.i64 0, Value.int IntKind.i64 0]))) 1 (some (Blk.mk 64 true [Value.slice none 0 0, Value.int IntKind.i64 0, Value.slice none 0 0]))) 1 (some (Blk.mk 64 true [Value.slice none 0 0, Value.int IntKind.i64 0, Value.slice none 0 0]))) (Blk.mk 24 true [Value.slice none 0 0, Value.slice none 0 0, Value.int IntKind.i64 0, Value.int IntKind.i64 0])) 4 (some (Blk.mk 24 true [Value.slice none 0 0, Value.slice none 0 0, Value.int IntKind.i64 0, Value.int IntKind.i64 0]))) 1 (some (Blk.mk 64 true [Value.slice none 0 0, Value.int IntKind.i64 0, Value.slice none 0 0]))) 1 (some (Blk.mk 64 true [Value.slice none 0 0, Value.int IntKind.i64 0, Value.slice none 0 0]))) 1 (some (Blk.mk 64 true [Value.slice none 0 0, Value.int IntKind.i64 0, Value.slice none 0 0]))) 1 (some (Blk.mk 64 true [Value.slice none 0 0, Value.int IntKind.i64 0, Value.slice none 0 0]))) 1 (some (Blk.mk 64 true [Value.slice none 0 0, Value.int IntKind.i64 0, Value.slice none 0 0]))) (by kernel_rfl) ?_
  refine WpOps.keep 76 (Value.bool false) (by kernel_rfl) (by kernel_rfl) (by kernel_rfl) ?_ (fun cf => (by kernel_rfl))
  refine WpOps.keep 77 (Value.bool false) (by kernel_rfl) (by kernel_rfl) (by kernel_rfl) ?_ (fun cf => (by kernel_rfl))
  refine WpOps.keep 78 (Value.bool false) (by kernel_rfl) (by kernel_rfl) (by kernel_rfl) ?_ (fun cf => (by kernel_rfl))
  refine WpOps.keep 79 (Value.pointer (some (Addr.mk 1 0 none))) (by kernel_rfl) (by kernel_rfl) (by kernel_rfl) ?_ (fun cf => (by kernel_rfl))
  refine WpOps.called 80 28 [Value.pointer (some (Addr.mk 1 0 none))] (by kernel_rfl) (by kernel_rfl) (by kernel_rfl) (by kernel_rfl) (fun cf => (by kernel_rfl)) ?_
  refine WpCall.lent [1] (o2) (by decide) ⟨⟨[Value.slice none 0 0, Value.int IntKind.i64 0, Value.slice none 0 0], (by kernel_rfl), (by kernel_rfl), (by kernel_rfl)⟩, trivial⟩ (by kernel_rfl) (Value.int IntKind.i64 0) ([Blk.mk 64 true [Value.slice none 0 0, Value.int IntKind.i64 0, Value.slice none 0 0]]) (.cons (by kernel_rfl) .nil) (by kernel_rfl) (Heap.set (Heap.set (Heap.set (Heap.set (Heap.set (Heap.set (Heap.set (Heap.alloc (Heap.set (Heap.set (Heap.set (Heap.alloc (Heap.alloc (Heap.alloc (Heap.alloc Heap.none (Blk.mk 26 true [Value.int IntKind.i64 a, Value.int IntKind.i64 b, Value.int IntKind.i64 c, Value.int IntKind.i64 d, Value.string s])) (Blk.mk 64 true [Value.slice none 0 0, Value.int IntKind.i64 0, Value.slice none 0 0])) (Blk.mk 48 true [Value.pointer none, Value.pointer (some (Addr.mk 1 0 none))])) (Blk.mk 24 true [Value.slice none 0 0, Value.slice none 0 0, Value.int IntKind.i64 0, Value.int IntKind.i64 0])) 3 (some (Blk.mk 24 true [Value.slice none 0 0, Value.slice none 0 0, Value.int IntKind.i64 0, Value.int IntKind.i64 0]))) 1 (some (Blk.mk 64 true [Value.slice none 0 0, Value.int IntKind.i64 0, Value.slice none 0 0]))) 1 (some (Blk.mk 64 true [Value.slice none 0 0, Value.int IntKind.i64 0, Value.slice none 0 0]))) (Blk.mk 24 true [Value.slice none 0 0, Value.slice none 0 0, Value.int IntKind.i64 0, Value.int IntKind.i64 0])) 4 (some (Blk.mk 24 true [Value.slice none 0 0, Value.slice none 0 0, Value.int IntKind.i64 0, Value.int IntKind.i64 0]))) 1 (some (Blk.mk 64 true [Value.slice none 0 0, Value.int IntKind.i64 0, Value.slice none 0 0]))) 1 (some (Blk.mk 64 true [Value.slice none 0 0, Value.int IntKind.i64 0, Value.slice none 0 0]))) 1 (some (Blk.mk 64 true [Value.slice none 0 0, Value.int IntKind.i64 0, Value.slice none 0 0]))) 1 (some (Blk.mk 64 true [Value.slice none 0 0, Value.int IntKind.i64 0, Value.slice none 0 0]))) 1 (some (Blk.mk 64 true [Value.slice none 0 0, Value.int IntKind.i64 0, Value.slice none 0 0]))) 1 (some (Blk.mk 64 true [Value.slice none 0 0, Value.int IntKind.i64 0, Value.slice none 0 0]))) (by kernel_rfl) ?_
  refine WpOps.keep 81 (Value.bool false) (by kernel_rfl) (by kernel_rfl) (by kernel_rfl) ?_ (fun cf => (by kernel_rfl))
  refine WpOps.keep 82 (Value.bool false) (by kernel_rfl) (by kernel_rfl) (by kernel_rfl) ?_ (fun cf => (by kernel_rfl))
  refine WpOps.keep 83 (Value.bool false) (by kernel_rfl) (by kernel_rfl) (by kernel_rfl) ?_ (fun cf => (by kernel_rfl))
  refine WpOps.keep 84 (Value.pointer (some (Addr.mk 1 0 none))) (by kernel_rfl) (by kernel_rfl) (by kernel_rfl) ?_ (fun cf => (by kernel_rfl))
  refine WpOps.called 85 30 [Value.pointer (some (Addr.mk 1 0 none))] (by kernel_rfl) (by kernel_rfl) (by kernel_rfl) (by kernel_rfl) (fun cf => (by kernel_rfl)) ?_
  refine WpCall.lent [1] (p2) (by decide) ⟨⟨[Value.slice none 0 0, Value.int IntKind.i64 0, Value.slice none 0 0], (by kernel_rfl), (by kernel_rfl), (by kernel_rfl)⟩, trivial⟩ (by kernel_rfl) (Value.pointer none) ([Blk.mk 64 true [Value.slice none 0 0, Value.int IntKind.i64 0, Value.slice none 0 0]]) (.cons (by kernel_rfl) .nil) (by kernel_rfl) (Heap.set (Heap.set (Heap.set (Heap.set (Heap.set (Heap.set (Heap.set (Heap.set (Heap.alloc (Heap.set (Heap.set (Heap.set (Heap.alloc (Heap.alloc (Heap.alloc (Heap.alloc Heap.none (Blk.mk 26 true [Value.int IntKind.i64 a, Value.int IntKind.i64 b, Value.int IntKind.i64 c, Value.int IntKind.i64 d, Value.string s])) (Blk.mk 64 true [Value.slice none 0 0, Value.int IntKind.i64 0, Value.slice none 0 0])) (Blk.mk 48 true [Value.pointer none, Value.pointer (some (Addr.mk 1 0 none))])) (Blk.mk 24 true [Value.slice none 0 0, Value.slice none 0 0, Value.int IntKind.i64 0, Value.int IntKind.i64 0])) 3 (some (Blk.mk 24 true [Value.slice none 0 0, Value.slice none 0 0, Value.int IntKind.i64 0, Value.int IntKind.i64 0]))) 1 (some (Blk.mk 64 true [Value.slice none 0 0, Value.int IntKind.i64 0, Value.slice none 0 0]))) 1 (some (Blk.mk 64 true [Value.slice none 0 0, Value.int IntKind.i64 0, Value.slice none 0 0]))) (Blk.mk 24 true [Value.slice none 0 0, Value.slice none 0 0, Value.int IntKind.i64 0, Value.int IntKind.i64 0])) 4 (some (Blk.mk 24 true [Value.slice none 0 0, Value.slice none 0 0, Value.int IntKind.i64 0, Value.int IntKind.i64 0]))) 1 (some (Blk.mk 64 true [Value.slice none 0 0, Value.int IntKind.i64 0, Value.slice none 0 0]))) 1 (some (Blk.mk 64 true [Value.slice none 0 0, Value.int IntKind.i64 0, Value.slice none 0 0]))) 1 (some (Blk.mk 64 true [Value.slice none 0 0, Value.int IntKind.i64 0, Value.slice none 0 0]))) 1 (some (Blk.mk 64 true [Value.slice none 0 0, Value.int IntKind.i64 0, Value.slice none 0 0]))) 1 (some (Blk.mk 64 true [Value.slice none 0 0, Value.int IntKind.i64 0, Value.slice none 0 0]))) 1 (some (Blk.mk 64 true [Value.slice none 0 0, Value.int IntKind.i64 0, Value.slice none 0 0]))) 1 (some (Blk.mk 64 true [Value.slice none 0 0, Value.int IntKind.i64 0, Value.slice none 0 0]))) (by kernel_rfl) ?_
  refine WpOps.keep 86 (Value.bool false) (by kernel_rfl) (by kernel_rfl) (by kernel_rfl) ?_ (fun cf => (by kernel_rfl))
  refine WpOps.keep 87 (Value.bool false) (by kernel_rfl) (by kernel_rfl) (by kernel_rfl) ?_ (fun cf => (by kernel_rfl))
  refine WpOps.nil ?_
  refine thenK_at ?_
  refine Wp.off (by kernel_rfl) ?_
  refine Wp.skip ?_
  refine blockK_norm ?_
  refine thenK_at ?_
  refine Wp.text ?_
  refine WpOps.keep 88 (Value.int IntKind.i64 (IntKind.wrap IntKind.i64 (IntKind.wrap IntKind.i64 (0 + 1) + 1))) (by kernel_rfl) (by kernel_rfl) (by kernel_rfl) ?_ (fun cf => (by kernel_rfl))
  refine WpOps.keep 21 (Value.int IntKind.i64 (IntKind.wrap IntKind.i64 (IntKind.wrap IntKind.i64 (0 + 1) + 1))) (by kernel_rfl) (by kernel_rfl) (by kernel_rfl) ?_ (fun cf => (by kernel_rfl))
  refine WpOps.nil ?_
  refine thenK_at ?_
  refine WpL.step ?_
  refine Wp.seq ?_
  refine Wp.text ?_
  refine WpOps.keep 22 (Value.bool false) (by kernel_rfl) (by kernel_rfl) (by kernel_rfl) ?_ (fun cf => (by kernel_rfl))
  refine WpOps.nil ?_
  refine thenK_at ?_
  refine Wp.seq ?_
  refine Wp.off (by kernel_rfl) ?_
  refine Wp.exit ?_
  refine thenK_exit ?_
  refine thenK_exit ?_
  refine blockK_hit ?_
  refine thenK_at ?_
  refine Wp.seq ?_
  refine Wp.text ?_
  refine WpOps.keep 89 (Value.pointer none) (by kernel_rfl) (by kernel_rfl) (by kernel_rfl) ?_ (fun cf => (by kernel_rfl))
  refine WpOps.called 90 31 [Value.pointer none] (by kernel_rfl) (by kernel_rfl) (by kernel_rfl) (by kernel_rfl) (fun cf => (by kernel_rfl)) ?_
  refine WpCall.lent [] (t1) (by decide) trivial (by kernel_rfl) (Value.int IntKind.i64 (-1)) ([]) .nil (by kernel_rfl) (Heap.set (Heap.set (Heap.set (Heap.set (Heap.set (Heap.set (Heap.set (Heap.set (Heap.alloc (Heap.set (Heap.set (Heap.set (Heap.alloc (Heap.alloc (Heap.alloc (Heap.alloc Heap.none (Blk.mk 26 true [Value.int IntKind.i64 a, Value.int IntKind.i64 b, Value.int IntKind.i64 c, Value.int IntKind.i64 d, Value.string s])) (Blk.mk 64 true [Value.slice none 0 0, Value.int IntKind.i64 0, Value.slice none 0 0])) (Blk.mk 48 true [Value.pointer none, Value.pointer (some (Addr.mk 1 0 none))])) (Blk.mk 24 true [Value.slice none 0 0, Value.slice none 0 0, Value.int IntKind.i64 0, Value.int IntKind.i64 0])) 3 (some (Blk.mk 24 true [Value.slice none 0 0, Value.slice none 0 0, Value.int IntKind.i64 0, Value.int IntKind.i64 0]))) 1 (some (Blk.mk 64 true [Value.slice none 0 0, Value.int IntKind.i64 0, Value.slice none 0 0]))) 1 (some (Blk.mk 64 true [Value.slice none 0 0, Value.int IntKind.i64 0, Value.slice none 0 0]))) (Blk.mk 24 true [Value.slice none 0 0, Value.slice none 0 0, Value.int IntKind.i64 0, Value.int IntKind.i64 0])) 4 (some (Blk.mk 24 true [Value.slice none 0 0, Value.slice none 0 0, Value.int IntKind.i64 0, Value.int IntKind.i64 0]))) 1 (some (Blk.mk 64 true [Value.slice none 0 0, Value.int IntKind.i64 0, Value.slice none 0 0]))) 1 (some (Blk.mk 64 true [Value.slice none 0 0, Value.int IntKind.i64 0, Value.slice none 0 0]))) 1 (some (Blk.mk 64 true [Value.slice none 0 0, Value.int IntKind.i64 0, Value.slice none 0 0]))) 1 (some (Blk.mk 64 true [Value.slice none 0 0, Value.int IntKind.i64 0, Value.slice none 0 0]))) 1 (some (Blk.mk 64 true [Value.slice none 0 0, Value.int IntKind.i64 0, Value.slice none 0 0]))) 1 (some (Blk.mk 64 true [Value.slice none 0 0, Value.int IntKind.i64 0, Value.slice none 0 0]))) 1 (some (Blk.mk 64 true [Value.slice none 0 0, Value.int IntKind.i64 0, Value.slice none 0 0]))) (by kernel_rfl) ?_
  refine WpOps.keep 91 (Value.bool true) (by kernel_rfl) (by kernel_rfl) (by kernel_rfl) ?_ (fun cf => (by kernel_rfl))
  refine WpOps.keep 92 (Value.bool true) (by kernel_rfl) (by kernel_rfl) (by kernel_rfl) ?_ (fun cf => (by kernel_rfl))
  refine WpOps.keep 93 (Value.pointer (some (Addr.mk 1 0 none))) (by kernel_rfl) (by kernel_rfl) (by kernel_rfl) ?_ (fun cf => (by kernel_rfl))
  refine WpOps.called 94 31 [Value.pointer (some (Addr.mk 1 0 none))] (by kernel_rfl) (by kernel_rfl) (by kernel_rfl) (by kernel_rfl) (fun cf => (by kernel_rfl)) ?_
  refine WpCall.lent [1] (t2) (by decide) ⟨⟨[Value.slice none 0 0, Value.int IntKind.i64 0, Value.slice none 0 0], (by kernel_rfl), (by kernel_rfl), (by kernel_rfl)⟩, trivial⟩ (by kernel_rfl) (Value.int IntKind.i64 (-1)) ([Blk.mk 64 true [Value.slice none 0 0, Value.int IntKind.i64 0, Value.slice none 0 0]]) (.cons (by kernel_rfl) .nil) (by kernel_rfl) (Heap.set (Heap.set (Heap.set (Heap.set (Heap.set (Heap.set (Heap.set (Heap.set (Heap.set (Heap.alloc (Heap.set (Heap.set (Heap.set (Heap.alloc (Heap.alloc (Heap.alloc (Heap.alloc Heap.none (Blk.mk 26 true [Value.int IntKind.i64 a, Value.int IntKind.i64 b, Value.int IntKind.i64 c, Value.int IntKind.i64 d, Value.string s])) (Blk.mk 64 true [Value.slice none 0 0, Value.int IntKind.i64 0, Value.slice none 0 0])) (Blk.mk 48 true [Value.pointer none, Value.pointer (some (Addr.mk 1 0 none))])) (Blk.mk 24 true [Value.slice none 0 0, Value.slice none 0 0, Value.int IntKind.i64 0, Value.int IntKind.i64 0])) 3 (some (Blk.mk 24 true [Value.slice none 0 0, Value.slice none 0 0, Value.int IntKind.i64 0, Value.int IntKind.i64 0]))) 1 (some (Blk.mk 64 true [Value.slice none 0 0, Value.int IntKind.i64 0, Value.slice none 0 0]))) 1 (some (Blk.mk 64 true [Value.slice none 0 0, Value.int IntKind.i64 0, Value.slice none 0 0]))) (Blk.mk 24 true [Value.slice none 0 0, Value.slice none 0 0, Value.int IntKind.i64 0, Value.int IntKind.i64 0])) 4 (some (Blk.mk 24 true [Value.slice none 0 0, Value.slice none 0 0, Value.int IntKind.i64 0, Value.int IntKind.i64 0]))) 1 (some (Blk.mk 64 true [Value.slice none 0 0, Value.int IntKind.i64 0, Value.slice none 0 0]))) 1 (some (Blk.mk 64 true [Value.slice none 0 0, Value.int IntKind.i64 0, Value.slice none 0 0]))) 1 (some (Blk.mk 64 true [Value.slice none 0 0, Value.int IntKind.i64 0, Value.slice none 0 0]))) 1 (some (Blk.mk 64 true [Value.slice none 0 0, Value.int IntKind.i64 0, Value.slice none 0 0]))) 1 (some (Blk.mk 64 true [Value.slice none 0 0, Value.int IntKind.i64 0, Value.slice none 0 0]))) 1 (some (Blk.mk 64 true [Value.slice none 0 0, Value.int IntKind.i64 0, Value.slice none 0 0]))) 1 (some (Blk.mk 64 true [Value.slice none 0 0, Value.int IntKind.i64 0, Value.slice none 0 0]))) 1 (some (Blk.mk 64 true [Value.slice none 0 0, Value.int IntKind.i64 0, Value.slice none 0 0]))) (by kernel_rfl) ?_
  refine WpOps.keep 95 (Value.bool true) (by kernel_rfl) (by kernel_rfl) (by kernel_rfl) ?_ (fun cf => (by kernel_rfl))
  refine WpOps.keep 96 (Value.bool true) (by kernel_rfl) (by kernel_rfl) (by kernel_rfl) ?_ (fun cf => (by kernel_rfl))
  refine WpOps.keep 97 (Value.bool true) (by kernel_rfl) (by kernel_rfl) (by kernel_rfl) ?_ (fun cf => (by kernel_rfl))
  refine WpOps.framed 98 18 [] (by kernel_rfl) (by kernel_rfl) (by kernel_rfl) (by kernel_rfl) (by kernel_rfl) (fun cf => (by kernel_rfl)) ?_
  refine WpFun.of (sn) ?_
  refine WpOps.keep 99 (Value.bool true) (by kernel_rfl) (by kernel_rfl) (by kernel_rfl) ?_ (fun cf => (by kernel_rfl))
  refine WpOps.keep 4 (Value.bool true) (by kernel_rfl) (by kernel_rfl) (by kernel_rfl) ?_ (fun cf => (by kernel_rfl))
  refine WpOps.nil ?_
  refine thenK_at ?_
  refine Wp.ret ?_
  refine endK_retn [Value.bool true] (Value.bool true) (by kernel_rfl) (by kernel_rfl) ?_
  kernel_rfl
end Go.Proofs.Ytlejgfeoffhjoaa.D
