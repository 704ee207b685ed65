/- The law CommitNothing: a world that is nil does nothing. -/
import Derived.Test.YtmafkhllkmipfaaFwLem
import Derived.Test.YtmafkhllkmipfaaF27a
namespace Go.Proofs.Ytmafkhllkmipfaa.D
open Go.Fw Go.RowKit

theorem f40 : E.funcs 40 = some Try.f40 := by kernel_rfl
theorem none40  : Lent E 40 [.pointer none] [] (.bool true) [] := by
  refine Lent.of f40 rfl (of_decide_eq_true (by kernel_rfl)) rfl rfl (Nat.le_refl _) rfl rfl rfl ?_
  refine Wp.seq (Wp.text ?_)
  refine kp 2 (.bool false) ?_
  refine WpOps.nil (thenK_at (Wp.seq (Wp.text ?_)))
  refine kp 3 (.pointer none) ?_
  refine kp 4 (.bool true) ?_
  refine kp 5 (.bool true) ?_
  refine um 6 ?_
  refine um 7 ?_
  refine um 8 ?_
  refine um 9 ?_
  refine um 10 ?_
  refine um 11 ?_
  refine kp 12 (.bool true) ?_
  refine kp 2 (.bool true) ?_
  refine WpOps.nil (thenK_at (Wp.ret ?_))
  refine endK_retn [Value.bool true] (Value.bool true) (by kernel_rfl) (by kernel_rfl) ?_
  exact ⟨[], by decide, by kernel_rfl, trivial, .w (.un rfl rfl)⟩
theorem f44 : E.funcs 44 = some Try.f44 := by kernel_rfl
theorem has44 (a : Int) : Lent E 44 [.pointer none, .int .i64 a] [] (.bool false) [] := by
  refine Lent.of f44 rfl (of_decide_eq_true (by kernel_rfl)) rfl rfl (Nat.le_refl _) rfl rfl rfl ?_
  have c0 := none40
  refine Wp.seq (Wp.text ?_)
  refine kp 4 (.bool false) ?_
  refine WpOps.nil (thenK_at (Wp.seq (Wp.text ?_)))
  refine kp 5 (.pointer none) ?_
  refine cl 6 40 [Value.pointer none] ?_
  refine WpCall.lent [] (c0) (by decide) trivial (by kernel_rfl) (Value.bool true) ([]) .nil (by kernel_rfl) (heapOf []) (by kernel_rfl) ?_
  refine kp 7 (.bool false) ?_
  refine kp 8 (.bool false) ?_
  refine um 9 ?_
  refine um 10 ?_
  refine kp 11 (.bool false) ?_
  refine kp 12 (.bool false) ?_
  refine um 13 ?_
  refine um 14 ?_
  refine um 15 ?_
  refine um 16 ?_
  refine um 17 ?_
  refine um 18 ?_
  refine um 19 ?_
  refine kp 20 (.bool false) ?_
  refine kp 4 (.bool false) ?_
  refine WpOps.nil (thenK_at (Wp.ret ?_))
  refine endK_retn [Value.bool false] (Value.bool false) (by kernel_rfl) (by kernel_rfl) ?_
  exact ⟨[], by decide, by kernel_rfl, trivial, .w (.un rfl rfl)⟩
theorem f50 : E.funcs 50 = some Try.f50 := by kernel_rfl
theorem near50 (a b : Int) : Lent E 50 [.pointer none, .int .i64 a, .int .i64 b] [] (.bool false) [] := by
  refine Lent.of f50 rfl (of_decide_eq_true (by kernel_rfl)) rfl rfl (Nat.le_refl _) rfl rfl rfl ?_
  have c0 := has44 a
  refine Wp.seq (Wp.text ?_)
  refine kp 6 (.bool false) ?_
  refine WpOps.nil (thenK_at (Wp.seq (Wp.text ?_)))
  refine kp 7 (.pointer none) ?_
  refine kp 8 (.int IntKind.i64 a) ?_
  refine cl 9 44 [Value.pointer none, Value.int .i64 a] ?_
  refine WpCall.lent [] (c0) (by decide) trivial (by kernel_rfl) (Value.bool false) ([]) .nil (by kernel_rfl) (heapOf []) (by kernel_rfl) ?_
  refine kp 10 (.bool false) ?_
  refine um 11 ?_
  refine um 12 ?_
  refine um 13 ?_
  refine kp 14 (.bool false) ?_
  refine kp 15 (.bool false) ?_
  refine um 16 ?_
  refine um 17 ?_
  refine um 18 ?_
  refine um 19 ?_
  refine um 20 ?_
  refine um 21 ?_
  refine um 22 ?_
  refine um 23 ?_
  refine um 24 ?_
  refine um 25 ?_
  refine um 26 ?_
  refine um 27 ?_
  refine um 28 ?_
  refine um 29 ?_
  refine um 30 ?_
  refine um 31 ?_
  refine um 32 ?_
  refine um 33 ?_
  refine um 34 ?_
  refine um 35 ?_
  refine um 36 ?_
  refine um 37 ?_
  refine kp 38 (.bool false) ?_
  refine kp 6 (.bool false) ?_
  refine WpOps.nil (thenK_at (Wp.ret ?_))
  refine endK_retn [Value.bool false] (Value.bool false) (by kernel_rfl) (by kernel_rfl) ?_
  exact ⟨[], by decide, by kernel_rfl, trivial, .w (.un rfl rfl)⟩
theorem f13 : E.funcs 13 = some Try.f13 := by kernel_rfl
theorem begin13  : Lent E 13 [.pointer none] [] (.int .i64 1) [] := by
  refine Lent.of f13 rfl (of_decide_eq_true (by kernel_rfl)) rfl rfl (Nat.le_refl _) rfl rfl rfl ?_
  have c0 := none40
  refine Wp.seq (Wp.text ?_)
  refine kp 2 (.int IntKind.i64 0) ?_
  refine WpOps.nil (thenK_at (Wp.seq (Wp.seq (Wp.text ?_))))
  refine kp 3 (.pointer none) ?_
  refine cl 4 40 [Value.pointer none] ?_
  refine WpCall.lent [] (c0) (by decide) trivial (by kernel_rfl) (Value.bool true) ([]) .nil (by kernel_rfl) (heapOf []) (by kernel_rfl) ?_
  refine WpOps.nil (thenK_at (on' (Wp.seq (Wp.text ?_))))
  refine kp 2 (.int IntKind.i64 1) ?_
  refine WpOps.nil (thenK_at (Wp.ret (thenK_ret ?_)))
  refine endK_retn [Value.int IntKind.i64 1] (Value.int IntKind.i64 1) (by kernel_rfl) (by kernel_rfl) ?_
  exact ⟨[], by decide, by kernel_rfl, trivial, .w (.un rfl rfl)⟩
theorem f15 : E.funcs 15 = some Try.f15 := by kernel_rfl
theorem prepare15  : Lent E 15 [.pointer none] [] (.int .i64 1) [] := by
  refine Lent.of f15 rfl (of_decide_eq_true (by kernel_rfl)) rfl rfl (Nat.le_refl _) rfl rfl rfl ?_
  have c0 := none40
  refine Wp.seq (Wp.text ?_)
  refine kp 2 (.int IntKind.i64 0) ?_
  refine WpOps.nil (thenK_at (Wp.seq (Wp.seq (Wp.text ?_))))
  refine kp 3 (.pointer none) ?_
  refine cl 4 40 [Value.pointer none] ?_
  refine WpCall.lent [] (c0) (by decide) trivial (by kernel_rfl) (Value.bool true) ([]) .nil (by kernel_rfl) (heapOf []) (by kernel_rfl) ?_
  refine WpOps.nil (thenK_at (on' (Wp.seq (Wp.text ?_))))
  refine kp 2 (.int IntKind.i64 1) ?_
  refine WpOps.nil (thenK_at (Wp.ret (thenK_ret ?_)))
  refine endK_retn [Value.int IntKind.i64 1] (Value.int IntKind.i64 1) (by kernel_rfl) (by kernel_rfl) ?_
  exact ⟨[], by decide, by kernel_rfl, trivial, .w (.un rfl rfl)⟩
theorem f16 : E.funcs 16 = some Try.f16 := by kernel_rfl
theorem rollback16  : Lent E 16 [.pointer none] [] (.int .i64 1) [] := by
  refine Lent.of f16 rfl (of_decide_eq_true (by kernel_rfl)) rfl rfl (Nat.le_refl _) rfl rfl rfl ?_
  have c0 := none40
  refine Wp.seq (Wp.text ?_)
  refine kp 2 (.int IntKind.i64 0) ?_
  refine WpOps.nil (thenK_at (Wp.seq (Wp.seq (Wp.text ?_))))
  refine kp 3 (.pointer none) ?_
  refine cl 4 40 [Value.pointer none] ?_
  refine WpCall.lent [] (c0) (by decide) trivial (by kernel_rfl) (Value.bool true) ([]) .nil (by kernel_rfl) (heapOf []) (by kernel_rfl) ?_
  refine WpOps.nil (thenK_at (on' (Wp.seq (Wp.text ?_))))
  refine kp 2 (.int IntKind.i64 1) ?_
  refine WpOps.nil (thenK_at (Wp.ret (thenK_ret ?_)))
  refine endK_retn [Value.int IntKind.i64 1] (Value.int IntKind.i64 1) (by kernel_rfl) (by kernel_rfl) ?_
  exact ⟨[], by decide, by kernel_rfl, trivial, .w (.un rfl rfl)⟩
theorem f27 : E.funcs 27 = some Try.f27 := by kernel_rfl
theorem refuse27 (a : Int) : Lent E 27 [.pointer none, .int .i64 a] [] (.int .i64 1) [] := by
  refine Lent.of f27 rfl (of_decide_eq_true (by kernel_rfl)) rfl rfl (Nat.le_refl _) rfl rfl rfl ?_
  have c0 := has44 a
  refine Wp.seq (Wp.text ?_)
  refine kp 4 (.int IntKind.i64 0) ?_
  refine WpOps.nil (thenK_at (Wp.seq (Wp.seq (Wp.text ?_))))
  refine kp 6 (.pointer none) ?_
  refine kp 7 (.int IntKind.i64 a) ?_
  refine cl 8 44 [Value.pointer none, Value.int .i64 a] ?_
  refine WpCall.lent [] (c0) (by decide) trivial (by kernel_rfl) (Value.bool false) ([]) .nil (by kernel_rfl) (heapOf []) (by kernel_rfl) ?_
  refine kp 9 (.bool true) ?_
  refine WpOps.nil (thenK_at (on' (Wp.seq (Wp.text ?_))))
  refine kp 4 (.int IntKind.i64 1) ?_
  refine WpOps.nil (thenK_at (Wp.ret (thenK_ret ?_)))
  refine endK_retn [Value.int IntKind.i64 1] (Value.int IntKind.i64 1) (by kernel_rfl) (by kernel_rfl) ?_
  exact ⟨[], by decide, by kernel_rfl, trivial, .w (.un rfl rfl)⟩
theorem f28 : E.funcs 28 = some Try.f28 := by kernel_rfl
theorem deliver28 (a b : Int) : Lent E 28 [.pointer none, .int .i64 a, .int .i64 b] [] (.int .i64 1) [] := by
  refine Lent.of f28 rfl (of_decide_eq_true (by kernel_rfl)) rfl rfl (Nat.le_refl _) rfl rfl rfl ?_
  have c0 := near50 a b
  refine Wp.seq (Wp.text ?_)
  refine kp 6 (.int IntKind.i64 0) ?_
  refine WpOps.nil (thenK_at (Wp.seq (Wp.seq (Wp.text ?_))))
  refine kp 9 (.pointer none) ?_
  refine kp 10 (.int IntKind.i64 a) ?_
  refine kp 11 (.int IntKind.i64 b) ?_
  refine cl 12 50 [Value.pointer none, Value.int .i64 a, Value.int .i64 b] ?_
  refine WpCall.lent [] (c0) (by decide) trivial (by kernel_rfl) (Value.bool false) ([]) .nil (by kernel_rfl) (heapOf []) (by kernel_rfl) ?_
  refine kp 13 (.bool true) ?_
  refine WpOps.nil (thenK_at (on' (Wp.seq (Wp.text ?_))))
  refine kp 6 (.int IntKind.i64 1) ?_
  refine WpOps.nil (thenK_at (Wp.ret (thenK_ret ?_)))
  refine endK_retn [Value.int IntKind.i64 1] (Value.int IntKind.i64 1) (by kernel_rfl) (by kernel_rfl) ?_
  exact ⟨[], by decide, by kernel_rfl, trivial, .w (.un rfl rfl)⟩
theorem f25 : E.funcs 25 = some Try.f25 := by kernel_rfl
theorem crash25 (a : Int) : Lent E 25 [.pointer none, .int .i64 a] [] (.int .i64 1) [] := by
  refine Lent.of f25 rfl (of_decide_eq_true (by kernel_rfl)) rfl rfl (Nat.le_refl _) rfl rfl rfl ?_
  have c0 := has44 a
  refine Wp.seq (Wp.text ?_)
  refine kp 4 (.int IntKind.i64 0) ?_
  refine WpOps.nil (thenK_at (Wp.seq (Wp.seq (Wp.text ?_))))
  refine kp 7 (.pointer none) ?_
  refine kp 8 (.int IntKind.i64 a) ?_
  refine cl 9 44 [Value.pointer none, Value.int .i64 a] ?_
  refine WpCall.lent [] (c0) (by decide) trivial (by kernel_rfl) (Value.bool false) ([]) .nil (by kernel_rfl) (heapOf []) (by kernel_rfl) ?_
  refine kp 10 (.bool true) ?_
  refine WpOps.nil (thenK_at (on' (Wp.seq (Wp.text ?_))))
  refine kp 4 (.int IntKind.i64 1) ?_
  refine WpOps.nil (thenK_at (Wp.ret (thenK_ret ?_)))
  refine endK_retn [Value.int IntKind.i64 1] (Value.int IntKind.i64 1) (by kernel_rfl) (by kernel_rfl) ?_
  exact ⟨[], by decide, by kernel_rfl, trivial, .w (.un rfl rfl)⟩
theorem f26 : E.funcs 26 = some Try.f26 := by kernel_rfl
theorem restart26 (a : Int) : Lent E 26 [.pointer none, .int .i64 a] [] (.int .i64 1) [] := by
  refine Lent.of f26 rfl (of_decide_eq_true (by kernel_rfl)) rfl rfl (Nat.le_refl _) rfl rfl rfl ?_
  have c0 := has44 a
  refine Wp.seq (Wp.text ?_)
  refine kp 4 (.int IntKind.i64 0) ?_
  refine WpOps.nil (thenK_at (Wp.seq (Wp.seq (Wp.text ?_))))
  refine kp 6 (.pointer none) ?_
  refine kp 7 (.int IntKind.i64 a) ?_
  refine cl 8 44 [Value.pointer none, Value.int .i64 a] ?_
  refine WpCall.lent [] (c0) (by decide) trivial (by kernel_rfl) (Value.bool false) ([]) .nil (by kernel_rfl) (heapOf []) (by kernel_rfl) ?_
  refine kp 9 (.bool true) ?_
  refine WpOps.nil (thenK_at (on' (Wp.seq (Wp.text ?_))))
  refine kp 4 (.int IntKind.i64 1) ?_
  refine WpOps.nil (thenK_at (Wp.ret (thenK_ret ?_)))
  refine endK_retn [Value.int IntKind.i64 1] (Value.int IntKind.i64 1) (by kernel_rfl) (by kernel_rfl) ?_
  exact ⟨[], by decide, by kernel_rfl, trivial, .w (.un rfl rfl)⟩
theorem f17 : E.funcs 17 = some Try.f17 := by kernel_rfl
theorem decide17 (a : Int) : Lent E 17 [.pointer none, .int .i64 a, .bool true] [] (.int .i64 1) [] := by
  refine Lent.of f17 rfl (of_decide_eq_true (by kernel_rfl)) rfl rfl (Nat.le_refl _) rfl rfl rfl ?_
  have c0 := has44 a
  refine Wp.seq (Wp.text ?_)
  refine kp 6 (.int IntKind.i64 0) ?_
  refine WpOps.nil (thenK_at (Wp.seq (Wp.seq (Wp.text ?_))))
  refine kp 8 (.pointer none) ?_
  refine kp 9 (.int IntKind.i64 a) ?_
  refine cl 10 44 [Value.pointer none, Value.int .i64 a] ?_
  refine WpCall.lent [] (c0) (by decide) trivial (by kernel_rfl) (Value.bool false) ([]) .nil (by kernel_rfl) (heapOf []) (by kernel_rfl) ?_
  refine kp 11 (.bool true) ?_
  refine WpOps.nil (thenK_at (on' (Wp.seq (Wp.text ?_))))
  refine kp 6 (.int IntKind.i64 1) ?_
  refine WpOps.nil (thenK_at (Wp.ret (thenK_ret ?_)))
  refine endK_retn [Value.int IntKind.i64 1] (Value.int IntKind.i64 1) (by kernel_rfl) (by kernel_rfl) ?_
  exact ⟨[], by decide, by kernel_rfl, trivial, .w (.un rfl rfl)⟩
theorem f18 : E.funcs 18 = some Try.f18 := by kernel_rfl
theorem tick18  : Lent E 18 [.pointer none] [] (.tuple #[]) [] := by
  refine Lent.of f18 rfl (of_decide_eq_true (by kernel_rfl)) rfl rfl (Nat.le_refl _) rfl rfl rfl ?_
  have c0 := none40
  refine Wp.seq (Wp.seq (Wp.text ?_))
  refine kp 6 (.pointer none) ?_
  refine cl 7 40 [Value.pointer none] ?_
  refine WpCall.lent [] (c0) (by decide) trivial (by kernel_rfl) (Value.bool true) ([]) .nil (by kernel_rfl) (heapOf []) (by kernel_rfl) ?_
  refine WpOps.nil (thenK_at (on' (Wp.ret (thenK_ret ?_))))
  refine endK_retn [] (Value.tuple #[]) (by kernel_rfl) (by kernel_rfl) ?_
  exact ⟨[], by decide, by kernel_rfl, trivial, .tuple _ _ (by kernel_rfl) rfl .nil⟩
theorem f21 : E.funcs 21 = some Try.f21 := by kernel_rfl
theorem state21 (a : Int) : Lent E 21 [.pointer none, .int .i64 a] [] (.tuple #[.int .i64 0, .int .i64 1]) [] := by
  refine Lent.of f21 rfl (of_decide_eq_true (by kernel_rfl)) rfl rfl (Nat.le_refl _) rfl rfl rfl ?_
  have c0 := has44 a
  refine Wp.seq (Wp.text ?_)
  refine kp 4 (.int IntKind.i64 0) ?_
  refine kp 5 (.int IntKind.i64 0) ?_
  refine WpOps.nil (thenK_at (Wp.seq (Wp.seq (Wp.text ?_))))
  refine kp 6 (.pointer none) ?_
  refine kp 7 (.int IntKind.i64 a) ?_
  refine cl 8 44 [Value.pointer none, Value.int .i64 a] ?_
  refine WpCall.lent [] (c0) (by decide) trivial (by kernel_rfl) (Value.bool false) ([]) .nil (by kernel_rfl) (heapOf []) (by kernel_rfl) ?_
  refine kp 9 (.bool true) ?_
  refine WpOps.nil (thenK_at (on' (Wp.seq (Wp.text ?_))))
  refine kp 4 (.int IntKind.i64 0) ?_
  refine kp 5 (.int IntKind.i64 1) ?_
  refine WpOps.nil (thenK_at (Wp.ret (thenK_ret ?_)))
  refine endK_retn [Value.int IntKind.i64 0, Value.int IntKind.i64 1] (Value.tuple #[Value.int IntKind.i64 0, Value.int IntKind.i64 1]) (by kernel_rfl) (by kernel_rfl) ?_
  exact ⟨[], by decide, by kernel_rfl, trivial, .tuple _ _ (by kernel_rfl) rfl (.cons (.un rfl rfl) (.cons (.un rfl rfl) .nil))⟩
theorem f29 : E.funcs 29 = some Try.f29 := by kernel_rfl
theorem log29 (a : Int) : Lent E 29 [.pointer none, .int .i64 a] [] (.tuple #[.slice none 0 0, .int .i64 1]) [] := by
  refine Lent.of f29 rfl (of_decide_eq_true (by kernel_rfl)) rfl rfl (Nat.le_refl _) rfl rfl rfl ?_
  have c0 := has44 a
  refine Wp.seq (Wp.text ?_)
  refine kp 4 (.slice none 0 0) ?_
  refine kp 5 (.int IntKind.i64 0) ?_
  refine WpOps.nil (thenK_at (Wp.seq (Wp.seq (Wp.text ?_))))
  refine kp 6 (.pointer none) ?_
  refine kp 7 (.int IntKind.i64 a) ?_
  refine cl 8 44 [Value.pointer none, Value.int .i64 a] ?_
  refine WpCall.lent [] (c0) (by decide) trivial (by kernel_rfl) (Value.bool false) ([]) .nil (by kernel_rfl) (heapOf []) (by kernel_rfl) ?_
  refine kp 9 (.bool true) ?_
  refine WpOps.nil (thenK_at (on' (Wp.seq (Wp.text ?_))))
  refine kp 4 (.slice none 0 0) ?_
  refine kp 5 (.int IntKind.i64 1) ?_
  refine WpOps.nil (thenK_at (Wp.ret (thenK_ret ?_)))
  refine endK_retn [Value.slice none 0 0, Value.int IntKind.i64 1] (Value.tuple #[Value.slice none 0 0, Value.int IntKind.i64 1]) (by kernel_rfl) (by kernel_rfl) ?_
  exact ⟨[], by decide, by kernel_rfl, trivial, .tuple _ _ (by kernel_rfl) rfl (.cons (.un rfl rfl) (.cons (.un rfl rfl) .nil))⟩
theorem f30 : E.funcs 30 = some Try.f30 := by kernel_rfl
theorem onway30 (a b : Int) : Lent E 30 [.pointer none, .int .i64 a, .int .i64 b] [] (.int .i64 0) [] := by
  refine Lent.of f30 rfl (of_decide_eq_true (by kernel_rfl)) rfl rfl (Nat.le_refl _) rfl rfl rfl ?_
  have c0 := near50 a b
  refine Wp.seq (Wp.text ?_)
  refine kp 6 (.int IntKind.i64 0) ?_
  refine WpOps.nil (thenK_at (Wp.seq (Wp.seq (Wp.text ?_))))
  refine kp 7 (.pointer none) ?_
  refine kp 8 (.int IntKind.i64 a) ?_
  refine kp 9 (.int IntKind.i64 b) ?_
  refine cl 10 50 [Value.pointer none, Value.int .i64 a, Value.int .i64 b] ?_
  refine WpCall.lent [] (c0) (by decide) trivial (by kernel_rfl) (Value.bool false) ([]) .nil (by kernel_rfl) (heapOf []) (by kernel_rfl) ?_
  refine kp 11 (.bool true) ?_
  refine WpOps.nil (thenK_at (on' (Wp.seq (Wp.text ?_))))
  refine kp 6 (.int IntKind.i64 0) ?_
  refine WpOps.nil (thenK_at (Wp.ret (thenK_ret ?_)))
  refine endK_retn [Value.int IntKind.i64 0] (Value.int IntKind.i64 0) (by kernel_rfl) (by kernel_rfl) ?_
  exact ⟨[], by decide, by kernel_rfl, trivial, .w (.un rfl rfl)⟩
theorem f23 : E.funcs 23 = some Try.f23 := by kernel_rfl
theorem mixed23  : Lent E 23 [.pointer none] [] (.bool false) [] := by
  refine Lent.of f23 rfl (of_decide_eq_true (by kernel_rfl)) rfl rfl (Nat.le_refl _) rfl rfl rfl ?_
  have c0 := none40
  refine Wp.seq (Wp.text ?_)
  refine kp 2 (.bool false) ?_
  refine WpOps.nil (thenK_at (Wp.seq (Wp.text ?_)))
  refine kp 3 (.pointer none) ?_
  refine cl 4 40 [Value.pointer none] ?_
  refine WpCall.lent [] (c0) (by decide) trivial (by kernel_rfl) (Value.bool true) ([]) .nil (by kernel_rfl) (heapOf []) (by kernel_rfl) ?_
  refine kp 5 (.bool false) ?_
  refine kp 6 (.bool false) ?_
  refine um 7 ?_
  refine um 8 ?_
  refine um 9 ?_
  refine um 10 ?_
  refine kp 11 (.bool false) ?_
  refine kp 2 (.bool false) ?_
  refine WpOps.nil (thenK_at (Wp.ret ?_))
  refine endK_retn [Value.bool false] (Value.bool false) (by kernel_rfl) (by kernel_rfl) ?_
  exact ⟨[], by decide, by kernel_rfl, trivial, .w (.un rfl rfl)⟩
theorem f31 : E.funcs 31 = some Try.f31 := by kernel_rfl
theorem copy31  : Lent E 31 [.pointer none] [] (.pointer none) [] := by
  refine Lent.of f31 rfl (of_decide_eq_true (by kernel_rfl)) rfl rfl (Nat.le_refl _) rfl rfl rfl ?_
  have c0 := none40
  refine Wp.seq (Wp.text ?_)
  refine kp 2 (.pointer none) ?_
  refine WpOps.nil (thenK_at (Wp.seq (Wp.seq (Wp.text ?_))))
  refine kp 11 (.pointer none) ?_
  refine cl 12 40 [Value.pointer none] ?_
  refine WpCall.lent [] (c0) (by decide) trivial (by kernel_rfl) (Value.bool true) ([]) .nil (by kernel_rfl) (heapOf []) (by kernel_rfl) ?_
  refine WpOps.nil (thenK_at (on' (Wp.seq (Wp.text ?_))))
  refine kp 2 (.pointer none) ?_
  refine WpOps.nil (thenK_at (Wp.ret (thenK_ret ?_)))
  refine endK_retn [Value.pointer none] (Value.pointer none) (by kernel_rfl) (by kernel_rfl) ?_
  exact ⟨[], by decide, by kernel_rfl, trivial, .w (.un rfl rfl)⟩
theorem f5 : E.funcs 5 = some Try.f5 := by kernel_rfl
theorem law5 (a b : Int) : Fun E 5 [.int .i64 a, .int .i64 b] (.bool true) := by
  refine Fun.of f5 rfl (of_decide_eq_true (by kernel_rfl)) rfl ?_
  have c1 := begin13
  have c2 := prepare15
  have c3 := rollback16
  have c4 := refuse27 a
  have c5 := deliver28 a b
  have c6 := crash25 a
  have c7 := restart26 a
  have c8 := decide17 a
  have c9 := tick18
  have c10 := state21 a
  have c11 := log29 a
  have c12 := onway30 a b
  have c13 := mixed23
  have c14 := copy31
  have c15 := sane11
  refine Wp.seq (Wp.text ?_)
  refine kp 4 (.bool false) ?_
  refine WpOps.nil (thenK_at (Wp.seq (Wp.text ?_)))
  refine kp 5 (.pointer none) ?_
  refine WpOps.nil (thenK_at (Wp.seq (Wp.text ?_)))
  refine kp 15 (.pointer none) ?_
  refine cl 16 13 [Value.pointer none] ?_
  refine WpCall.lent [] (c1) (by decide) trivial (by kernel_rfl) (Value.int IntKind.i64 1) ([]) .nil (by kernel_rfl) (Heap.none) (by kernel_rfl) ?_
  refine kp 17 (.pointer none) ?_
  refine cl 18 15 [Value.pointer none] ?_
  refine WpCall.lent [] (c2) (by decide) trivial (by kernel_rfl) (Value.int IntKind.i64 1) ([]) .nil (by kernel_rfl) (Heap.none) (by kernel_rfl) ?_
  refine kp 19 (.pointer none) ?_
  refine cl 20 16 [Value.pointer none] ?_
  refine WpCall.lent [] (c3) (by decide) trivial (by kernel_rfl) (Value.int IntKind.i64 1) ([]) .nil (by kernel_rfl) (Heap.none) (by kernel_rfl) ?_
  refine kp 21 (.pointer none) ?_
  refine kp 22 (.int IntKind.i64 a) ?_
  refine cl 23 27 [Value.pointer none, Value.int .i64 a] ?_
  refine WpCall.lent [] (c4) (by decide) trivial (by kernel_rfl) (Value.int IntKind.i64 1) ([]) .nil (by kernel_rfl) (Heap.none) (by kernel_rfl) ?_
  refine kp 24 (.pointer none) ?_
  refine kp 25 (.int IntKind.i64 a) ?_
  refine kp 26 (.int IntKind.i64 b) ?_
  refine cl 27 28 [Value.pointer none, Value.int .i64 a, Value.int .i64 b] ?_
  refine WpCall.lent [] (c5) (by decide) trivial (by kernel_rfl) (Value.int IntKind.i64 1) ([]) .nil (by kernel_rfl) (Heap.none) (by kernel_rfl) ?_
  refine kp 28 (.pointer none) ?_
  refine kp 29 (.int IntKind.i64 a) ?_
  refine cl 30 25 [Value.pointer none, Value.int .i64 a] ?_
  refine WpCall.lent [] (c6) (by decide) trivial (by kernel_rfl) (Value.int IntKind.i64 1) ([]) .nil (by kernel_rfl) (Heap.none) (by kernel_rfl) ?_
  refine kp 31 (.pointer none) ?_
  refine kp 32 (.int IntKind.i64 a) ?_
  refine cl 33 26 [Value.pointer none, Value.int .i64 a] ?_
  refine WpCall.lent [] (c7) (by decide) trivial (by kernel_rfl) (Value.int IntKind.i64 1) ([]) .nil (by kernel_rfl) (Heap.none) (by kernel_rfl) ?_
  refine kp 34 (.pointer none) ?_
  refine kp 35 (.int IntKind.i64 a) ?_
  refine cl 36 17 [Value.pointer none, Value.int .i64 a, Value.bool true] ?_
  refine WpCall.lent [] (c8) (by decide) trivial (by kernel_rfl) (Value.int IntKind.i64 1) ([]) .nil (by kernel_rfl) (Heap.none) (by kernel_rfl) ?_
  refine kp 37 (.agg #[Value.int .i64 1, Value.int .i64 1, Value.int .i64 1, Value.int .i64 1, Value.int .i64 1, Value.int .i64 1, Value.int .i64 1, Value.int .i64 1]) ?_
  refine md 6 (.pointer (some ⟨0, 0, none⟩)) (Blk.mk 47 true [Value.int .i64 0, Value.int .i64 0, Value.int .i64 0, Value.int .i64 0, Value.int .i64 0, Value.int .i64 0, Value.int .i64 0, Value.int .i64 0]) ?_
  refine ld (.tuple #[]) (0) (Blk.mk 47 true [Value.int .i64 1, Value.int .i64 1, Value.int .i64 1, Value.int .i64 1, Value.int .i64 1, Value.int .i64 1, Value.int .i64 1, Value.int .i64 1]) ?_
  refine WpOps.nil (thenK_at (Wp.seq (Wp.seq (Wp.text ?_))))
  refine kp 7 (.int IntKind.i64 0) ?_
  refine WpOps.nil (thenK_at (Wp.block ?_))
  refine Wp.unroll (WpL.step ?_)
  refine Wp.seq (Wp.seq (Wp.text ?_))
  refine kp 38 (.int IntKind.i64 0) ?_
  refine kp 39 (.bool true) ?_
  refine WpOps.nil (thenK_at (on' (Wp.skip (thenK_at (Wp.seq (Wp.block (Wp.seq (Wp.text ?_))))))))
  refine kp 42 (.int IntKind.i64 0) ?_
  refine kp 43 (.pointer (some ⟨0, 0, none⟩)) ?_
  refine kp 44 (.int IntKind.i64 1) ?_
  refine kp 45 (.bool false) ?_
  refine WpOps.nil (thenK_at (off' (Wp.skip (blockK_norm (thenK_at (Wp.text ?_))))))
  refine kp 40 (.int IntKind.i64 0) ?_
  refine kp 41 (.int IntKind.i64 (IntKind.wrap .i64 (0 + 1))) ?_
  refine kp 7 (.int IntKind.i64 (IntKind.wrap .i64 (0 + 1))) ?_
  refine WpOps.nil (thenK_at ?_)
  refine WpL.step ?_
  refine Wp.seq (Wp.seq (Wp.text ?_))
  refine kp 38 (.int IntKind.i64 (IntKind.wrap .i64 (0 + 1))) ?_
  refine kp 39 (.bool true) ?_
  refine WpOps.nil (thenK_at (on' (Wp.skip (thenK_at (Wp.seq (Wp.block (Wp.seq (Wp.text ?_))))))))
  refine kp 42 (.int IntKind.i64 (IntKind.wrap .i64 (0 + 1))) ?_
  refine kp 43 (.pointer (some ⟨0, 1, none⟩)) ?_
  refine kp 44 (.int IntKind.i64 1) ?_
  refine kp 45 (.bool false) ?_
  refine WpOps.nil (thenK_at (off' (Wp.skip (blockK_norm (thenK_at (Wp.text ?_))))))
  refine kp 40 (.int IntKind.i64 (IntKind.wrap .i64 (0 + 1))) ?_
  refine kp 41 (.int IntKind.i64 (IntKind.wrap .i64 (IntKind.wrap .i64 (0 + 1) + 1))) ?_
  refine kp 7 (.int IntKind.i64 (IntKind.wrap .i64 (IntKind.wrap .i64 (0 + 1) + 1))) ?_
  refine WpOps.nil (thenK_at ?_)
  refine WpL.step ?_
  refine Wp.seq (Wp.seq (Wp.text ?_))
  refine kp 38 (.int IntKind.i64 (IntKind.wrap .i64 (IntKind.wrap .i64 (0 + 1) + 1))) ?_
  refine kp 39 (.bool true) ?_
  refine WpOps.nil (thenK_at (on' (Wp.skip (thenK_at (Wp.seq (Wp.block (Wp.seq (Wp.text ?_))))))))
  refine kp 42 (.int IntKind.i64 (IntKind.wrap .i64 (IntKind.wrap .i64 (0 + 1) + 1))) ?_
  refine kp 43 (.pointer (some ⟨0, 2, none⟩)) ?_
  refine kp 44 (.int IntKind.i64 1) ?_
  refine kp 45 (.bool false) ?_
  refine WpOps.nil (thenK_at (off' (Wp.skip (blockK_norm (thenK_at (Wp.text ?_))))))
  refine kp 40 (.int IntKind.i64 (IntKind.wrap .i64 (IntKind.wrap .i64 (0 + 1) + 1))) ?_
  refine kp 41 (.int IntKind.i64 (IntKind.wrap .i64 (IntKind.wrap .i64 (IntKind.wrap .i64 (0 + 1) + 1) + 1))) ?_
  refine kp 7 (.int IntKind.i64 (IntKind.wrap .i64 (IntKind.wrap .i64 (IntKind.wrap .i64 (0 + 1) + 1) + 1))) ?_
  refine WpOps.nil (thenK_at ?_)
  refine WpL.step ?_
  refine Wp.seq (Wp.seq (Wp.text ?_))
  refine kp 38 (.int IntKind.i64 (IntKind.wrap .i64 (IntKind.wrap .i64 (IntKind.wrap .i64 (0 + 1) + 1) + 1))) ?_
  refine kp 39 (.bool true) ?_
  refine WpOps.nil (thenK_at (on' (Wp.skip (thenK_at (Wp.seq (Wp.block (Wp.seq (Wp.text ?_))))))))
  refine kp 42 (.int IntKind.i64 (IntKind.wrap .i64 (IntKind.wrap .i64 (IntKind.wrap .i64 (0 + 1) + 1) + 1))) ?_
  refine kp 43 (.pointer (some ⟨0, 3, none⟩)) ?_
  refine kp 44 (.int IntKind.i64 1) ?_
  refine kp 45 (.bool false) ?_
  refine WpOps.nil (thenK_at (off' (Wp.skip (blockK_norm (thenK_at (Wp.text ?_))))))
  refine kp 40 (.int IntKind.i64 (IntKind.wrap .i64 (IntKind.wrap .i64 (IntKind.wrap .i64 (0 + 1) + 1) + 1))) ?_
  refine kp 41 (.int IntKind.i64 (IntKind.wrap .i64 (IntKind.wrap .i64 (IntKind.wrap .i64 (IntKind.wrap .i64 (0 + 1) + 1) + 1) + 1))) ?_
  refine kp 7 (.int IntKind.i64 (IntKind.wrap .i64 (IntKind.wrap .i64 (IntKind.wrap .i64 (IntKind.wrap .i64 (0 + 1) + 1) + 1) + 1))) ?_
  refine WpOps.nil (thenK_at ?_)
  refine WpL.step ?_
  refine Wp.seq (Wp.seq (Wp.text ?_))
  refine kp 38 (.int IntKind.i64 (IntKind.wrap .i64 (IntKind.wrap .i64 (IntKind.wrap .i64 (IntKind.wrap .i64 (0 + 1) + 1) + 1) + 1))) ?_
  refine kp 39 (.bool true) ?_
  refine WpOps.nil (thenK_at (on' (Wp.skip (thenK_at (Wp.seq (Wp.block (Wp.seq (Wp.text ?_))))))))
  refine kp 42 (.int IntKind.i64 (IntKind.wrap .i64 (IntKind.wrap .i64 (IntKind.wrap .i64 (IntKind.wrap .i64 (0 + 1) + 1) + 1) + 1))) ?_
  refine kp 43 (.pointer (some ⟨0, 4, none⟩)) ?_
  refine kp 44 (.int IntKind.i64 1) ?_
  refine kp 45 (.bool false) ?_
  refine WpOps.nil (thenK_at (off' (Wp.skip (blockK_norm (thenK_at (Wp.text ?_))))))
  refine kp 40 (.int IntKind.i64 (IntKind.wrap .i64 (IntKind.wrap .i64 (IntKind.wrap .i64 (IntKind.wrap .i64 (0 + 1) + 1) + 1) + 1))) ?_
  refine kp 41 (.int IntKind.i64 (IntKind.wrap .i64 (IntKind.wrap .i64 (IntKind.wrap .i64 (IntKind.wrap .i64 (IntKind.wrap .i64 (0 + 1) + 1) + 1) + 1) + 1))) ?_
  refine kp 7 (.int IntKind.i64 (IntKind.wrap .i64 (IntKind.wrap .i64 (IntKind.wrap .i64 (IntKind.wrap .i64 (IntKind.wrap .i64 (0 + 1) + 1) + 1) + 1) + 1))) ?_
  refine WpOps.nil (thenK_at ?_)
  refine WpL.step ?_
  refine Wp.seq (Wp.seq (Wp.text ?_))
  refine kp 38 (.int IntKind.i64 (IntKind.wrap .i64 (IntKind.wrap .i64 (IntKind.wrap .i64 (IntKind.wrap .i64 (IntKind.wrap .i64 (0 + 1) + 1) + 1) + 1) + 1))) ?_
  refine kp 39 (.bool true) ?_
  refine WpOps.nil (thenK_at (on' (Wp.skip (thenK_at (Wp.seq (Wp.block (Wp.seq (Wp.text ?_))))))))
  refine kp 42 (.int IntKind.i64 (IntKind.wrap .i64 (IntKind.wrap .i64 (IntKind.wrap .i64 (IntKind.wrap .i64 (IntKind.wrap .i64 (0 + 1) + 1) + 1) + 1) + 1))) ?_
  refine kp 43 (.pointer (some ⟨0, 5, none⟩)) ?_
  refine kp 44 (.int IntKind.i64 1) ?_
  refine kp 45 (.bool false) ?_
  refine WpOps.nil (thenK_at (off' (Wp.skip (blockK_norm (thenK_at (Wp.text ?_))))))
  refine kp 40 (.int IntKind.i64 (IntKind.wrap .i64 (IntKind.wrap .i64 (IntKind.wrap .i64 (IntKind.wrap .i64 (IntKind.wrap .i64 (0 + 1) + 1) + 1) + 1) + 1))) ?_
  refine kp 41 (.int IntKind.i64 (IntKind.wrap .i64 (IntKind.wrap .i64 (IntKind.wrap .i64 (IntKind.wrap .i64 (IntKind.wrap .i64 (IntKind.wrap .i64 (0 + 1) + 1) + 1) + 1) + 1) + 1))) ?_
  refine kp 7 (.int IntKind.i64 (IntKind.wrap .i64 (IntKind.wrap .i64 (IntKind.wrap .i64 (IntKind.wrap .i64 (IntKind.wrap .i64 (IntKind.wrap .i64 (0 + 1) + 1) + 1) + 1) + 1) + 1))) ?_
  refine WpOps.nil (thenK_at ?_)
  refine WpL.step ?_
  refine Wp.seq (Wp.seq (Wp.text ?_))
  refine kp 38 (.int IntKind.i64 (IntKind.wrap .i64 (IntKind.wrap .i64 (IntKind.wrap .i64 (IntKind.wrap .i64 (IntKind.wrap .i64 (IntKind.wrap .i64 (0 + 1) + 1) + 1) + 1) + 1) + 1))) ?_
  refine kp 39 (.bool true) ?_
  refine WpOps.nil (thenK_at (on' (Wp.skip (thenK_at (Wp.seq (Wp.block (Wp.seq (Wp.text ?_))))))))
  refine kp 42 (.int IntKind.i64 (IntKind.wrap .i64 (IntKind.wrap .i64 (IntKind.wrap .i64 (IntKind.wrap .i64 (IntKind.wrap .i64 (IntKind.wrap .i64 (0 + 1) + 1) + 1) + 1) + 1) + 1))) ?_
  refine kp 43 (.pointer (some ⟨0, 6, none⟩)) ?_
  refine kp 44 (.int IntKind.i64 1) ?_
  refine kp 45 (.bool false) ?_
  refine WpOps.nil (thenK_at (off' (Wp.skip (blockK_norm (thenK_at (Wp.text ?_))))))
  refine kp 40 (.int IntKind.i64 (IntKind.wrap .i64 (IntKind.wrap .i64 (IntKind.wrap .i64 (IntKind.wrap .i64 (IntKind.wrap .i64 (IntKind.wrap .i64 (0 + 1) + 1) + 1) + 1) + 1) + 1))) ?_
  refine kp 41 (.int IntKind.i64 (IntKind.wrap .i64 (IntKind.wrap .i64 (IntKind.wrap .i64 (IntKind.wrap .i64 (IntKind.wrap .i64 (IntKind.wrap .i64 (IntKind.wrap .i64 (0 + 1) + 1) + 1) + 1) + 1) + 1) + 1))) ?_
  refine kp 7 (.int IntKind.i64 (IntKind.wrap .i64 (IntKind.wrap .i64 (IntKind.wrap .i64 (IntKind.wrap .i64 (IntKind.wrap .i64 (IntKind.wrap .i64 (IntKind.wrap .i64 (0 + 1) + 1) + 1) + 1) + 1) + 1) + 1))) ?_
  refine WpOps.nil (thenK_at ?_)
  refine WpL.step ?_
  refine Wp.seq (Wp.seq (Wp.text ?_))
  refine kp 38 (.int IntKind.i64 (IntKind.wrap .i64 (IntKind.wrap .i64 (IntKind.wrap .i64 (IntKind.wrap .i64 (IntKind.wrap .i64 (IntKind.wrap .i64 (IntKind.wrap .i64 (0 + 1) + 1) + 1) + 1) + 1) + 1) + 1))) ?_
  refine kp 39 (.bool true) ?_
  refine WpOps.nil (thenK_at (on' (Wp.skip (thenK_at (Wp.seq (Wp.block (Wp.seq (Wp.text ?_))))))))
  refine kp 42 (.int IntKind.i64 (IntKind.wrap .i64 (IntKind.wrap .i64 (IntKind.wrap .i64 (IntKind.wrap .i64 (IntKind.wrap .i64 (IntKind.wrap .i64 (IntKind.wrap .i64 (0 + 1) + 1) + 1) + 1) + 1) + 1) + 1))) ?_
  refine kp 43 (.pointer (some ⟨0, 7, none⟩)) ?_
  refine kp 44 (.int IntKind.i64 1) ?_
  refine kp 45 (.bool false) ?_
  refine WpOps.nil (thenK_at (off' (Wp.skip (blockK_norm (thenK_at (Wp.text ?_))))))
  refine kp 40 (.int IntKind.i64 (IntKind.wrap .i64 (IntKind.wrap .i64 (IntKind.wrap .i64 (IntKind.wrap .i64 (IntKind.wrap .i64 (IntKind.wrap .i64 (IntKind.wrap .i64 (0 + 1) + 1) + 1) + 1) + 1) + 1) + 1))) ?_
  refine kp 41 (.int IntKind.i64 (IntKind.wrap .i64 (IntKind.wrap .i64 (IntKind.wrap .i64 (IntKind.wrap .i64 (IntKind.wrap .i64 (IntKind.wrap .i64 (IntKind.wrap .i64 (IntKind.wrap .i64 (0 + 1) + 1) + 1) + 1) + 1) + 1) + 1) + 1))) ?_
  refine kp 7 (.int IntKind.i64 (IntKind.wrap .i64 (IntKind.wrap .i64 (IntKind.wrap .i64 (IntKind.wrap .i64 (IntKind.wrap .i64 (IntKind.wrap .i64 (IntKind.wrap .i64 (IntKind.wrap .i64 (0 + 1) + 1) + 1) + 1) + 1) + 1) + 1) + 1))) ?_
  refine WpOps.nil (thenK_at ?_)
  refine WpL.step ?_
  refine Wp.seq (Wp.seq (Wp.text ?_))
  refine kp 38 (.int IntKind.i64 (IntKind.wrap .i64 (IntKind.wrap .i64 (IntKind.wrap .i64 (IntKind.wrap .i64 (IntKind.wrap .i64 (IntKind.wrap .i64 (IntKind.wrap .i64 (IntKind.wrap .i64 (0 + 1) + 1) + 1) + 1) + 1) + 1) + 1) + 1))) ?_
  refine kp 39 (.bool false) ?_
  refine WpOps.nil (thenK_at (off' (Wp.exit (thenK_exit (thenK_exit (blockK_hit (thenK_at (Wp.seq (Wp.text ?_)))))))))
  refine kp 46 (.pointer none) ?_
  refine cl 47 18 [Value.pointer none] ?_
  refine WpCall.lent [] (c9) (by decide) trivial (by kernel_rfl) (Value.tuple #[]) ([]) .nil (by kernel_rfl) (Heap.set (Heap.alloc Heap.none (Blk.mk 47 true [Value.int IntKind.i64 0, Value.int IntKind.i64 0, Value.int IntKind.i64 0, Value.int IntKind.i64 0, Value.int IntKind.i64 0, Value.int IntKind.i64 0, Value.int IntKind.i64 0, Value.int IntKind.i64 0])) 0 (some (Blk.mk 47 true [Value.int IntKind.i64 1, Value.int IntKind.i64 1, Value.int IntKind.i64 1, Value.int IntKind.i64 1, Value.int IntKind.i64 1, Value.int IntKind.i64 1, Value.int IntKind.i64 1, Value.int IntKind.i64 1]))) (by kernel_rfl) ?_
  refine WpOps.nil (thenK_at (Wp.seq (Wp.text ?_)))
  refine kp 49 (.pointer none) ?_
  refine kp 50 (.int IntKind.i64 a) ?_
  refine cl 51 21 [Value.pointer none, Value.int .i64 a] ?_
  refine WpCall.lent [] (c10) (by decide) trivial (by kernel_rfl) (Value.tuple #[Value.int IntKind.i64 0, Value.int IntKind.i64 1]) ([]) .nil (by kernel_rfl) (Heap.set (Heap.alloc Heap.none (Blk.mk 47 true [Value.int IntKind.i64 0, Value.int IntKind.i64 0, Value.int IntKind.i64 0, Value.int IntKind.i64 0, Value.int IntKind.i64 0, Value.int IntKind.i64 0, Value.int IntKind.i64 0, Value.int IntKind.i64 0])) 0 (some (Blk.mk 47 true [Value.int IntKind.i64 1, Value.int IntKind.i64 1, Value.int IntKind.i64 1, Value.int IntKind.i64 1, Value.int IntKind.i64 1, Value.int IntKind.i64 1, Value.int IntKind.i64 1, Value.int IntKind.i64 1]))) (by kernel_rfl) ?_
  refine kp 48 (.tuple #[Value.int .i64 0, Value.int .i64 1]) ?_
  refine kp 52 (.int IntKind.i64 0) ?_
  refine kp 53 (.int IntKind.i64 1) ?_
  refine kp 8 (.int IntKind.i64 0) ?_
  refine kp 9 (.int IntKind.i64 1) ?_
  refine WpOps.nil (thenK_at (Wp.seq (Wp.text ?_)))
  refine kp 55 (.pointer none) ?_
  refine kp 56 (.int IntKind.i64 a) ?_
  refine cl 57 29 [Value.pointer none, Value.int .i64 a] ?_
  refine WpCall.lent [] (c11) (by decide) trivial (by kernel_rfl) (Value.tuple #[Value.slice none 0 0, Value.int IntKind.i64 1]) ([]) .nil (by kernel_rfl) (Heap.set (Heap.alloc Heap.none (Blk.mk 47 true [Value.int IntKind.i64 0, Value.int IntKind.i64 0, Value.int IntKind.i64 0, Value.int IntKind.i64 0, Value.int IntKind.i64 0, Value.int IntKind.i64 0, Value.int IntKind.i64 0, Value.int IntKind.i64 0])) 0 (some (Blk.mk 47 true [Value.int IntKind.i64 1, Value.int IntKind.i64 1, Value.int IntKind.i64 1, Value.int IntKind.i64 1, Value.int IntKind.i64 1, Value.int IntKind.i64 1, Value.int IntKind.i64 1, Value.int IntKind.i64 1]))) (by kernel_rfl) ?_
  refine kp 54 (.tuple #[Value.slice none 0 0, Value.int .i64 1]) ?_
  refine kp 58 (.slice none 0 0) ?_
  refine kp 59 (.int IntKind.i64 1) ?_
  refine kp 10 (.slice none 0 0) ?_
  refine kp 11 (.int IntKind.i64 1) ?_
  refine WpOps.nil (thenK_at (Wp.seq (Wp.text ?_)))
  refine kp 60 (.pointer none) ?_
  refine kp 61 (.int IntKind.i64 a) ?_
  refine kp 62 (.int IntKind.i64 b) ?_
  refine cl 63 30 [Value.pointer none, Value.int .i64 a, Value.int .i64 b] ?_
  refine WpCall.lent [] (c12) (by decide) trivial (by kernel_rfl) (Value.int IntKind.i64 0) ([]) .nil (by kernel_rfl) (Heap.set (Heap.alloc Heap.none (Blk.mk 47 true [Value.int IntKind.i64 0, Value.int IntKind.i64 0, Value.int IntKind.i64 0, Value.int IntKind.i64 0, Value.int IntKind.i64 0, Value.int IntKind.i64 0, Value.int IntKind.i64 0, Value.int IntKind.i64 0])) 0 (some (Blk.mk 47 true [Value.int IntKind.i64 1, Value.int IntKind.i64 1, Value.int IntKind.i64 1, Value.int IntKind.i64 1, Value.int IntKind.i64 1, Value.int IntKind.i64 1, Value.int IntKind.i64 1, Value.int IntKind.i64 1]))) (by kernel_rfl) ?_
  refine kp 12 (.int IntKind.i64 0) ?_
  refine WpOps.nil (thenK_at (Wp.seq (Wp.text ?_)))
  refine kp 64 (.pointer none) ?_
  refine cl 65 23 [Value.pointer none] ?_
  refine WpCall.lent [] (c13) (by decide) trivial (by kernel_rfl) (Value.bool false) ([]) .nil (by kernel_rfl) (Heap.set (Heap.alloc Heap.none (Blk.mk 47 true [Value.int IntKind.i64 0, Value.int IntKind.i64 0, Value.int IntKind.i64 0, Value.int IntKind.i64 0, Value.int IntKind.i64 0, Value.int IntKind.i64 0, Value.int IntKind.i64 0, Value.int IntKind.i64 0])) 0 (some (Blk.mk 47 true [Value.int IntKind.i64 1, Value.int IntKind.i64 1, Value.int IntKind.i64 1, Value.int IntKind.i64 1, Value.int IntKind.i64 1, Value.int IntKind.i64 1, Value.int IntKind.i64 1, Value.int IntKind.i64 1]))) (by kernel_rfl) ?_
  refine kp 13 (.bool false) ?_
  refine WpOps.nil (thenK_at (Wp.seq (Wp.text ?_)))
  refine kp 66 (.pointer none) ?_
  refine cl 67 31 [Value.pointer none] ?_
  refine WpCall.lent [] (c14) (by decide) trivial (by kernel_rfl) (Value.pointer none) ([]) .nil (by kernel_rfl) (Heap.set (Heap.alloc Heap.none (Blk.mk 47 true [Value.int IntKind.i64 0, Value.int IntKind.i64 0, Value.int IntKind.i64 0, Value.int IntKind.i64 0, Value.int IntKind.i64 0, Value.int IntKind.i64 0, Value.int IntKind.i64 0, Value.int IntKind.i64 0])) 0 (some (Blk.mk 47 true [Value.int IntKind.i64 1, Value.int IntKind.i64 1, Value.int IntKind.i64 1, Value.int IntKind.i64 1, Value.int IntKind.i64 1, Value.int IntKind.i64 1, Value.int IntKind.i64 1, Value.int IntKind.i64 1]))) (by kernel_rfl) ?_
  refine kp 14 (.pointer none) ?_
  refine WpOps.nil (thenK_at (Wp.seq (Wp.text ?_)))
  refine kp 68 (.int IntKind.i64 1) ?_
  refine kp 69 (.bool true) ?_
  refine kp 70 (.bool true) ?_
  refine kp 71 (.int IntKind.i64 1) ?_
  refine kp 72 (.bool true) ?_
  refine kp 73 (.bool true) ?_
  refine kp 74 (.bool true) ?_
  refine kp 75 (.int IntKind.i64 0) ?_
  refine kp 76 (.bool true) ?_
  refine kp 77 (.bool true) ?_
  refine kp 78 (.bool true) ?_
  refine kp 79 (.bool false) ?_
  refine kp 80 (.bool true) ?_
  refine kp 81 (.bool true) ?_
  refine kp 82 (.bool true) ?_
  refine kp 83 (.pointer none) ?_
  refine kp 84 (.bool true) ?_
  refine kp 85 (.bool true) ?_
  refine kp 86 (.bool true) ?_
  refine fr 87 11 [] ?_
  refine WpFun.of (c15) ?_
  refine kp 88 (.bool true) ?_
  refine kp 4 (.bool true) ?_
  refine WpOps.nil (thenK_at (Wp.ret ?_))
  refine endK_retn [Value.bool true] (Value.bool true) (by kernel_rfl) (by kernel_rfl) ?_
  kernel_rfl
end Go.Proofs.Ytmafkhllkmipfaa.D
