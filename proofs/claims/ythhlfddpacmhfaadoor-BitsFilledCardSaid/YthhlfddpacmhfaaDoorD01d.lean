/- Bits: sane; the law BitsGets. -/
import Derived.Test.YthhlfddpacmhfaaDoorFwLem
import Derived.Test.YthhlfddpacmhfaaDoorD01c
namespace Go.Proofs.YthhlfddpacmhfaaDoor.D
open Go.Fw Go.RowKit

theorem f13 : E.funcs 13 = some Tryd.f13 := by kernel_rfl
theorem sane13 : Fun E 13 [] (.bool true) := Fun.closed 300 (.bool true) (by kernel_rfl)
theorem f3 : E.funcs 3 = some Tryd.f3 := by kernel_rfl
theorem law3 (s : ByteArray) (at' w : Int) (hs : s.size ≤ 140737488351232) : Fun E 3 [.string s, .int .i64 at', .int .i64 w] (.bool true) := by
  refine Fun.of f3 rfl (of_decide_eq_true (by kernel_rfl)) rfl ?_
  have c1 := get7 s at' w hs
  have c2 := get8 s at' w hs
  have c3 := getSigned9 s at' w hs
  have c4 := getSigned10 s at' w hs
  have c5 := valid11 s hs
  have c6 := valid12 s hs
  have c7 := sane13
  have e1 : ∀ i : Int, (i != i) = false := fun i => bne_self_eq_false i
  have e2 : ∀ i : Int, (i == i) = true := fun i => BEq.rfl
  have e3 : ∀ b : Bool, (b == b) = true := fun i => BEq.rfl
  have e4 := e1 (cutN s at' w 0)
  have e5 := e1 (cutE s at' w 0)
  have e6 := e1 (cutS s at' w)
  have e7 := e1 (cutE s at' w 1)
  have e8 := e3 (decide (VP s))
  refine Wp.seq (Wp.text ?_)
  refine kp 6 (.bool false) ?_
  refine WpOps.nil (thenK_at (Wp.seq (Wp.text ?_)))
  refine kp 13 (.string s) ?_
  refine kp 14 (.int IntKind.i64 at') ?_
  refine kp 15 (.int IntKind.i64 w) ?_
  refine fr 16 7 [Value.string s, Value.int .i64 at', Value.int .i64 w] ?_
  refine WpFun.of (c1) ?_
  refine kp 12 (.tuple #[Value.int .i64 (↑(cutN s at' w 0) : Int), Value.int .i64 (cutE s at' w 0)]) ?_
  refine kp 17 (.int IntKind.i64 (↑(cutN s at' w 0) : Int)) ?_
  refine kp 18 (.int IntKind.i64 (cutE s at' w 0)) ?_
  refine kp 7 (.int IntKind.i64 (↑(cutN s at' w 0) : Int)) ?_
  refine kp 8 (.int IntKind.i64 (cutE s at' w 0)) ?_
  refine WpOps.nil (thenK_at (Wp.seq (Wp.text ?_)))
  refine kp 20 (.string s) ?_
  refine kp 21 (.int IntKind.i64 at') ?_
  refine kp 22 (.int IntKind.i64 w) ?_
  refine fr 23 8 [Value.string s, Value.int .i64 at', Value.int .i64 w] ?_
  refine WpFun.of (c2) ?_
  refine kp 19 (.tuple #[Value.int .i64 (↑(cutN s at' w 0) : Int), Value.int .i64 (cutE s at' w 0)]) ?_
  refine kp 24 (.int IntKind.i64 (↑(cutN s at' w 0) : Int)) ?_
  refine kp 25 (.int IntKind.i64 (cutE s at' w 0)) ?_
  refine kp 9 (.int IntKind.i64 (↑(cutN s at' w 0) : Int)) ?_
  refine kp 10 (.int IntKind.i64 (cutE s at' w 0)) ?_
  refine WpOps.nil (thenK_at (Wp.seq (Wp.seq (Wp.text ?_))))
  refine kp 26 (.int IntKind.i64 (↑(cutN s at' w 0) : Int)) ?_
  refine kp 27 (.int IntKind.i64 (↑(cutN s at' w 0) : Int)) ?_
  refine kp 28 (.bool false) ?_ (hop := fun _ => by_fact e4)
  refine kp 29 (.bool false) ?_
  refine kp 30 (.int IntKind.i64 (cutE s at' w 0)) ?_
  refine kp 31 (.int IntKind.i64 (cutE s at' w 0)) ?_
  refine kp 32 (.bool false) ?_ (hop := fun _ => by_fact e5)
  refine kp 33 (.bool false) ?_
  refine WpOps.nil (thenK_at (off' (Wp.skip (thenK_at (Wp.seq (Wp.text ?_))))))
  refine kp 35 (.string s) ?_
  refine kp 36 (.int IntKind.i64 at') ?_
  refine kp 37 (.int IntKind.i64 w) ?_
  refine fr 38 9 [Value.string s, Value.int .i64 at', Value.int .i64 w] ?_
  refine WpFun.of (c3) ?_
  refine kp 34 (.tuple #[Value.int .i64 (cutS s at' w), Value.int .i64 (cutE s at' w 1)]) ?_
  refine kp 39 (.int IntKind.i64 (cutS s at' w)) ?_
  refine kp 40 (.int IntKind.i64 (cutE s at' w 1)) ?_
  refine kp 7 (.int IntKind.i64 (cutS s at' w)) ?_
  refine kp 8 (.int IntKind.i64 (cutE s at' w 1)) ?_
  refine WpOps.nil (thenK_at (Wp.seq (Wp.text ?_)))
  refine kp 42 (.string s) ?_
  refine kp 43 (.int IntKind.i64 at') ?_
  refine kp 44 (.int IntKind.i64 w) ?_
  refine fr 45 10 [Value.string s, Value.int .i64 at', Value.int .i64 w] ?_
  refine WpFun.of (c4) ?_
  refine kp 41 (.tuple #[Value.int .i64 (cutS s at' w), Value.int .i64 (cutE s at' w 1)]) ?_
  refine kp 46 (.int IntKind.i64 (cutS s at' w)) ?_
  refine kp 47 (.int IntKind.i64 (cutE s at' w 1)) ?_
  refine kp 9 (.int IntKind.i64 (cutS s at' w)) ?_
  refine kp 10 (.int IntKind.i64 (cutE s at' w 1)) ?_
  refine WpOps.nil (thenK_at (Wp.seq (Wp.seq (Wp.text ?_))))
  refine kp 48 (.int IntKind.i64 (cutS s at' w)) ?_
  refine kp 49 (.int IntKind.i64 (cutS s at' w)) ?_
  refine kp 50 (.bool false) ?_ (hop := fun _ => by_fact e6)
  refine kp 51 (.bool false) ?_
  refine kp 52 (.int IntKind.i64 (cutE s at' w 1)) ?_
  refine kp 53 (.int IntKind.i64 (cutE s at' w 1)) ?_
  refine kp 54 (.bool false) ?_ (hop := fun _ => by_fact e7)
  refine kp 55 (.bool false) ?_
  refine WpOps.nil (thenK_at (off' (Wp.skip (thenK_at (Wp.seq (Wp.text ?_))))))
  refine kp 56 (.string s) ?_
  refine fr 57 11 [Value.string s] ?_
  refine WpFun.of (c5) ?_
  refine kp 11 (.bool (decide (VP s))) ?_
  refine WpOps.nil (thenK_at (Wp.seq (Wp.text ?_)))
  refine kp 58 (.bool (decide (VP s))) ?_
  refine kp 59 (.string s) ?_
  refine fr 60 12 [Value.string s] ?_
  refine WpFun.of (c6) ?_
  refine kp 61 (.bool true) ?_ (hop := fun _ => by_fact e8)
  refine kp 62 (.bool true) ?_
  refine fr 63 13 [] ?_
  refine WpFun.of (c7) ?_
  refine kp 64 (.bool true) ?_
  refine kp 6 (.bool true) ?_
  refine WpOps.nil (thenK_at (Wp.ret ?_))
  refine endK_retn [Value.bool true] (Value.bool true) (by kernel_rfl) (by kernel_rfl) ?_
  rfl
end Go.Proofs.YthhlfddpacmhfaaDoor.D
