/- The law BitsRows. -/
import Derived.Test.YthhlfddpacmhfaaDoorFwLem
import Derived.Test.YthhlfddpacmhfaaDoorD01l
namespace Go.Proofs.YthhlfddpacmhfaaDoor.D
open Go.Fw Go.RowKit

theorem f5 : E.funcs 5 = some Tryd.f5 := by kernel_rfl
theorem packV_is (s : ByteArray) : ∃ b e, packV s = .tuple #[.string b, .int .i64 e] := by
  unfold packV
  split
  · exact ⟨_, _, rfl⟩
  · exact ⟨_, _, rfl⟩
theorem fillV_is (s : ByteArray) (t : Int) : ∃ b e, fillV s t = .tuple #[.string b, .int .i64 e] := by
  unfold fillV
  split
  · split
    · exact ⟨_, _, rfl⟩
    · exact ⟨_, _, rfl⟩
  · exact ⟨_, _, rfl⟩
theorem flipV_is (s : ByteArray) (t : Int) : ∃ b e, flipV s t = .tuple #[.string b, .int .i64 e] := by
  unfold flipV
  split
  · exact ⟨_, _, rfl⟩
  · exact ⟨_, _, rfl⟩
theorem onesV_is (s : ByteArray) : ∃ b e, onesV s = .tuple #[.int .i64 b, .int .i64 e] := by
  unfold onesV
  split
  · exact ⟨_, _, rfl⟩
  · exact ⟨_, _, rfl⟩
theorem law5 (s : ByteArray) (n : Int) (hs : s.size ≤ 140737488351232) : Fun E 5 [.string s, .int .i64 n] (.bool true) := by
  refine Fun.of f5 rfl (of_decide_eq_true (by kernel_rfl)) rfl ?_
  have c1 := pack20 s hs
  have c2 := pack21 s hs
  have c3 := fill22 s n hs
  have c4 := fill23 s n hs
  have c5 := flip24 s n hs
  have c6 := flip25 s n hs
  have c7 := ones26 s hs
  have c8 := ones27 s hs
  have c9 := sane13
  obtain ⟨pb, pe, hp⟩ := packV_is s
  obtain ⟨lb, le, hl⟩ := fillV_is s n
  obtain ⟨xb, xe, hx⟩ := flipV_is s n
  obtain ⟨ob, oe, ho⟩ := onesV_is s
  rw [hp] at c1 c2
  rw [hl] at c3 c4
  rw [hx] at c5 c6
  rw [ho] at c7 c8
  have d1 : (!(pb.toList == pb.toList)) = false := by rw [beq_self_eq_true]; rfl
  have d2 : (!(lb.toList == lb.toList)) = false := by rw [beq_self_eq_true]; rfl
  have d3 : (!(xb.toList == xb.toList)) = false := by rw [beq_self_eq_true]; rfl
  have d4 : (pe != pe) = false := bne_self_eq_false _
  have d5 : (le != le) = false := bne_self_eq_false _
  have d6 : (xe != xe) = false := bne_self_eq_false _
  have d7 : (oe == oe) = true := BEq.rfl
  have d8 : (ob == ob) = true := BEq.rfl
  refine Wp.seq (Wp.text ?_)
  refine kp 4 (.bool false) ?_
  refine WpOps.nil (thenK_at (Wp.seq (Wp.text ?_)))
  refine kp 12 (.string s) ?_
  refine fr 13 20 [Value.string s] ?_
  refine WpFun.of (c1) ?_
  refine kp 11 (.tuple #[Value.string pb, Value.int .i64 pe]) ?_
  refine kp 14 (.string pb) ?_
  refine kp 15 (.int IntKind.i64 pe) ?_
  refine kp 5 (.string pb) ?_
  refine kp 6 (.int IntKind.i64 pe) ?_
  refine WpOps.nil (thenK_at (Wp.seq (Wp.text ?_)))
  refine kp 17 (.string s) ?_
  refine fr 18 21 [Value.string s] ?_
  refine WpFun.of (c2) ?_
  refine kp 16 (.tuple #[Value.string pb, Value.int .i64 pe]) ?_
  refine kp 19 (.string pb) ?_
  refine kp 20 (.int IntKind.i64 pe) ?_
  refine kp 7 (.string pb) ?_
  refine kp 8 (.int IntKind.i64 pe) ?_
  refine WpOps.nil (thenK_at (Wp.seq (Wp.seq (Wp.text ?_))))
  refine kp 21 (.string pb) ?_
  refine kp 22 (.string pb) ?_
  refine kp 23 (.bool false) ?_ (hop := fun _ => by_fact d1)
  refine kp 24 (.bool false) ?_
  refine kp 25 (.int IntKind.i64 pe) ?_
  refine kp 26 (.int IntKind.i64 pe) ?_
  refine kp 27 (.bool false) ?_ (hop := fun _ => by_fact d4)
  refine kp 28 (.bool false) ?_
  refine WpOps.nil (thenK_at (off' (Wp.skip (thenK_at (Wp.seq (Wp.text ?_))))))
  refine kp 30 (.string s) ?_
  refine kp 31 (.int IntKind.i64 n) ?_
  refine fr 32 22 [Value.string s, Value.int .i64 n] ?_
  refine WpFun.of (c3) ?_
  refine kp 29 (.tuple #[Value.string lb, Value.int .i64 le]) ?_
  refine kp 33 (.string lb) ?_
  refine kp 34 (.int IntKind.i64 le) ?_
  refine kp 5 (.string lb) ?_
  refine kp 6 (.int IntKind.i64 le) ?_
  refine WpOps.nil (thenK_at (Wp.seq (Wp.text ?_)))
  refine kp 36 (.string s) ?_
  refine kp 37 (.int IntKind.i64 n) ?_
  refine fr 38 23 [Value.string s, Value.int .i64 n] ?_
  refine WpFun.of (c4) ?_
  refine kp 35 (.tuple #[Value.string lb, Value.int .i64 le]) ?_
  refine kp 39 (.string lb) ?_
  refine kp 40 (.int IntKind.i64 le) ?_
  refine kp 7 (.string lb) ?_
  refine kp 8 (.int IntKind.i64 le) ?_
  refine WpOps.nil (thenK_at (Wp.seq (Wp.seq (Wp.text ?_))))
  refine kp 41 (.string lb) ?_
  refine kp 42 (.string lb) ?_
  refine kp 43 (.bool false) ?_ (hop := fun _ => by_fact d2)
  refine kp 44 (.bool false) ?_
  refine kp 45 (.int IntKind.i64 le) ?_
  refine kp 46 (.int IntKind.i64 le) ?_
  refine kp 47 (.bool false) ?_ (hop := fun _ => by_fact d5)
  refine kp 48 (.bool false) ?_
  refine WpOps.nil (thenK_at (off' (Wp.skip (thenK_at (Wp.seq (Wp.text ?_))))))
  refine kp 50 (.string s) ?_
  refine kp 51 (.int IntKind.i64 n) ?_
  refine fr 52 24 [Value.string s, Value.int .i64 n] ?_
  refine WpFun.of (c5) ?_
  refine kp 49 (.tuple #[Value.string xb, Value.int .i64 xe]) ?_
  refine kp 53 (.string xb) ?_
  refine kp 54 (.int IntKind.i64 xe) ?_
  refine kp 5 (.string xb) ?_
  refine kp 6 (.int IntKind.i64 xe) ?_
  refine WpOps.nil (thenK_at (Wp.seq (Wp.text ?_)))
  refine kp 56 (.string s) ?_
  refine kp 57 (.int IntKind.i64 n) ?_
  refine fr 58 25 [Value.string s, Value.int .i64 n] ?_
  refine WpFun.of (c6) ?_
  refine kp 55 (.tuple #[Value.string xb, Value.int .i64 xe]) ?_
  refine kp 59 (.string xb) ?_
  refine kp 60 (.int IntKind.i64 xe) ?_
  refine kp 7 (.string xb) ?_
  refine kp 8 (.int IntKind.i64 xe) ?_
  refine WpOps.nil (thenK_at (Wp.seq (Wp.seq (Wp.text ?_))))
  refine kp 61 (.string xb) ?_
  refine kp 62 (.string xb) ?_
  refine kp 63 (.bool false) ?_ (hop := fun _ => by_fact d3)
  refine kp 64 (.bool false) ?_
  refine kp 65 (.int IntKind.i64 xe) ?_
  refine kp 66 (.int IntKind.i64 xe) ?_
  refine kp 67 (.bool false) ?_ (hop := fun _ => by_fact d6)
  refine kp 68 (.bool false) ?_
  refine WpOps.nil (thenK_at (off' (Wp.skip (thenK_at (Wp.seq (Wp.text ?_))))))
  refine kp 70 (.string s) ?_
  refine fr 71 26 [Value.string s] ?_
  refine WpFun.of (c7) ?_
  refine kp 69 (.tuple #[Value.int .i64 ob, Value.int .i64 oe]) ?_
  refine kp 72 (.int IntKind.i64 ob) ?_
  refine kp 73 (.int IntKind.i64 oe) ?_
  refine kp 9 (.int IntKind.i64 ob) ?_
  refine kp 6 (.int IntKind.i64 oe) ?_
  refine WpOps.nil (thenK_at (Wp.seq (Wp.text ?_)))
  refine kp 75 (.string s) ?_
  refine fr 76 27 [Value.string s] ?_
  refine WpFun.of (c8) ?_
  refine kp 74 (.tuple #[Value.int .i64 ob, Value.int .i64 oe]) ?_
  refine kp 77 (.int IntKind.i64 ob) ?_
  refine kp 78 (.int IntKind.i64 oe) ?_
  refine kp 10 (.int IntKind.i64 ob) ?_
  refine kp 8 (.int IntKind.i64 oe) ?_
  refine WpOps.nil (thenK_at (Wp.seq (Wp.text ?_)))
  refine kp 79 (.int IntKind.i64 ob) ?_
  refine kp 80 (.int IntKind.i64 ob) ?_
  refine kp 81 (.bool true) ?_ (hop := fun _ => by_fact d8)
  refine kp 82 (.bool true) ?_
  refine kp 83 (.int IntKind.i64 oe) ?_
  refine kp 84 (.int IntKind.i64 oe) ?_
  refine kp 85 (.bool true) ?_ (hop := fun _ => by_fact d7)
  refine kp 86 (.bool true) ?_
  refine kp 87 (.bool true) ?_
  refine fr 88 13 [] ?_
  refine WpFun.of (c9) ?_
  refine kp 89 (.bool true) ?_
  refine kp 4 (.bool true) ?_
  refine WpOps.nil (thenK_at (Wp.ret ?_))
  refine endK_retn [Value.bool true] (Value.bool true) (by kernel_rfl) (by kernel_rfl) ?_
  rfl
end Go.Proofs.YthhlfddpacmhfaaDoor.D
