/- The document's fates. -/
import Derived.Test.YtdkmdpklojeepaaFwLem
import Derived.Test.YtdkmdpklojeepaaFwMore
import Derived.Test.YtdkmdpklojeepaaF09c
namespace Go.Proofs.Ytdkmdpklojeepaa.D
open Go.Fw Go.RowKit

theorem f9 : E.funcs 9 = some Try.f9 := by kernel_rfl
theorem mod9 (x : Int) (n : Nat) (hn : 0 < n) (h : n ≤ 1000) : Fun E 9 [.int .i64 x, .int .i64 n] (.int .i64 (modN x n)) := by
  refine Fun.of f9 rfl (of_decide_eq_true (by kernel_rfl)) rfl ?_
  have c0 : decide ((n : Int) < 1) = false := decide_eq_false (by omega)
  have n0 : ¬ (n : Int) = 0 := by omega
  have h1 := Int.tmod_lt_of_pos x (b := n) (by omega)
  have h2 := Int.lt_tmod_of_pos x (b := n) (by omega)
  refine Wp.seq (Wp.text ?_)
  refine kp 4 (.int IntKind.i64 0) ?_
  refine WpOps.nil (thenK_at (Wp.seq (Wp.seq (Wp.text ?_))))
  refine kp 6 (.int IntKind.i64 (↑n : Int)) ?_
  refine kp 7 (.bool false) ?_ (hop := fun _ => by_fact c0)
  refine WpOps.nil (thenK_at (off' (Wp.skip (thenK_at (Wp.seq (Wp.text ?_))))))
  refine kp 8 (.int IntKind.i64 x) ?_
  refine kp 9 (.int IntKind.i64 (↑n : Int)) ?_
  refine kp 10 (.int IntKind.i64 (Int.tmod x (↑n : Int))) ?_ (hop := fun _ => o_rem n0)
  refine kp 5 (.int IntKind.i64 (Int.tmod x (↑n : Int))) ?_
  refine WpOps.nil (thenK_at (Wp.seq (Wp.seq (Wp.text ?_))))
  refine kp 11 (.int IntKind.i64 (Int.tmod x (↑n : Int))) ?_
  refine kp 12 (.bool (decide (Int.tmod x (↑n : Int) < 0))) ?_
  refine WpOps.nil (thenK_at ?_)
  refine Wp.split (decide (Int.tmod x (↑n : Int) < 0)) (by kernel_rfl) (fun hc => ?_) (fun hc => ?_)
  · have hl := of_decide_eq_true hc
    have hm : modN x n = x.tmod n + n := if_pos hl
    have hw : IntKind.i64.wrap (x.tmod n + n) = modN x n := by rw [hm, wr _ (by omega) (by omega)]
    refine Wp.text ?_
    refine kp 13 (.int IntKind.i64 (Int.tmod x (↑n : Int))) ?_
    refine kp 14 (.int IntKind.i64 (↑n : Int)) ?_
    refine kp 15 (.int IntKind.i64 (IntKind.wrap .i64 (Int.tmod x (↑n : Int) + (↑n : Int)))) ?_
    refine kp 5 (.int IntKind.i64 (IntKind.wrap .i64 (Int.tmod x (↑n : Int) + (↑n : Int)))) ?_
    refine WpOps.nil (thenK_at (Wp.seq (Wp.text ?_)))
    refine kp 16 (.int IntKind.i64 (IntKind.wrap .i64 (Int.tmod x (↑n : Int) + (↑n : Int)))) ?_
    refine kp 4 (.int IntKind.i64 (IntKind.wrap .i64 (Int.tmod x (↑n : Int) + (↑n : Int)))) ?_
    refine WpOps.nil (thenK_at (Wp.ret ?_))
    refine endK_retn [Value.int IntKind.i64 (IntKind.wrap IntKind.i64 (Int.tmod x (↑n : Int) + (↑n : Int)))] (Value.int IntKind.i64 (IntKind.wrap IntKind.i64 (Int.tmod x (↑n : Int) + (↑n : Int)))) (by kernel_rfl) (by kernel_rfl) ?_
    rw [hw]
    rfl
  · have hm : modN x n = x.tmod n := if_neg (of_decide_eq_false hc)
    refine Wp.skip (thenK_at (Wp.seq (Wp.text ?_)))
    refine kp 16 (.int IntKind.i64 (Int.tmod x (↑n : Int))) ?_
    refine kp 4 (.int IntKind.i64 (Int.tmod x (↑n : Int))) ?_
    refine WpOps.nil (thenK_at (Wp.ret ?_))
    refine endK_retn [Value.int IntKind.i64 (Int.tmod x (↑n : Int))] (Value.int IntKind.i64 (Int.tmod x (↑n : Int))) (by kernel_rfl) (by kernel_rfl) ?_
    rw [hm]
    rfl
theorem f61 : E.funcs 61 = some Try.f61 := by kernel_rfl
theorem floor61 (x : Int) (hx : -9223372036854775808 ≤ x ∧ x ≤ 9223372036854775807) : Fun E 61 [.int .i64 x, .int .i64 16] (.int .i64 (x / 16)) := by
  refine Fun.of f61 rfl (of_decide_eq_true (by kernel_rfl)) rfl ?_
  have n0 : ¬ (16 : Int) = 0 := by decide
  have e1 : x.tdiv 16 = if x.tmod 16 < 0 then x / 16 + 1 else x / 16 := by
    rw [Int.tmod_def, Int.tdiv_eq_ediv]
    have hs : Int.sign 16 = 1 := rfl
    rw [hs]
    by_cases h : 0 ≤ x ∨ (16 : Int) ∣ x
    · rw [if_pos h]
      have := Int.emod_nonneg x (b := 16) (by decide)
      split <;> omega
    · rw [if_neg h]
      have := Int.emod_nonneg x (b := 16) (by decide)
      split <;> omega
  have w1 : IntKind.i64.wrap (x.tdiv 16) = x.tdiv 16 := by
    rw [IntKind.wrap_i64]
    split at e1 <;> omega
  refine Wp.seq (Wp.text ?_)
  refine kp 4 (.int IntKind.i64 0) ?_
  refine WpOps.nil (thenK_at (Wp.seq (Wp.text ?_)))
  refine kp 6 (.int IntKind.i64 x) ?_
  refine kp 7 (.int IntKind.i64 16) ?_
  refine kp 8 (.int IntKind.i64 (IntKind.wrap .i64 (Int.tdiv x 16))) ?_ (hop := fun _ => o_quo n0)
  refine kp 5 (.int IntKind.i64 (IntKind.wrap .i64 (Int.tdiv x 16))) ?_
  refine WpOps.nil (thenK_at (Wp.seq (Wp.seq (Wp.text ?_))))
  refine kp 9 (.int IntKind.i64 x) ?_
  refine kp 10 (.int IntKind.i64 16) ?_
  refine kp 11 (.int IntKind.i64 (Int.tmod x 16)) ?_ (hop := fun _ => o_rem n0)
  refine kp 12 (.bool (decide (Int.tmod x 16 < 0))) ?_
  refine WpOps.nil (thenK_at ?_)
  refine Wp.split (decide (Int.tmod x 16 < 0)) (by kernel_rfl) (fun hc => ?_) (fun hc => ?_)
  · have hl := of_decide_eq_true hc
    rw [if_pos hl] at e1
    have e2 : IntKind.i64.wrap (IntKind.i64.wrap (x.tdiv 16) - 1) = x / 16 := by rw [w1, e1, IntKind.wrap_i64]; omega
    refine Wp.text ?_
    refine kp 13 (.int IntKind.i64 (IntKind.wrap .i64 (Int.tdiv x 16))) ?_
    refine kp 14 (.int IntKind.i64 (IntKind.wrap .i64 (IntKind.wrap .i64 (Int.tdiv x 16) - 1))) ?_
    refine kp 5 (.int IntKind.i64 (IntKind.wrap .i64 (IntKind.wrap .i64 (Int.tdiv x 16) - 1))) ?_
    refine WpOps.nil (thenK_at (Wp.seq (Wp.text ?_)))
    refine kp 15 (.int IntKind.i64 (IntKind.wrap .i64 (IntKind.wrap .i64 (Int.tdiv x 16) - 1))) ?_
    refine kp 4 (.int IntKind.i64 (IntKind.wrap .i64 (IntKind.wrap .i64 (Int.tdiv x 16) - 1))) ?_
    refine WpOps.nil (thenK_at (Wp.ret ?_))
    refine endK_retn [Value.int IntKind.i64 (IntKind.wrap IntKind.i64 (IntKind.wrap IntKind.i64 (Int.tdiv x 16) - 1))] (Value.int IntKind.i64 (IntKind.wrap IntKind.i64 (IntKind.wrap IntKind.i64 (Int.tdiv x 16) - 1))) (by kernel_rfl) (by kernel_rfl) ?_
    rw [e2]
    rfl
  · have hl := of_decide_eq_false hc
    rw [if_neg hl] at e1
    refine Wp.skip (thenK_at (Wp.seq (Wp.text ?_)))
    refine kp 15 (.int IntKind.i64 (IntKind.wrap .i64 (Int.tdiv x 16))) ?_
    refine kp 4 (.int IntKind.i64 (IntKind.wrap .i64 (Int.tdiv x 16))) ?_
    refine WpOps.nil (thenK_at (Wp.ret ?_))
    refine endK_retn [Value.int IntKind.i64 (IntKind.wrap IntKind.i64 (Int.tdiv x 16))] (Value.int IntKind.i64 (IntKind.wrap IntKind.i64 (Int.tdiv x 16))) (by kernel_rfl) (by kernel_rfl) ?_
    rw [w1, e1]
    rfl
def ofC (mild : Bool) (x : Int) : List Value :=
  if modN x 16 = 0 ∨ modN x 16 = 1 then [.bool !mild, .int .i64 0, .int .i64 0, .int .i64 (-1)]
  else if modN x 16 = 2 then [.bool false, .int .i64 1, .int .i64 0, .int .i64 (-1)]
  else if modN x 16 = 3 then [.bool false, .int .i64 (1 + modN (x / 16) 3), .int .i64 0, .int .i64 (-1)]
  else if modN x 16 = 4 ∨ modN x 16 = 5 then [.bool false, .int .i64 0, .int .i64 (modN (x / 16) 21), .int .i64 (-1)]
  else if modN x 16 = 6 then [.bool false, .int .i64 0, .int .i64 0, .int .i64 (if mild then -1 else modN (x / 16) 50)]
  else if modN x 16 = 7 then [.bool false, .int .i64 1, .int .i64 (modN (x / 16) 8), .int .i64 (-1)]
  else [.bool false, .int .i64 0, .int .i64 0, .int .i64 (-1)]
theorem ofC_flat (mild : Bool) (x : Int) : (ofC mild x).all flat = true := by
  unfold ofC
  repeat' (first | rfl | split)
theorem f59 : E.funcs 59 = some Try.f59 := by kernel_rfl
theorem of59_0t (x : Int) (hx : -9223372036854775808 ≤ x ∧ x ≤ 9223372036854775807) (h : modN x 16 = 0) : Fun E 59 [.int .i64 x, .bool true] (.agg (ofC true x).toArray) := by
  have c1 := mod9 x 16 (by decide) (by decide)
  have c2 := floor61 x hx
  unfold ofC
  rw [if_pos (.inl h)]
  rw [h] at c1
  refine Fun.of f59 rfl (of_decide_eq_true (by kernel_rfl)) rfl ?_
  refine Wp.seq (Wp.text ?_)
  refine md 4 (.pointer (some ⟨0, 0, none⟩)) (Blk.mk 36 true [Value.bool false, Value.int .i64 0, Value.int .i64 0, Value.int .i64 0]) ?_
  refine WpOps.nil (thenK_at (Wp.seq (Wp.text ?_)))
  refine kp 8 (.int IntKind.i64 x) ?_
  refine fr 9 9 [Value.int .i64 x, Value.int .i64 16] ?_
  refine WpFun.of (c1) ?_
  refine kp 5 (.int IntKind.i64 0) ?_
  refine WpOps.nil (thenK_at (Wp.seq (Wp.text ?_)))
  refine kp 10 (.int IntKind.i64 x) ?_
  refine fr 11 61 [Value.int .i64 x, Value.int .i64 16] ?_
  refine WpFun.of (c2) ?_
  refine kp 6 (.int IntKind.i64 (x / 16)) ?_
  refine WpOps.nil (thenK_at (Wp.seq (Wp.text ?_)))
  refine kp 12 (.agg #[Value.bool false, Value.int .i64 0, Value.int .i64 0, Value.int .i64 (-1)]) ?_
  refine md 7 (.pointer (some ⟨1, 0, none⟩)) (Blk.mk 36 true [Value.bool false, Value.int .i64 0, Value.int .i64 0, Value.int .i64 0]) ?_
  refine ld (.tuple #[]) (1) (Blk.mk 36 true [Value.bool false, Value.int .i64 0, Value.int .i64 0, Value.int .i64 (-1)]) ?_
  refine WpOps.nil (thenK_at (Wp.seq (Wp.seq (Wp.text ?_))))
  refine kp 13 (.int IntKind.i64 0) ?_
  refine WpOps.nil (thenK_at (Wp.block (Wp.seq (Wp.seq (Wp.text ?_)))))
  refine kp 15 (.bool true) ?_
  refine kp 14 (.bool true) ?_
  refine WpOps.nil (thenK_at (on' (Wp.skip (thenK_at (on' (Wp.text ?_))))))
  refine kp 17 (.bool true) ?_
  refine kp 18 (.bool false) ?_
  refine kp 19 (.pointer (some ⟨1, 0, none⟩)) ?_
  refine ld (.tuple #[]) (1) (Blk.mk 36 true [Value.bool false, Value.int .i64 0, Value.int .i64 0, Value.int .i64 (-1)]) ?_
  refine WpOps.nil (blockK_norm (thenK_at (Wp.seq (Wp.text ?_))))
  refine kp 48 (.agg #[Value.bool false, Value.int .i64 0, Value.int .i64 0, Value.int .i64 (-1)]) ?_
  refine ld (.tuple #[]) (0) (Blk.mk 36 true [Value.bool false, Value.int .i64 0, Value.int .i64 0, Value.int .i64 (-1)]) ?_
  refine WpOps.nil (thenK_at (Wp.ret ?_))
  refine endK_retn [Value.agg #[Value.bool false, Value.int IntKind.i64 0, Value.int IntKind.i64 0, Value.int IntKind.i64 (-1)]] (Value.agg #[Value.bool false, Value.int IntKind.i64 0, Value.int IntKind.i64 0, Value.int IntKind.i64 (-1)]) (by kernel_rfl) (by kernel_rfl) ?_
  rfl
theorem of59_0f (x : Int) (hx : -9223372036854775808 ≤ x ∧ x ≤ 9223372036854775807) (h : modN x 16 = 0) : Fun E 59 [.int .i64 x, .bool false] (.agg (ofC false x).toArray) := by
  have c1 := mod9 x 16 (by decide) (by decide)
  have c2 := floor61 x hx
  unfold ofC
  rw [if_pos (.inl h)]
  rw [h] at c1
  refine Fun.of f59 rfl (of_decide_eq_true (by kernel_rfl)) rfl ?_
  refine Wp.seq (Wp.text ?_)
  refine md 4 (.pointer (some ⟨0, 0, none⟩)) (Blk.mk 36 true [Value.bool false, Value.int .i64 0, Value.int .i64 0, Value.int .i64 0]) ?_
  refine WpOps.nil (thenK_at (Wp.seq (Wp.text ?_)))
  refine kp 8 (.int IntKind.i64 x) ?_
  refine fr 9 9 [Value.int .i64 x, Value.int .i64 16] ?_
  refine WpFun.of (c1) ?_
  refine kp 5 (.int IntKind.i64 0) ?_
  refine WpOps.nil (thenK_at (Wp.seq (Wp.text ?_)))
  refine kp 10 (.int IntKind.i64 x) ?_
  refine fr 11 61 [Value.int .i64 x, Value.int .i64 16] ?_
  refine WpFun.of (c2) ?_
  refine kp 6 (.int IntKind.i64 (x / 16)) ?_
  refine WpOps.nil (thenK_at (Wp.seq (Wp.text ?_)))
  refine kp 12 (.agg #[Value.bool false, Value.int .i64 0, Value.int .i64 0, Value.int .i64 (-1)]) ?_
  refine md 7 (.pointer (some ⟨1, 0, none⟩)) (Blk.mk 36 true [Value.bool false, Value.int .i64 0, Value.int .i64 0, Value.int .i64 0]) ?_
  refine ld (.tuple #[]) (1) (Blk.mk 36 true [Value.bool false, Value.int .i64 0, Value.int .i64 0, Value.int .i64 (-1)]) ?_
  refine WpOps.nil (thenK_at (Wp.seq (Wp.seq (Wp.text ?_))))
  refine kp 13 (.int IntKind.i64 0) ?_
  refine WpOps.nil (thenK_at (Wp.block (Wp.seq (Wp.seq (Wp.text ?_)))))
  refine kp 15 (.bool true) ?_
  refine kp 14 (.bool true) ?_
  refine WpOps.nil (thenK_at (on' (Wp.skip (thenK_at (on' (Wp.text ?_))))))
  refine kp 17 (.bool false) ?_
  refine kp 18 (.bool true) ?_
  refine kp 19 (.pointer (some ⟨1, 0, none⟩)) ?_
  refine ld (.tuple #[]) (1) (Blk.mk 36 true [Value.bool true, Value.int .i64 0, Value.int .i64 0, Value.int .i64 (-1)]) ?_
  refine WpOps.nil (blockK_norm (thenK_at (Wp.seq (Wp.text ?_))))
  refine kp 48 (.agg #[Value.bool true, Value.int .i64 0, Value.int .i64 0, Value.int .i64 (-1)]) ?_
  refine ld (.tuple #[]) (0) (Blk.mk 36 true [Value.bool true, Value.int .i64 0, Value.int .i64 0, Value.int .i64 (-1)]) ?_
  refine WpOps.nil (thenK_at (Wp.ret ?_))
  refine endK_retn [Value.agg #[Value.bool true, Value.int IntKind.i64 0, Value.int IntKind.i64 0, Value.int IntKind.i64 (-1)]] (Value.agg #[Value.bool true, Value.int IntKind.i64 0, Value.int IntKind.i64 0, Value.int IntKind.i64 (-1)]) (by kernel_rfl) (by kernel_rfl) ?_
  rfl
theorem of59_1t (x : Int) (hx : -9223372036854775808 ≤ x ∧ x ≤ 9223372036854775807) (h : modN x 16 = 1) : Fun E 59 [.int .i64 x, .bool true] (.agg (ofC true x).toArray) := by
  have c1 := mod9 x 16 (by decide) (by decide)
  have c2 := floor61 x hx
  unfold ofC
  rw [if_pos (.inr h)]
  rw [h] at c1
  refine Fun.of f59 rfl (of_decide_eq_true (by kernel_rfl)) rfl ?_
  refine Wp.seq (Wp.text ?_)
  refine md 4 (.pointer (some ⟨0, 0, none⟩)) (Blk.mk 36 true [Value.bool false, Value.int .i64 0, Value.int .i64 0, Value.int .i64 0]) ?_
  refine WpOps.nil (thenK_at (Wp.seq (Wp.text ?_)))
  refine kp 8 (.int IntKind.i64 x) ?_
  refine fr 9 9 [Value.int .i64 x, Value.int .i64 16] ?_
  refine WpFun.of (c1) ?_
  refine kp 5 (.int IntKind.i64 1) ?_
  refine WpOps.nil (thenK_at (Wp.seq (Wp.text ?_)))
  refine kp 10 (.int IntKind.i64 x) ?_
  refine fr 11 61 [Value.int .i64 x, Value.int .i64 16] ?_
  refine WpFun.of (c2) ?_
  refine kp 6 (.int IntKind.i64 (x / 16)) ?_
  refine WpOps.nil (thenK_at (Wp.seq (Wp.text ?_)))
  refine kp 12 (.agg #[Value.bool false, Value.int .i64 0, Value.int .i64 0, Value.int .i64 (-1)]) ?_
  refine md 7 (.pointer (some ⟨1, 0, none⟩)) (Blk.mk 36 true [Value.bool false, Value.int .i64 0, Value.int .i64 0, Value.int .i64 0]) ?_
  refine ld (.tuple #[]) (1) (Blk.mk 36 true [Value.bool false, Value.int .i64 0, Value.int .i64 0, Value.int .i64 (-1)]) ?_
  refine WpOps.nil (thenK_at (Wp.seq (Wp.seq (Wp.text ?_))))
  refine kp 13 (.int IntKind.i64 1) ?_
  refine WpOps.nil (thenK_at (Wp.block (Wp.seq (Wp.seq (Wp.text ?_)))))
  refine kp 15 (.bool false) ?_
  refine kp 14 (.bool false) ?_
  refine WpOps.nil (thenK_at (off' (Wp.text ?_)))
  refine kp 16 (.bool true) ?_
  refine kp 14 (.bool true) ?_
  refine WpOps.nil (thenK_at (on' (Wp.text ?_)))
  refine kp 17 (.bool true) ?_
  refine kp 18 (.bool false) ?_
  refine kp 19 (.pointer (some ⟨1, 0, none⟩)) ?_
  refine ld (.tuple #[]) (1) (Blk.mk 36 true [Value.bool false, Value.int .i64 0, Value.int .i64 0, Value.int .i64 (-1)]) ?_
  refine WpOps.nil (blockK_norm (thenK_at (Wp.seq (Wp.text ?_))))
  refine kp 48 (.agg #[Value.bool false, Value.int .i64 0, Value.int .i64 0, Value.int .i64 (-1)]) ?_
  refine ld (.tuple #[]) (0) (Blk.mk 36 true [Value.bool false, Value.int .i64 0, Value.int .i64 0, Value.int .i64 (-1)]) ?_
  refine WpOps.nil (thenK_at (Wp.ret ?_))
  refine endK_retn [Value.agg #[Value.bool false, Value.int IntKind.i64 0, Value.int IntKind.i64 0, Value.int IntKind.i64 (-1)]] (Value.agg #[Value.bool false, Value.int IntKind.i64 0, Value.int IntKind.i64 0, Value.int IntKind.i64 (-1)]) (by kernel_rfl) (by kernel_rfl) ?_
  rfl
theorem of59_1f (x : Int) (hx : -9223372036854775808 ≤ x ∧ x ≤ 9223372036854775807) (h : modN x 16 = 1) : Fun E 59 [.int .i64 x, .bool false] (.agg (ofC false x).toArray) := by
  have c1 := mod9 x 16 (by decide) (by decide)
  have c2 := floor61 x hx
  unfold ofC
  rw [if_pos (.inr h)]
  rw [h] at c1
  refine Fun.of f59 rfl (of_decide_eq_true (by kernel_rfl)) rfl ?_
  refine Wp.seq (Wp.text ?_)
  refine md 4 (.pointer (some ⟨0, 0, none⟩)) (Blk.mk 36 true [Value.bool false, Value.int .i64 0, Value.int .i64 0, Value.int .i64 0]) ?_
  refine WpOps.nil (thenK_at (Wp.seq (Wp.text ?_)))
  refine kp 8 (.int IntKind.i64 x) ?_
  refine fr 9 9 [Value.int .i64 x, Value.int .i64 16] ?_
  refine WpFun.of (c1) ?_
  refine kp 5 (.int IntKind.i64 1) ?_
  refine WpOps.nil (thenK_at (Wp.seq (Wp.text ?_)))
  refine kp 10 (.int IntKind.i64 x) ?_
  refine fr 11 61 [Value.int .i64 x, Value.int .i64 16] ?_
  refine WpFun.of (c2) ?_
  refine kp 6 (.int IntKind.i64 (x / 16)) ?_
  refine WpOps.nil (thenK_at (Wp.seq (Wp.text ?_)))
  refine kp 12 (.agg #[Value.bool false, Value.int .i64 0, Value.int .i64 0, Value.int .i64 (-1)]) ?_
  refine md 7 (.pointer (some ⟨1, 0, none⟩)) (Blk.mk 36 true [Value.bool false, Value.int .i64 0, Value.int .i64 0, Value.int .i64 0]) ?_
  refine ld (.tuple #[]) (1) (Blk.mk 36 true [Value.bool false, Value.int .i64 0, Value.int .i64 0, Value.int .i64 (-1)]) ?_
  refine WpOps.nil (thenK_at (Wp.seq (Wp.seq (Wp.text ?_))))
  refine kp 13 (.int IntKind.i64 1) ?_
  refine WpOps.nil (thenK_at (Wp.block (Wp.seq (Wp.seq (Wp.text ?_)))))
  refine kp 15 (.bool false) ?_
  refine kp 14 (.bool false) ?_
  refine WpOps.nil (thenK_at (off' (Wp.text ?_)))
  refine kp 16 (.bool true) ?_
  refine kp 14 (.bool true) ?_
  refine WpOps.nil (thenK_at (on' (Wp.text ?_)))
  refine kp 17 (.bool false) ?_
  refine kp 18 (.bool true) ?_
  refine kp 19 (.pointer (some ⟨1, 0, none⟩)) ?_
  refine ld (.tuple #[]) (1) (Blk.mk 36 true [Value.bool true, Value.int .i64 0, Value.int .i64 0, Value.int .i64 (-1)]) ?_
  refine WpOps.nil (blockK_norm (thenK_at (Wp.seq (Wp.text ?_))))
  refine kp 48 (.agg #[Value.bool true, Value.int .i64 0, Value.int .i64 0, Value.int .i64 (-1)]) ?_
  refine ld (.tuple #[]) (0) (Blk.mk 36 true [Value.bool true, Value.int .i64 0, Value.int .i64 0, Value.int .i64 (-1)]) ?_
  refine WpOps.nil (thenK_at (Wp.ret ?_))
  refine endK_retn [Value.agg #[Value.bool true, Value.int IntKind.i64 0, Value.int IntKind.i64 0, Value.int IntKind.i64 (-1)]] (Value.agg #[Value.bool true, Value.int IntKind.i64 0, Value.int IntKind.i64 0, Value.int IntKind.i64 (-1)]) (by kernel_rfl) (by kernel_rfl) ?_
  rfl
theorem of59_2 (mild : Bool) (x : Int) (hx : -9223372036854775808 ≤ x ∧ x ≤ 9223372036854775807) (h : modN x 16 = 2) : Fun E 59 [.int .i64 x, .bool mild] (.agg (ofC mild x).toArray) := by
  have c1 := mod9 x 16 (by decide) (by decide)
  have c2 := floor61 x hx
  unfold ofC
  rw [if_neg (by omega), if_pos h]
  rw [h] at c1
  refine Fun.of f59 rfl (of_decide_eq_true (by kernel_rfl)) rfl ?_
  refine Wp.seq (Wp.text ?_)
  refine md 4 (.pointer (some ⟨0, 0, none⟩)) (Blk.mk 36 true [Value.bool false, Value.int .i64 0, Value.int .i64 0, Value.int .i64 0]) ?_
  refine WpOps.nil (thenK_at (Wp.seq (Wp.text ?_)))
  refine kp 8 (.int IntKind.i64 x) ?_
  refine fr 9 9 [Value.int .i64 x, Value.int .i64 16] ?_
  refine WpFun.of (c1) ?_
  refine kp 5 (.int IntKind.i64 2) ?_
  refine WpOps.nil (thenK_at (Wp.seq (Wp.text ?_)))
  refine kp 10 (.int IntKind.i64 x) ?_
  refine fr 11 61 [Value.int .i64 x, Value.int .i64 16] ?_
  refine WpFun.of (c2) ?_
  refine kp 6 (.int IntKind.i64 (x / 16)) ?_
  refine WpOps.nil (thenK_at (Wp.seq (Wp.text ?_)))
  refine kp 12 (.agg #[Value.bool false, Value.int .i64 0, Value.int .i64 0, Value.int .i64 (-1)]) ?_
  refine md 7 (.pointer (some ⟨1, 0, none⟩)) (Blk.mk 36 true [Value.bool false, Value.int .i64 0, Value.int .i64 0, Value.int .i64 0]) ?_
  refine ld (.tuple #[]) (1) (Blk.mk 36 true [Value.bool false, Value.int .i64 0, Value.int .i64 0, Value.int .i64 (-1)]) ?_
  refine WpOps.nil (thenK_at (Wp.seq (Wp.seq (Wp.text ?_))))
  refine kp 13 (.int IntKind.i64 2) ?_
  refine WpOps.nil (thenK_at (Wp.block (Wp.seq (Wp.seq (Wp.text ?_)))))
  refine kp 15 (.bool false) ?_
  refine kp 14 (.bool false) ?_
  refine WpOps.nil (thenK_at (off' (Wp.text ?_)))
  refine kp 16 (.bool false) ?_
  refine kp 14 (.bool false) ?_
  refine WpOps.nil (thenK_at (off' (Wp.seq (Wp.text ?_))))
  refine kp 21 (.bool true) ?_
  refine kp 20 (.bool true) ?_
  refine WpOps.nil (thenK_at (on' (Wp.text ?_)))
  refine kp 22 (.pointer (some ⟨1, 1, none⟩)) ?_
  refine ld (.tuple #[]) (1) (Blk.mk 36 true [Value.bool false, Value.int .i64 1, Value.int .i64 0, Value.int .i64 (-1)]) ?_
  refine WpOps.nil (blockK_norm (thenK_at (Wp.seq (Wp.text ?_))))
  refine kp 48 (.agg #[Value.bool false, Value.int .i64 1, Value.int .i64 0, Value.int .i64 (-1)]) ?_
  refine ld (.tuple #[]) (0) (Blk.mk 36 true [Value.bool false, Value.int .i64 1, Value.int .i64 0, Value.int .i64 (-1)]) ?_
  refine WpOps.nil (thenK_at (Wp.ret ?_))
  refine endK_retn [Value.agg #[Value.bool false, Value.int IntKind.i64 1, Value.int IntKind.i64 0, Value.int IntKind.i64 (-1)]] (Value.agg #[Value.bool false, Value.int IntKind.i64 1, Value.int IntKind.i64 0, Value.int IntKind.i64 (-1)]) (by kernel_rfl) (by kernel_rfl) ?_
  rfl
theorem of59_3 (mild : Bool) (x : Int) (hx : -9223372036854775808 ≤ x ∧ x ≤ 9223372036854775807) (h : modN x 16 = 3) : Fun E 59 [.int .i64 x, .bool mild] (.agg (ofC mild x).toArray) := by
  have c1 := mod9 x 16 (by decide) (by decide)
  have c2 := floor61 x hx
  have c3 := mod9 (x / 16) 3 (by decide) (by decide)
  have hm := modN_in (x / 16) 3 (by decide)
  have e3 : IntKind.i64.wrap (1 + modN (x / 16) 3) = 1 + modN (x / 16) 3 := wr _ (by omega) (by omega)
  unfold ofC
  rw [if_neg (by omega), if_neg (by omega), if_pos h]
  rw [h] at c1
  refine Fun.of f59 rfl (of_decide_eq_true (by kernel_rfl)) rfl ?_
  refine Wp.seq (Wp.text ?_)
  refine md 4 (.pointer (some ⟨0, 0, none⟩)) (Blk.mk 36 true [Value.bool false, Value.int .i64 0, Value.int .i64 0, Value.int .i64 0]) ?_
  refine WpOps.nil (thenK_at (Wp.seq (Wp.text ?_)))
  refine kp 8 (.int IntKind.i64 x) ?_
  refine fr 9 9 [Value.int .i64 x, Value.int .i64 16] ?_
  refine WpFun.of (c1) ?_
  refine kp 5 (.int IntKind.i64 3) ?_
  refine WpOps.nil (thenK_at (Wp.seq (Wp.text ?_)))
  refine kp 10 (.int IntKind.i64 x) ?_
  refine fr 11 61 [Value.int .i64 x, Value.int .i64 16] ?_
  refine WpFun.of (c2) ?_
  refine kp 6 (.int IntKind.i64 (x / 16)) ?_
  refine WpOps.nil (thenK_at (Wp.seq (Wp.text ?_)))
  refine kp 12 (.agg #[Value.bool false, Value.int .i64 0, Value.int .i64 0, Value.int .i64 (-1)]) ?_
  refine md 7 (.pointer (some ⟨1, 0, none⟩)) (Blk.mk 36 true [Value.bool false, Value.int .i64 0, Value.int .i64 0, Value.int .i64 0]) ?_
  refine ld (.tuple #[]) (1) (Blk.mk 36 true [Value.bool false, Value.int .i64 0, Value.int .i64 0, Value.int .i64 (-1)]) ?_
  refine WpOps.nil (thenK_at (Wp.seq (Wp.seq (Wp.text ?_))))
  refine kp 13 (.int IntKind.i64 3) ?_
  refine WpOps.nil (thenK_at (Wp.block (Wp.seq (Wp.seq (Wp.text ?_)))))
  refine kp 15 (.bool false) ?_
  refine kp 14 (.bool false) ?_
  refine WpOps.nil (thenK_at (off' (Wp.text ?_)))
  refine kp 16 (.bool false) ?_
  refine kp 14 (.bool false) ?_
  refine WpOps.nil (thenK_at (off' (Wp.seq (Wp.text ?_))))
  refine kp 21 (.bool false) ?_
  refine kp 20 (.bool false) ?_
  refine WpOps.nil (thenK_at (off' (Wp.seq (Wp.text ?_))))
  refine kp 24 (.bool true) ?_
  refine kp 23 (.bool true) ?_
  refine WpOps.nil (thenK_at (on' (Wp.text ?_)))
  refine kp 25 (.int IntKind.i64 (x / 16)) ?_
  refine fr 26 9 [Value.int .i64 (x / 16), Value.int .i64 3] ?_
  refine WpFun.of (c3) ?_
  refine kp 27 (.int IntKind.i64 (IntKind.wrap .i64 (1 + modN (x / 16) 3))) ?_
  refine kp 28 (.pointer (some ⟨1, 1, none⟩)) ?_
  refine ld (.tuple #[]) (1) (Blk.mk 36 true [Value.bool false, Value.int .i64 (IntKind.wrap .i64 (1 + modN (x / 16) 3)), Value.int .i64 0, Value.int .i64 (-1)]) ?_
  refine WpOps.nil (blockK_norm (thenK_at (Wp.seq (Wp.text ?_))))
  refine kp 48 (.agg #[Value.bool false, Value.int .i64 (IntKind.wrap .i64 (1 + modN (x / 16) 3)), Value.int .i64 0, Value.int .i64 (-1)]) ?_
  refine ld (.tuple #[]) (0) (Blk.mk 36 true [Value.bool false, Value.int .i64 (IntKind.wrap .i64 (1 + modN (x / 16) 3)), Value.int .i64 0, Value.int .i64 (-1)]) ?_
  refine WpOps.nil (thenK_at (Wp.ret ?_))
  refine endK_retn [Value.agg #[Value.bool false, Value.int IntKind.i64 (IntKind.wrap IntKind.i64 (1 + modN (x / 16) 3)), Value.int IntKind.i64 0, Value.int IntKind.i64 (-1)]] (Value.agg #[Value.bool false, Value.int IntKind.i64 (IntKind.wrap IntKind.i64 (1 + modN (x / 16) 3)), Value.int IntKind.i64 0, Value.int IntKind.i64 (-1)]) (by kernel_rfl) (by kernel_rfl) ?_
  rw [e3]
  rfl
theorem of59_4 (mild : Bool) (x : Int) (hx : -9223372036854775808 ≤ x ∧ x ≤ 9223372036854775807) (h : modN x 16 = 4) : Fun E 59 [.int .i64 x, .bool mild] (.agg (ofC mild x).toArray) := by
  have c1 := mod9 x 16 (by decide) (by decide)
  have c2 := floor61 x hx
  have c3 := mod9 (x / 16) 21 (by decide) (by decide)
  unfold ofC
  rw [if_neg (by omega), if_neg (by omega), if_neg (by omega), if_pos (.inl h)]
  rw [h] at c1
  refine Fun.of f59 rfl (of_decide_eq_true (by kernel_rfl)) rfl ?_
  refine Wp.seq (Wp.text ?_)
  refine md 4 (.pointer (some ⟨0, 0, none⟩)) (Blk.mk 36 true [Value.bool false, Value.int .i64 0, Value.int .i64 0, Value.int .i64 0]) ?_
  refine WpOps.nil (thenK_at (Wp.seq (Wp.text ?_)))
  refine kp 8 (.int IntKind.i64 x) ?_
  refine fr 9 9 [Value.int .i64 x, Value.int .i64 16] ?_
  refine WpFun.of (c1) ?_
  refine kp 5 (.int IntKind.i64 4) ?_
  refine WpOps.nil (thenK_at (Wp.seq (Wp.text ?_)))
  refine kp 10 (.int IntKind.i64 x) ?_
  refine fr 11 61 [Value.int .i64 x, Value.int .i64 16] ?_
  refine WpFun.of (c2) ?_
  refine kp 6 (.int IntKind.i64 (x / 16)) ?_
  refine WpOps.nil (thenK_at (Wp.seq (Wp.text ?_)))
  refine kp 12 (.agg #[Value.bool false, Value.int .i64 0, Value.int .i64 0, Value.int .i64 (-1)]) ?_
  refine md 7 (.pointer (some ⟨1, 0, none⟩)) (Blk.mk 36 true [Value.bool false, Value.int .i64 0, Value.int .i64 0, Value.int .i64 0]) ?_
  refine ld (.tuple #[]) (1) (Blk.mk 36 true [Value.bool false, Value.int .i64 0, Value.int .i64 0, Value.int .i64 (-1)]) ?_
  refine WpOps.nil (thenK_at (Wp.seq (Wp.seq (Wp.text ?_))))
  refine kp 13 (.int IntKind.i64 4) ?_
  refine WpOps.nil (thenK_at (Wp.block (Wp.seq (Wp.seq (Wp.text ?_)))))
  refine kp 15 (.bool false) ?_
  refine kp 14 (.bool false) ?_
  refine WpOps.nil (thenK_at (off' (Wp.text ?_)))
  refine kp 16 (.bool false) ?_
  refine kp 14 (.bool false) ?_
  refine WpOps.nil (thenK_at (off' (Wp.seq (Wp.text ?_))))
  refine kp 21 (.bool false) ?_
  refine kp 20 (.bool false) ?_
  refine WpOps.nil (thenK_at (off' (Wp.seq (Wp.text ?_))))
  refine kp 24 (.bool false) ?_
  refine kp 23 (.bool false) ?_
  refine WpOps.nil (thenK_at (off' (Wp.seq (Wp.seq (Wp.text ?_)))))
  refine kp 30 (.bool true) ?_
  refine kp 29 (.bool true) ?_
  refine WpOps.nil (thenK_at (on' (Wp.skip (thenK_at (on' (Wp.text ?_))))))
  refine kp 32 (.int IntKind.i64 (x / 16)) ?_
  refine fr 33 9 [Value.int .i64 (x / 16), Value.int .i64 21] ?_
  refine WpFun.of (c3) ?_
  refine kp 34 (.pointer (some ⟨1, 2, none⟩)) ?_
  refine ld (.tuple #[]) (1) (Blk.mk 36 true [Value.bool false, Value.int .i64 0, Value.int .i64 (modN (x / 16) 21), Value.int .i64 (-1)]) ?_
  refine WpOps.nil (blockK_norm (thenK_at (Wp.seq (Wp.text ?_))))
  refine kp 48 (.agg #[Value.bool false, Value.int .i64 0, Value.int .i64 (modN (x / 16) 21), Value.int .i64 (-1)]) ?_
  refine ld (.tuple #[]) (0) (Blk.mk 36 true [Value.bool false, Value.int .i64 0, Value.int .i64 (modN (x / 16) 21), Value.int .i64 (-1)]) ?_
  refine WpOps.nil (thenK_at (Wp.ret ?_))
  refine endK_retn [Value.agg #[Value.bool false, Value.int IntKind.i64 0, Value.int IntKind.i64 (modN (x / 16) 21), Value.int IntKind.i64 (-1)]] (Value.agg #[Value.bool false, Value.int IntKind.i64 0, Value.int IntKind.i64 (modN (x / 16) 21), Value.int IntKind.i64 (-1)]) (by kernel_rfl) (by kernel_rfl) ?_
  rfl
theorem of59_5 (mild : Bool) (x : Int) (hx : -9223372036854775808 ≤ x ∧ x ≤ 9223372036854775807) (h : modN x 16 = 5) : Fun E 59 [.int .i64 x, .bool mild] (.agg (ofC mild x).toArray) := by
  have c1 := mod9 x 16 (by decide) (by decide)
  have c2 := floor61 x hx
  have c3 := mod9 (x / 16) 21 (by decide) (by decide)
  unfold ofC
  rw [if_neg (by omega), if_neg (by omega), if_neg (by omega), if_pos (.inr h)]
  rw [h] at c1
  refine Fun.of f59 rfl (of_decide_eq_true (by kernel_rfl)) rfl ?_
  refine Wp.seq (Wp.text ?_)
  refine md 4 (.pointer (some ⟨0, 0, none⟩)) (Blk.mk 36 true [Value.bool false, Value.int .i64 0, Value.int .i64 0, Value.int .i64 0]) ?_
  refine WpOps.nil (thenK_at (Wp.seq (Wp.text ?_)))
  refine kp 8 (.int IntKind.i64 x) ?_
  refine fr 9 9 [Value.int .i64 x, Value.int .i64 16] ?_
  refine WpFun.of (c1) ?_
  refine kp 5 (.int IntKind.i64 5) ?_
  refine WpOps.nil (thenK_at (Wp.seq (Wp.text ?_)))
  refine kp 10 (.int IntKind.i64 x) ?_
  refine fr 11 61 [Value.int .i64 x, Value.int .i64 16] ?_
  refine WpFun.of (c2) ?_
  refine kp 6 (.int IntKind.i64 (x / 16)) ?_
  refine WpOps.nil (thenK_at (Wp.seq (Wp.text ?_)))
  refine kp 12 (.agg #[Value.bool false, Value.int .i64 0, Value.int .i64 0, Value.int .i64 (-1)]) ?_
  refine md 7 (.pointer (some ⟨1, 0, none⟩)) (Blk.mk 36 true [Value.bool false, Value.int .i64 0, Value.int .i64 0, Value.int .i64 0]) ?_
  refine ld (.tuple #[]) (1) (Blk.mk 36 true [Value.bool false, Value.int .i64 0, Value.int .i64 0, Value.int .i64 (-1)]) ?_
  refine WpOps.nil (thenK_at (Wp.seq (Wp.seq (Wp.text ?_))))
  refine kp 13 (.int IntKind.i64 5) ?_
  refine WpOps.nil (thenK_at (Wp.block (Wp.seq (Wp.seq (Wp.text ?_)))))
  refine kp 15 (.bool false) ?_
  refine kp 14 (.bool false) ?_
  refine WpOps.nil (thenK_at (off' (Wp.text ?_)))
  refine kp 16 (.bool false) ?_
  refine kp 14 (.bool false) ?_
  refine WpOps.nil (thenK_at (off' (Wp.seq (Wp.text ?_))))
  refine kp 21 (.bool false) ?_
  refine kp 20 (.bool false) ?_
  refine WpOps.nil (thenK_at (off' (Wp.seq (Wp.text ?_))))
  refine kp 24 (.bool false) ?_
  refine kp 23 (.bool false) ?_
  refine WpOps.nil (thenK_at (off' (Wp.seq (Wp.seq (Wp.text ?_)))))
  refine kp 30 (.bool false) ?_
  refine kp 29 (.bool false) ?_
  refine WpOps.nil (thenK_at (off' (Wp.text ?_)))
  refine kp 31 (.bool true) ?_
  refine kp 29 (.bool true) ?_
  refine WpOps.nil (thenK_at (on' (Wp.text ?_)))
  refine kp 32 (.int IntKind.i64 (x / 16)) ?_
  refine fr 33 9 [Value.int .i64 (x / 16), Value.int .i64 21] ?_
  refine WpFun.of (c3) ?_
  refine kp 34 (.pointer (some ⟨1, 2, none⟩)) ?_
  refine ld (.tuple #[]) (1) (Blk.mk 36 true [Value.bool false, Value.int .i64 0, Value.int .i64 (modN (x / 16) 21), Value.int .i64 (-1)]) ?_
  refine WpOps.nil (blockK_norm (thenK_at (Wp.seq (Wp.text ?_))))
  refine kp 48 (.agg #[Value.bool false, Value.int .i64 0, Value.int .i64 (modN (x / 16) 21), Value.int .i64 (-1)]) ?_
  refine ld (.tuple #[]) (0) (Blk.mk 36 true [Value.bool false, Value.int .i64 0, Value.int .i64 (modN (x / 16) 21), Value.int .i64 (-1)]) ?_
  refine WpOps.nil (thenK_at (Wp.ret ?_))
  refine endK_retn [Value.agg #[Value.bool false, Value.int IntKind.i64 0, Value.int IntKind.i64 (modN (x / 16) 21), Value.int IntKind.i64 (-1)]] (Value.agg #[Value.bool false, Value.int IntKind.i64 0, Value.int IntKind.i64 (modN (x / 16) 21), Value.int IntKind.i64 (-1)]) (by kernel_rfl) (by kernel_rfl) ?_
  rfl
theorem of59_6t (x : Int) (hx : -9223372036854775808 ≤ x ∧ x ≤ 9223372036854775807) (h : modN x 16 = 6) : Fun E 59 [.int .i64 x, .bool true] (.agg (ofC true x).toArray) := by
  have c1 := mod9 x 16 (by decide) (by decide)
  have c2 := floor61 x hx
  have c3 := mod9 (x / 16) 50 (by decide) (by decide)
  unfold ofC
  rw [if_neg (by omega), if_neg (by omega), if_neg (by omega), if_neg (by omega), if_pos h]
  rw [if_pos rfl]
  rw [h] at c1
  refine Fun.of f59 rfl (of_decide_eq_true (by kernel_rfl)) rfl ?_
  refine Wp.seq (Wp.text ?_)
  refine md 4 (.pointer (some ⟨0, 0, none⟩)) (Blk.mk 36 true [Value.bool false, Value.int .i64 0, Value.int .i64 0, Value.int .i64 0]) ?_
  refine WpOps.nil (thenK_at (Wp.seq (Wp.text ?_)))
  refine kp 8 (.int IntKind.i64 x) ?_
  refine fr 9 9 [Value.int .i64 x, Value.int .i64 16] ?_
  refine WpFun.of (c1) ?_
  refine kp 5 (.int IntKind.i64 6) ?_
  refine WpOps.nil (thenK_at (Wp.seq (Wp.text ?_)))
  refine kp 10 (.int IntKind.i64 x) ?_
  refine fr 11 61 [Value.int .i64 x, Value.int .i64 16] ?_
  refine WpFun.of (c2) ?_
  refine kp 6 (.int IntKind.i64 (x / 16)) ?_
  refine WpOps.nil (thenK_at (Wp.seq (Wp.text ?_)))
  refine kp 12 (.agg #[Value.bool false, Value.int .i64 0, Value.int .i64 0, Value.int .i64 (-1)]) ?_
  refine md 7 (.pointer (some ⟨1, 0, none⟩)) (Blk.mk 36 true [Value.bool false, Value.int .i64 0, Value.int .i64 0, Value.int .i64 0]) ?_
  refine ld (.tuple #[]) (1) (Blk.mk 36 true [Value.bool false, Value.int .i64 0, Value.int .i64 0, Value.int .i64 (-1)]) ?_
  refine WpOps.nil (thenK_at (Wp.seq (Wp.seq (Wp.text ?_))))
  refine kp 13 (.int IntKind.i64 6) ?_
  refine WpOps.nil (thenK_at (Wp.block (Wp.seq (Wp.seq (Wp.text ?_)))))
  refine kp 15 (.bool false) ?_
  refine kp 14 (.bool false) ?_
  refine WpOps.nil (thenK_at (off' (Wp.text ?_)))
  refine kp 16 (.bool false) ?_
  refine kp 14 (.bool false) ?_
  refine WpOps.nil (thenK_at (off' (Wp.seq (Wp.text ?_))))
  refine kp 21 (.bool false) ?_
  refine kp 20 (.bool false) ?_
  refine WpOps.nil (thenK_at (off' (Wp.seq (Wp.text ?_))))
  refine kp 24 (.bool false) ?_
  refine kp 23 (.bool false) ?_
  refine WpOps.nil (thenK_at (off' (Wp.seq (Wp.seq (Wp.text ?_)))))
  refine kp 30 (.bool false) ?_
  refine kp 29 (.bool false) ?_
  refine WpOps.nil (thenK_at (off' (Wp.text ?_)))
  refine kp 31 (.bool false) ?_
  refine kp 29 (.bool false) ?_
  refine WpOps.nil (thenK_at (off' (Wp.seq (Wp.text ?_))))
  refine kp 36 (.bool true) ?_
  refine kp 35 (.bool true) ?_
  refine WpOps.nil (thenK_at (on' (Wp.seq (Wp.text ?_))))
  refine kp 37 (.bool true) ?_
  refine kp 38 (.bool false) ?_
  refine WpOps.nil (thenK_at (off' (Wp.skip (blockK_norm (thenK_at (Wp.seq (Wp.text ?_)))))))
  refine kp 48 (.agg #[Value.bool false, Value.int .i64 0, Value.int .i64 0, Value.int .i64 (-1)]) ?_
  refine ld (.tuple #[]) (0) (Blk.mk 36 true [Value.bool false, Value.int .i64 0, Value.int .i64 0, Value.int .i64 (-1)]) ?_
  refine WpOps.nil (thenK_at (Wp.ret ?_))
  refine endK_retn [Value.agg #[Value.bool false, Value.int IntKind.i64 0, Value.int IntKind.i64 0, Value.int IntKind.i64 (-1)]] (Value.agg #[Value.bool false, Value.int IntKind.i64 0, Value.int IntKind.i64 0, Value.int IntKind.i64 (-1)]) (by kernel_rfl) (by kernel_rfl) ?_
  rfl
theorem of59_6f (x : Int) (hx : -9223372036854775808 ≤ x ∧ x ≤ 9223372036854775807) (h : modN x 16 = 6) : Fun E 59 [.int .i64 x, .bool false] (.agg (ofC false x).toArray) := by
  have c1 := mod9 x 16 (by decide) (by decide)
  have c2 := floor61 x hx
  have c3 := mod9 (x / 16) 50 (by decide) (by decide)
  unfold ofC
  rw [if_neg (by omega), if_neg (by omega), if_neg (by omega), if_neg (by omega), if_pos h]
  rw [if_neg (by decide)]
  rw [h] at c1
  refine Fun.of f59 rfl (of_decide_eq_true (by kernel_rfl)) rfl ?_
  refine Wp.seq (Wp.text ?_)
  refine md 4 (.pointer (some ⟨0, 0, none⟩)) (Blk.mk 36 true [Value.bool false, Value.int .i64 0, Value.int .i64 0, Value.int .i64 0]) ?_
  refine WpOps.nil (thenK_at (Wp.seq (Wp.text ?_)))
  refine kp 8 (.int IntKind.i64 x) ?_
  refine fr 9 9 [Value.int .i64 x, Value.int .i64 16] ?_
  refine WpFun.of (c1) ?_
  refine kp 5 (.int IntKind.i64 6) ?_
  refine WpOps.nil (thenK_at (Wp.seq (Wp.text ?_)))
  refine kp 10 (.int IntKind.i64 x) ?_
  refine fr 11 61 [Value.int .i64 x, Value.int .i64 16] ?_
  refine WpFun.of (c2) ?_
  refine kp 6 (.int IntKind.i64 (x / 16)) ?_
  refine WpOps.nil (thenK_at (Wp.seq (Wp.text ?_)))
  refine kp 12 (.agg #[Value.bool false, Value.int .i64 0, Value.int .i64 0, Value.int .i64 (-1)]) ?_
  refine md 7 (.pointer (some ⟨1, 0, none⟩)) (Blk.mk 36 true [Value.bool false, Value.int .i64 0, Value.int .i64 0, Value.int .i64 0]) ?_
  refine ld (.tuple #[]) (1) (Blk.mk 36 true [Value.bool false, Value.int .i64 0, Value.int .i64 0, Value.int .i64 (-1)]) ?_
  refine WpOps.nil (thenK_at (Wp.seq (Wp.seq (Wp.text ?_))))
  refine kp 13 (.int IntKind.i64 6) ?_
  refine WpOps.nil (thenK_at (Wp.block (Wp.seq (Wp.seq (Wp.text ?_)))))
  refine kp 15 (.bool false) ?_
  refine kp 14 (.bool false) ?_
  refine WpOps.nil (thenK_at (off' (Wp.text ?_)))
  refine kp 16 (.bool false) ?_
  refine kp 14 (.bool false) ?_
  refine WpOps.nil (thenK_at (off' (Wp.seq (Wp.text ?_))))
  refine kp 21 (.bool false) ?_
  refine kp 20 (.bool false) ?_
  refine WpOps.nil (thenK_at (off' (Wp.seq (Wp.text ?_))))
  refine kp 24 (.bool false) ?_
  refine kp 23 (.bool false) ?_
  refine WpOps.nil (thenK_at (off' (Wp.seq (Wp.seq (Wp.text ?_)))))
  refine kp 30 (.bool false) ?_
  refine kp 29 (.bool false) ?_
  refine WpOps.nil (thenK_at (off' (Wp.text ?_)))
  refine kp 31 (.bool false) ?_
  refine kp 29 (.bool false) ?_
  refine WpOps.nil (thenK_at (off' (Wp.seq (Wp.text ?_))))
  refine kp 36 (.bool true) ?_
  refine kp 35 (.bool true) ?_
  refine WpOps.nil (thenK_at (on' (Wp.seq (Wp.text ?_))))
  refine kp 37 (.bool false) ?_
  refine kp 38 (.bool true) ?_
  refine WpOps.nil (thenK_at (on' (Wp.text ?_)))
  refine kp 39 (.int IntKind.i64 (x / 16)) ?_
  refine fr 40 9 [Value.int .i64 (x / 16), Value.int .i64 50] ?_
  refine WpFun.of (c3) ?_
  refine kp 41 (.pointer (some ⟨1, 3, none⟩)) ?_
  refine ld (.tuple #[]) (1) (Blk.mk 36 true [Value.bool false, Value.int .i64 0, Value.int .i64 0, Value.int .i64 (modN (x / 16) 50)]) ?_
  refine WpOps.nil (blockK_norm (thenK_at (Wp.seq (Wp.text ?_))))
  refine kp 48 (.agg #[Value.bool false, Value.int .i64 0, Value.int .i64 0, Value.int .i64 (modN (x / 16) 50)]) ?_
  refine ld (.tuple #[]) (0) (Blk.mk 36 true [Value.bool false, Value.int .i64 0, Value.int .i64 0, Value.int .i64 (modN (x / 16) 50)]) ?_
  refine WpOps.nil (thenK_at (Wp.ret ?_))
  refine endK_retn [Value.agg #[Value.bool false, Value.int IntKind.i64 0, Value.int IntKind.i64 0, Value.int IntKind.i64 (modN (x / 16) 50)]] (Value.agg #[Value.bool false, Value.int IntKind.i64 0, Value.int IntKind.i64 0, Value.int IntKind.i64 (modN (x / 16) 50)]) (by kernel_rfl) (by kernel_rfl) ?_
  rfl
theorem of59_7 (mild : Bool) (x : Int) (hx : -9223372036854775808 ≤ x ∧ x ≤ 9223372036854775807) (h : modN x 16 = 7) : Fun E 59 [.int .i64 x, .bool mild] (.agg (ofC mild x).toArray) := by
  have c1 := mod9 x 16 (by decide) (by decide)
  have c2 := floor61 x hx
  have c3 := mod9 (x / 16) 8 (by decide) (by decide)
  unfold ofC
  rw [if_neg (by omega), if_neg (by omega), if_neg (by omega), if_neg (by omega), if_neg (by omega), if_pos h]
  rw [h] at c1
  refine Fun.of f59 rfl (of_decide_eq_true (by kernel_rfl)) rfl ?_
  refine Wp.seq (Wp.text ?_)
  refine md 4 (.pointer (some ⟨0, 0, none⟩)) (Blk.mk 36 true [Value.bool false, Value.int .i64 0, Value.int .i64 0, Value.int .i64 0]) ?_
  refine WpOps.nil (thenK_at (Wp.seq (Wp.text ?_)))
  refine kp 8 (.int IntKind.i64 x) ?_
  refine fr 9 9 [Value.int .i64 x, Value.int .i64 16] ?_
  refine WpFun.of (c1) ?_
  refine kp 5 (.int IntKind.i64 7) ?_
  refine WpOps.nil (thenK_at (Wp.seq (Wp.text ?_)))
  refine kp 10 (.int IntKind.i64 x) ?_
  refine fr 11 61 [Value.int .i64 x, Value.int .i64 16] ?_
  refine WpFun.of (c2) ?_
  refine kp 6 (.int IntKind.i64 (x / 16)) ?_
  refine WpOps.nil (thenK_at (Wp.seq (Wp.text ?_)))
  refine kp 12 (.agg #[Value.bool false, Value.int .i64 0, Value.int .i64 0, Value.int .i64 (-1)]) ?_
  refine md 7 (.pointer (some ⟨1, 0, none⟩)) (Blk.mk 36 true [Value.bool false, Value.int .i64 0, Value.int .i64 0, Value.int .i64 0]) ?_
  refine ld (.tuple #[]) (1) (Blk.mk 36 true [Value.bool false, Value.int .i64 0, Value.int .i64 0, Value.int .i64 (-1)]) ?_
  refine WpOps.nil (thenK_at (Wp.seq (Wp.seq (Wp.text ?_))))
  refine kp 13 (.int IntKind.i64 7) ?_
  refine WpOps.nil (thenK_at (Wp.block (Wp.seq (Wp.seq (Wp.text ?_)))))
  refine kp 15 (.bool false) ?_
  refine kp 14 (.bool false) ?_
  refine WpOps.nil (thenK_at (off' (Wp.text ?_)))
  refine kp 16 (.bool false) ?_
  refine kp 14 (.bool false) ?_
  refine WpOps.nil (thenK_at (off' (Wp.seq (Wp.text ?_))))
  refine kp 21 (.bool false) ?_
  refine kp 20 (.bool false) ?_
  refine WpOps.nil (thenK_at (off' (Wp.seq (Wp.text ?_))))
  refine kp 24 (.bool false) ?_
  refine kp 23 (.bool false) ?_
  refine WpOps.nil (thenK_at (off' (Wp.seq (Wp.seq (Wp.text ?_)))))
  refine kp 30 (.bool false) ?_
  refine kp 29 (.bool false) ?_
  refine WpOps.nil (thenK_at (off' (Wp.text ?_)))
  refine kp 31 (.bool false) ?_
  refine kp 29 (.bool false) ?_
  refine WpOps.nil (thenK_at (off' (Wp.seq (Wp.text ?_))))
  refine kp 36 (.bool false) ?_
  refine kp 35 (.bool false) ?_
  refine WpOps.nil (thenK_at (off' (Wp.seq (Wp.text ?_))))
  refine kp 43 (.bool true) ?_
  refine kp 42 (.bool true) ?_
  refine WpOps.nil (thenK_at (on' (Wp.seq (Wp.text ?_))))
  refine kp 44 (.pointer (some ⟨1, 1, none⟩)) ?_
  refine ld (.tuple #[]) (1) (Blk.mk 36 true [Value.bool false, Value.int .i64 1, Value.int .i64 0, Value.int .i64 (-1)]) ?_
  refine WpOps.nil (thenK_at (Wp.text ?_))
  refine kp 45 (.int IntKind.i64 (x / 16)) ?_
  refine fr 46 9 [Value.int .i64 (x / 16), Value.int .i64 8] ?_
  refine WpFun.of (c3) ?_
  refine kp 47 (.pointer (some ⟨1, 2, none⟩)) ?_
  refine ld (.tuple #[]) (1) (Blk.mk 36 true [Value.bool false, Value.int .i64 1, Value.int .i64 (modN (x / 16) 8), Value.int .i64 (-1)]) ?_
  refine WpOps.nil (blockK_norm (thenK_at (Wp.seq (Wp.text ?_))))
  refine kp 48 (.agg #[Value.bool false, Value.int .i64 1, Value.int .i64 (modN (x / 16) 8), Value.int .i64 (-1)]) ?_
  refine ld (.tuple #[]) (0) (Blk.mk 36 true [Value.bool false, Value.int .i64 1, Value.int .i64 (modN (x / 16) 8), Value.int .i64 (-1)]) ?_
  refine WpOps.nil (thenK_at (Wp.ret ?_))
  refine endK_retn [Value.agg #[Value.bool false, Value.int IntKind.i64 1, Value.int IntKind.i64 (modN (x / 16) 8), Value.int IntKind.i64 (-1)]] (Value.agg #[Value.bool false, Value.int IntKind.i64 1, Value.int IntKind.i64 (modN (x / 16) 8), Value.int IntKind.i64 (-1)]) (by kernel_rfl) (by kernel_rfl) ?_
  rfl
theorem of59_o (mild : Bool) (x : Int) (hx : -9223372036854775808 ≤ x ∧ x ≤ 9223372036854775807) (h : 8 ≤ modN x 16) : Fun E 59 [.int .i64 x, .bool mild] (.agg (ofC mild x).toArray) := by
  have c1 := mod9 x 16 (by decide) (by decide)
  have c2 := floor61 x hx
  unfold ofC
  rw [if_neg (by omega), if_neg (by omega), if_neg (by omega), if_neg (by omega), if_neg (by omega), if_neg (by omega)]
  generalize modN x 16 = n at c1 h
  have e0 : (n == 0) = false := beq_eq_false_iff_ne.2 (by omega)
  have e1 : (n == 1) = false := beq_eq_false_iff_ne.2 (by omega)
  have e2 : (n == 2) = false := beq_eq_false_iff_ne.2 (by omega)
  have e3 : (n == 3) = false := beq_eq_false_iff_ne.2 (by omega)
  have e4 : (n == 4) = false := beq_eq_false_iff_ne.2 (by omega)
  have e5 : (n == 5) = false := beq_eq_false_iff_ne.2 (by omega)
  have e6 : (n == 6) = false := beq_eq_false_iff_ne.2 (by omega)
  have e7 : (n == 7) = false := beq_eq_false_iff_ne.2 (by omega)
  refine Fun.of f59 rfl (of_decide_eq_true (by kernel_rfl)) rfl ?_
  refine Wp.seq (Wp.text ?_)
  refine md 4 (.pointer (some ⟨0, 0, none⟩)) (Blk.mk 36 true [Value.bool false, Value.int .i64 0, Value.int .i64 0, Value.int .i64 0]) ?_
  refine WpOps.nil (thenK_at (Wp.seq (Wp.text ?_)))
  refine kp 8 (.int IntKind.i64 x) ?_
  refine fr 9 9 [Value.int .i64 x, Value.int .i64 16] ?_
  refine WpFun.of (c1) ?_
  refine kp 5 (.int IntKind.i64 n) ?_
  refine WpOps.nil (thenK_at (Wp.seq (Wp.text ?_)))
  refine kp 10 (.int IntKind.i64 x) ?_
  refine fr 11 61 [Value.int .i64 x, Value.int .i64 16] ?_
  refine WpFun.of (c2) ?_
  refine kp 6 (.int IntKind.i64 (x / 16)) ?_
  refine WpOps.nil (thenK_at (Wp.seq (Wp.text ?_)))
  refine kp 12 (.agg #[Value.bool false, Value.int .i64 0, Value.int .i64 0, Value.int .i64 (-1)]) ?_
  refine md 7 (.pointer (some ⟨1, 0, none⟩)) (Blk.mk 36 true [Value.bool false, Value.int .i64 0, Value.int .i64 0, Value.int .i64 0]) ?_
  refine ld (.tuple #[]) (1) (Blk.mk 36 true [Value.bool false, Value.int .i64 0, Value.int .i64 0, Value.int .i64 (-1)]) ?_
  refine WpOps.nil (thenK_at (Wp.seq (Wp.seq (Wp.text ?_))))
  refine kp 13 (.int IntKind.i64 n) ?_
  refine WpOps.nil (thenK_at (Wp.block (Wp.seq (Wp.seq (Wp.text ?_)))))
  refine kp 15 (.bool false) ?_ (hop := fun _ => by_fact e0)
  refine kp 14 (.bool false) ?_
  refine WpOps.nil (thenK_at (off' (Wp.text ?_)))
  refine kp 16 (.bool false) ?_ (hop := fun _ => by_fact e1)
  refine kp 14 (.bool false) ?_
  refine WpOps.nil (thenK_at (off' (Wp.seq (Wp.text ?_))))
  refine kp 21 (.bool false) ?_ (hop := fun _ => by_fact e2)
  refine kp 20 (.bool false) ?_
  refine WpOps.nil (thenK_at (off' (Wp.seq (Wp.text ?_))))
  refine kp 24 (.bool false) ?_ (hop := fun _ => by_fact e3)
  refine kp 23 (.bool false) ?_
  refine WpOps.nil (thenK_at (off' (Wp.seq (Wp.seq (Wp.text ?_)))))
  refine kp 30 (.bool false) ?_ (hop := fun _ => by_fact e4)
  refine kp 29 (.bool false) ?_
  refine WpOps.nil (thenK_at (off' (Wp.text ?_)))
  refine kp 31 (.bool false) ?_ (hop := fun _ => by_fact e5)
  refine kp 29 (.bool false) ?_
  refine WpOps.nil (thenK_at (off' (Wp.seq (Wp.text ?_))))
  refine kp 36 (.bool false) ?_ (hop := fun _ => by_fact e6)
  refine kp 35 (.bool false) ?_
  refine WpOps.nil (thenK_at (off' (Wp.seq (Wp.text ?_))))
  refine kp 43 (.bool false) ?_ (hop := fun _ => by_fact e7)
  refine kp 42 (.bool false) ?_
  refine WpOps.nil (thenK_at (off' (Wp.skip (blockK_norm (thenK_at (Wp.seq (Wp.text ?_)))))))
  refine kp 48 (.agg #[Value.bool false, Value.int .i64 0, Value.int .i64 0, Value.int .i64 (-1)]) ?_
  refine ld (.tuple #[]) (0) (Blk.mk 36 true [Value.bool false, Value.int .i64 0, Value.int .i64 0, Value.int .i64 (-1)]) ?_
  refine WpOps.nil (thenK_at (Wp.ret ?_))
  refine endK_retn [Value.agg #[Value.bool false, Value.int IntKind.i64 0, Value.int IntKind.i64 0, Value.int IntKind.i64 (-1)]] (Value.agg #[Value.bool false, Value.int IntKind.i64 0, Value.int IntKind.i64 0, Value.int IntKind.i64 (-1)]) (by kernel_rfl) (by kernel_rfl) ?_
  rfl
theorem of59 (mild : Bool) (x : Int) (hx : -9223372036854775808 ≤ x ∧ x ≤ 9223372036854775807) : Fun E 59 [.int .i64 x, .bool mild] (.agg (ofC mild x).toArray) := by
  have hm := modN_in x 16 (by decide)
  by_cases h8 : 8 ≤ modN x 16
  · exact of59_o mild x hx h8
  · rcases (by omega : modN x 16 = 0 ∨ modN x 16 = 1 ∨ modN x 16 = 2 ∨ modN x 16 = 3 ∨ modN x 16 = 4 ∨ modN x 16 = 5 ∨ modN x 16 = 6 ∨ modN x 16 = 7) with h | h | h | h | h | h | h | h
    · cases mild
      · exact of59_0f x hx h
      · exact of59_0t x hx h
    · cases mild
      · exact of59_1f x hx h
      · exact of59_1t x hx h
    · exact of59_2 mild x hx h
    · exact of59_3 mild x hx h
    · exact of59_4 mild x hx h
    · exact of59_5 mild x hx h
    · cases mild
      · exact of59_6f x hx h
      · exact of59_6t x hx h
    · exact of59_7 mild x hx h
end Go.Proofs.Ytdkmdpklojeepaa.D
