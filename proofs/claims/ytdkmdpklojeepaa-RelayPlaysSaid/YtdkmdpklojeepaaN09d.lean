/- Numbers modulo others. -/
import Derived.Test.YtdkmdpklojeepaaFwLem
import Derived.Test.YtdkmdpklojeepaaFwBytes
import Derived.Test.YtdkmdpklojeepaaFwMore
import Derived.Test.YtdkmdpklojeepaaS09a
namespace Go.Proofs.Ytdkmdpklojeepaa.D
open Go.Fw Go.RowKit

/-- x modulo n, from 0 on. -/
theorem place_eq (x : Int) (n : Nat) (hn : 0 < n) (h : n ≤ 140737488351232) : (IntKind.i64.wrap (x.tmod n + n)).tmod n = modN x n := by
  have h1 := Int.tmod_lt_of_pos x (b := n) (by omega)
  have h2 := Int.lt_tmod_of_pos x (b := n) (by omega)
  rw [wr _ (by omega) (by omega), Int.tmod_eq_emod_of_nonneg (by omega)]
  unfold modN
  split
  · exact Int.emod_eq_of_lt (by omega) (by omega)
  · rw [Int.add_emod_right]
    exact Int.emod_eq_of_lt (by omega) (by omega)
theorem f9 : E.funcs 9 = some Try.f9 := by kernel_rfl
theorem mod9 (x : Int) (n : Nat) (hn : 0 < n) (h : n ≤ 1000) : Fun E 9 [.int .i64 x, .int .i64 n] (.int .i64 (modN x n)) := by
  refine Fun.of f9 rfl (of_decide_eq_true (by kernel_rfl)) rfl ?_
  have c0 : decide ((n : Int) < 1) = false := decide_eq_false (by omega)
  have n0 : ¬ (n : Int) = 0 := by omega
  have h1 := Int.tmod_lt_of_pos x (b := n) (by omega)
  have h2 := Int.lt_tmod_of_pos x (b := n) (by omega)
  refine Wp.seq (Wp.text ?_)
  refine kp 4 (.int IntKind.i64 0) ?_
  refine WpOps.nil (thenK_at (Wp.seq (Wp.seq (Wp.text ?_))))
  refine kp 6 (.int IntKind.i64 (↑n : Int)) ?_
  refine kp 7 (.bool false) ?_ (hop := fun _ => by_fact c0)
  refine WpOps.nil (thenK_at (off' (Wp.skip (thenK_at (Wp.seq (Wp.text ?_))))))
  refine kp 8 (.int IntKind.i64 x) ?_
  refine kp 9 (.int IntKind.i64 (↑n : Int)) ?_
  refine kp 10 (.int IntKind.i64 (Int.tmod x (↑n : Int))) ?_ (hop := fun _ => o_rem n0)
  refine kp 5 (.int IntKind.i64 (Int.tmod x (↑n : Int))) ?_
  refine WpOps.nil (thenK_at (Wp.seq (Wp.seq (Wp.text ?_))))
  refine kp 11 (.int IntKind.i64 (Int.tmod x (↑n : Int))) ?_
  refine kp 12 (.bool (decide (Int.tmod x (↑n : Int) < 0))) ?_
  refine WpOps.nil (thenK_at ?_)
  refine Wp.split (decide (Int.tmod x (↑n : Int) < 0)) (by kernel_rfl) (fun hc => ?_) (fun hc => ?_)
  · have hl := of_decide_eq_true hc
    have hm : modN x n = x.tmod n + n := if_pos hl
    have hw : IntKind.i64.wrap (x.tmod n + n) = modN x n := by rw [hm, wr _ (by omega) (by omega)]
    refine Wp.text ?_
    refine kp 13 (.int IntKind.i64 (Int.tmod x (↑n : Int))) ?_
    refine kp 14 (.int IntKind.i64 (↑n : Int)) ?_
    refine kp 15 (.int IntKind.i64 (IntKind.wrap .i64 (Int.tmod x (↑n : Int) + (↑n : Int)))) ?_
    refine kp 5 (.int IntKind.i64 (IntKind.wrap .i64 (Int.tmod x (↑n : Int) + (↑n : Int)))) ?_
    refine WpOps.nil (thenK_at (Wp.seq (Wp.text ?_)))
    refine kp 16 (.int IntKind.i64 (IntKind.wrap .i64 (Int.tmod x (↑n : Int) + (↑n : Int)))) ?_
    refine kp 4 (.int IntKind.i64 (IntKind.wrap .i64 (Int.tmod x (↑n : Int) + (↑n : Int)))) ?_
    refine WpOps.nil (thenK_at (Wp.ret ?_))
    refine endK_retn [Value.int IntKind.i64 (IntKind.wrap IntKind.i64 (Int.tmod x (↑n : Int) + (↑n : Int)))] (Value.int IntKind.i64 (IntKind.wrap IntKind.i64 (Int.tmod x (↑n : Int) + (↑n : Int)))) (by kernel_rfl) (by kernel_rfl) ?_
    rw [hw]
    rfl
  · have hm : modN x n = x.tmod n := if_neg (of_decide_eq_false hc)
    refine Wp.skip (thenK_at (Wp.seq (Wp.text ?_)))
    refine kp 16 (.int IntKind.i64 (Int.tmod x (↑n : Int))) ?_
    refine kp 4 (.int IntKind.i64 (Int.tmod x (↑n : Int))) ?_
    refine WpOps.nil (thenK_at (Wp.ret ?_))
    refine endK_retn [Value.int IntKind.i64 (Int.tmod x (↑n : Int))] (Value.int IntKind.i64 (Int.tmod x (↑n : Int))) (by kernel_rfl) (by kernel_rfl) ?_
    rw [hm]
    rfl
end Go.Proofs.Ytdkmdpklojeepaa.D
