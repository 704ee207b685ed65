/- relay.Calm. -/
import Derived.Test.YtdkmdpklojeepaaFwLem
import Derived.Test.YtdkmdpklojeepaaF09j
namespace Go.Proofs.Ytdkmdpklojeepaa.D
open Go.Fw Go.RowKit

theorem f44 : E.funcs 44 = some Try.f44 := by kernel_rfl
theorem calmf44 (b : Bool) (c d e : Int) : Fun E 44 [.agg #[.bool b, .int .i64 c, .int .i64 d, .int .i64 e]] (.bool (bif b then true else e != -1)) := by
  refine Fun.of f44 rfl (of_decide_eq_true (by kernel_rfl)) rfl ?_
  refine Wp.seq (Wp.text ?_)
  refine md 1 (.pointer (some ⟨0, 0, none⟩)) (Blk.mk 46 true [Value.bool b, Value.int .i64 c, Value.int .i64 d, Value.int .i64 e]) ?_
  refine kp 2 (.bool false) ?_
  refine WpOps.nil (thenK_at (Wp.seq (Wp.text ?_)))
  refine kp 3 (.pointer (some ⟨0, 0, none⟩)) ?_
  refine kp 4 (.bool b) ?_
  refine kp 5 (.bool b) ?_
  refine WpOps.fork 4 (b) [6, 7, 8, 9] 9 (true) (e != -1) (by kernel_rfl) (fun g9 => ?_) (fun g9 => ?_) (fun f_9 b9 hb9 => ?_)
  · refine um 6 ?_ (hw := wants_tf g9)
    refine um 7 ?_ (hw := wants_tf g9)
    refine um 8 ?_ (hw := wants_tf g9)
    refine kp 9 (.bool true) ?_ (hop := fun _ => o_pickT g9)
    refine WpOps.nil ?_
    exact ⟨rfl, (.upd rfl (.upd rfl (.upd rfl (.upd rfl .refl)))), (by kernel_rfl)⟩
  · refine kp 6 (.pointer (some ⟨0, 3, none⟩)) ?_ (hw := wants_ff g9)
    refine kp 7 (.int IntKind.i64 e) ?_ (hw := wants_ff g9)
    refine kp 8 (.bool (e != -1)) ?_ (hw := wants_ff g9)
    refine kp 9 (.bool (e != -1)) ?_ (hop := fun _ => o_pickF g9)
    refine WpOps.nil ?_
    exact ⟨rfl, (.upd rfl (.upd rfl (.upd rfl (.upd rfl .refl)))), (by kernel_rfl)⟩
  refine kp 2 (.bool b9) ?_
  refine WpOps.nil (thenK_at (Wp.ret ?_))
  refine endK_retn [Value.bool b9] (Value.bool b9) (by kernel_rfl) (by kernel_rfl) ?_
  rw [← hb9]
  rfl
end Go.Proofs.Ytdkmdpklojeepaa.D
