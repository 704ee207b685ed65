/- The functions of chapter 14, first part. -/
import Derived.Test.YtpkkcpglbjbgfaaFwLem
import Derived.Test.YtpkkcpglbjbgfaaFwMono
import Derived.Test.YtpkkcpglbjbgfaaProg
namespace Go.Proofs.Ytpkkcpglbjbgfaa.D
open Go.Fw Go.RowKit

noncomputable def E : Env := envWith Try.prog [44, 98, 91, 92, 78, 49, 20, 81, 64, 45, 14, 46, 79, 55, 23, 77, 47, 15, 16, 43, 25, 17, 18, 48, 19, 50, 51, 21, 52, 53, 54, 22, 24, 58, 59, 26, 27, 28, 68, 71, 83, 93, 99, 100, 94, 84, 80, 95, 85, 86, 73, 87, 88, 74, 75, 97, 89, 90, 76, 38, 72, 69, 70, 29]
theorem okE : EnvOk E Try.prog := envOf_ok (by kernel_rfl) _

theorem f44 : E.funcs 44 = some Try.f44 := by kernel_rfl
def inR (n lo hi : Int) : Bool := cond (decide (lo ≤ n)) (decide (n ≤ hi)) false
theorem in44 (n lo hi : Int) : Fun E 44 [.int .i64 n, .int .i64 lo, .int .i64 hi] (.bool (inR n lo hi)) := by
  refine Fun.of f44 rfl (of_decide_eq_true (by kernel_rfl)) rfl ?_
  refine Wp.seq ?_
  refine Wp.text ?_
  refine WpOps.keep 6 (Value.bool false) (by kernel_rfl) (by kernel_rfl) (by kernel_rfl) ?_ (fun cf => (by kernel_rfl))
  refine WpOps.nil ?_
  refine thenK_at ?_
  refine Wp.seq ?_
  refine Wp.text ?_
  refine WpOps.keep 7 (Value.int IntKind.i64 lo) (by kernel_rfl) (by kernel_rfl) (by kernel_rfl) ?_ (fun cf => (by kernel_rfl))
  refine WpOps.keep 8 (Value.int IntKind.i64 n) (by kernel_rfl) (by kernel_rfl) (by kernel_rfl) ?_ (fun cf => (by kernel_rfl))
  refine WpOps.keep 9 (Value.bool (decide (lo ≤ n))) (by kernel_rfl) (by kernel_rfl) (by kernel_rfl) ?_ (fun cf => (by kernel_rfl))
  refine WpOps.keep 10 (Value.bool (decide (lo ≤ n))) (by kernel_rfl) (by kernel_rfl) (by kernel_rfl) ?_ (fun cf => (by kernel_rfl))
  refine WpOps.fork 4 (decide (lo ≤ n)) [11, 12, 13, 14] 14 (decide (n ≤ hi)) (false) (by kernel_rfl) (fun g14 => ?_) (fun g14 => ?_) (fun f_14 b14 hb14 => ?_)
  · refine WpOps.keep 11 (Value.int IntKind.i64 n) (by kernel_rfl) (by kernel_rfl) (wants_tt g14 (by kernel_rfl)) ?_ (fun cf => (by kernel_rfl))
    refine WpOps.keep 12 (Value.int IntKind.i64 hi) (by kernel_rfl) (by kernel_rfl) (wants_tt g14 (by kernel_rfl)) ?_ (fun cf => (by kernel_rfl))
    refine WpOps.keep 13 (Value.bool (decide (n ≤ hi))) (by kernel_rfl) (by kernel_rfl) (wants_tt g14 (by kernel_rfl)) ?_ (fun cf => (by kernel_rfl))
    refine WpOps.keep 14 (Value.bool (decide (n ≤ hi))) (by kernel_rfl) (by kernel_rfl) (by kernel_rfl) ?_ (fun cf => o_pickT g14 (by kernel_rfl) (by kernel_rfl))
    refine WpOps.nil ?_
    exact ⟨rfl, (.upd rfl (.upd rfl (.upd rfl (.upd rfl .refl)))), (by kernel_rfl)⟩
  · refine WpOps.unmet 11 (by kernel_rfl) (by kernel_rfl) (wants_ft g14 (by kernel_rfl)) ?_
    refine WpOps.unmet 12 (by kernel_rfl) (by kernel_rfl) (wants_ft g14 (by kernel_rfl)) ?_
    refine WpOps.unmet 13 (by kernel_rfl) (by kernel_rfl) (wants_ft g14 (by kernel_rfl)) ?_
    refine WpOps.keep 14 (Value.bool false) (by kernel_rfl) (by kernel_rfl) (by kernel_rfl) ?_ (fun cf => o_pickF g14 (by kernel_rfl) (by kernel_rfl))
    refine WpOps.nil ?_
    exact ⟨rfl, (.upd rfl (.upd rfl (.upd rfl (.upd rfl .refl)))), (by kernel_rfl)⟩
  refine WpOps.keep 6 (Value.bool b14) (by kernel_rfl) (by kernel_rfl) (by kernel_rfl) ?_ (fun cf => (by kernel_rfl))
  refine WpOps.nil ?_
  refine thenK_at ?_
  refine Wp.ret ?_
  refine endK_retn [Value.bool b14] (Value.bool b14) (by kernel_rfl) (by kernel_rfl) ?_
  subst_vars
  rfl
end Go.Proofs.Ytpkkcpglbjbgfaa.D
