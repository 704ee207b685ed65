/- Two stations are made and compared; events are compared -/
import Derived.Test.YtgefohjickhldaaFwLem
import Derived.Test.YtgefohjickhldaaFwMat
import Derived.Test.YtgefohjickhldaaT10w
namespace Go.Proofs.Ytgefohjickhldaa.D
open Go.Fw Go.RowKit

/-- A new station. -/
def St.new (f : Bool) (w wt t : Nat) : St := { first := f, win := w, wait := wt, tries := t, state := 0, gen := 0, sent := 0, acked := 0, wanted := 0, rej := false, ren := false, queue := [], out := [], left := 0, tried := 0, ans := [] }
def nB (f : Bool) (w wt t : Nat) : Blk := ⟨73, true, stC (St.new f w wt t) (.slice none 0 0) (.slice none 0 0) (.slice none 0 0)⟩
def nR (f : Bool) (w wt t : Nat) : Blk := ⟨92, true, rC (St.new f w wt t) (.slice none 0 0) (.slice none 0 0)⟩
def uNo (w wt t : Int) : Bool := bif bif bif bif bif decide (w < 1) then true else decide (w > 7) then true else decide (wt < 1) then true else decide (wt > 50) then true else decide (t < 1) then true else decide (t > 10)
theorem uNo_false {w wt t : Int} (h : uNo w wt t = false) : 1 ≤ w ∧ w ≤ 7 ∧ 1 ≤ wt ∧ wt ≤ 50 ∧ 1 ≤ t ∧ t ≤ 10 := by
  simp only [uNo, Bool.cond_eq_ite] at h
  simp at h
  omega
theorem f26 : E.funcs 26 = some Try.f26 := by kernel_rfl
theorem new26no (f : Bool) (w wt t : Int) (hn : uNo w wt t = true) : Fun E 26 [.bool f, .int .i64 w, .int .i64 wt, .int .i64 t] (.tuple #[.pointer none, .int .i64 1]) := by
  unfold uNo at hn
  refine Fun.of f26 rfl (of_decide_eq_true (by kernel_rfl)) rfl ?_
  refine Wp.seq (Wp.text (kp 8 (.pointer none) (kp 9 (vI 0) (WpOps.nil (thenK_at (Wp.seq (Wp.seq (Wp.text (kp 10 (vI w) (kp 11 (.bool (decide (w < 1))) (kp 12 (.bool (decide (w < 1))) ?_)))))))))))
  refine WpOps.fork 3 (decide (w < 1)) [13, 14, 15] 15 (true) (decide (w > 7)) (by kernel_rfl) (fun g15 => ?_) (fun g15 => ?_) (fun f_15 b15 hb15 => ?_)
  · refine um 13 (um 14 (kp 15 vT (WpOps.nil ?_) (hop := fun _ => o_pickT g15)) (hw := wants_tf g15)) (hw := wants_tf g15)
    exact ⟨rfl, (.upd rfl (.upd rfl (.upd rfl .refl))), (by kernel_rfl)⟩
  · refine kp 13 (vI w) (kp 14 (.bool (decide (w > 7))) (kp 15 (.bool (decide (w > 7))) (WpOps.nil ?_) (hop := fun _ => o_pickF g15)) (hw := wants_ff g15)) (hw := wants_ff g15)
    exact ⟨rfl, (.upd rfl (.upd rfl (.upd rfl .refl))), (by kernel_rfl)⟩
  refine kp 16 (.bool b15) ?_
  refine WpOps.fork 3 (b15) [17, 18, 19] 19 (true) (decide (wt < 1)) (by kernel_rfl) (fun g19 => ?_) (fun g19 => ?_) (fun f_19 b19 hb19 => ?_)
  · refine um 17 (um 18 (kp 19 vT (WpOps.nil ?_) (hop := fun _ => o_pickT g19)) (hw := wants_tf g19)) (hw := wants_tf g19)
    exact ⟨rfl, (.upd rfl (.upd rfl (.upd rfl .refl))), (by kernel_rfl)⟩
  · refine kp 17 (vI wt) (kp 18 (.bool (decide (wt < 1))) (kp 19 (.bool (decide (wt < 1))) (WpOps.nil ?_) (hop := fun _ => o_pickF g19)) (hw := wants_ff g19)) (hw := wants_ff g19)
    exact ⟨rfl, (.upd rfl (.upd rfl (.upd rfl .refl))), (by kernel_rfl)⟩
  refine kp 20 (.bool b19) ?_
  refine WpOps.fork 3 (b19) [21, 22, 23] 23 (true) (decide (wt > 50)) (by kernel_rfl) (fun g23 => ?_) (fun g23 => ?_) (fun f_23 b23 hb23 => ?_)
  · refine um 21 (um 22 (kp 23 vT (WpOps.nil ?_) (hop := fun _ => o_pickT g23)) (hw := wants_tf g23)) (hw := wants_tf g23)
    exact ⟨rfl, (.upd rfl (.upd rfl (.upd rfl .refl))), (by kernel_rfl)⟩
  · refine kp 21 (vI wt) (kp 22 (.bool (decide (wt > 50))) (kp 23 (.bool (decide (wt > 50))) (WpOps.nil ?_) (hop := fun _ => o_pickF g23)) (hw := wants_ff g23)) (hw := wants_ff g23)
    exact ⟨rfl, (.upd rfl (.upd rfl (.upd rfl .refl))), (by kernel_rfl)⟩
  refine kp 24 (.bool b23) ?_
  refine WpOps.fork 3 (b23) [25, 26, 27] 27 (true) (decide (t < 1)) (by kernel_rfl) (fun g27 => ?_) (fun g27 => ?_) (fun f_27 b27 hb27 => ?_)
  · refine um 25 (um 26 (kp 27 vT (WpOps.nil ?_) (hop := fun _ => o_pickT g27)) (hw := wants_tf g27)) (hw := wants_tf g27)
    exact ⟨rfl, (.upd rfl (.upd rfl (.upd rfl .refl))), (by kernel_rfl)⟩
  · refine kp 25 (vI t) (kp 26 (.bool (decide (t < 1))) (kp 27 (.bool (decide (t < 1))) (WpOps.nil ?_) (hop := fun _ => o_pickF g27)) (hw := wants_ff g27)) (hw := wants_ff g27)
    exact ⟨rfl, (.upd rfl (.upd rfl (.upd rfl .refl))), (by kernel_rfl)⟩
  refine kp 28 (.bool b27) ?_
  refine WpOps.fork 3 (b27) [29, 30, 31] 31 (true) (decide (t > 10)) (by kernel_rfl) (fun g31 => ?_) (fun g31 => ?_) (fun f_31 b31 hb31 => ?_)
  · refine um 29 (um 30 (kp 31 vT (WpOps.nil ?_) (hop := fun _ => o_pickT g31)) (hw := wants_tf g31)) (hw := wants_tf g31)
    exact ⟨rfl, (.upd rfl (.upd rfl (.upd rfl .refl))), (by kernel_rfl)⟩
  · refine kp 29 (vI t) (kp 30 (.bool (decide (t > 10))) (kp 31 (.bool (decide (t > 10))) (WpOps.nil ?_) (hop := fun _ => o_pickF g31)) (hw := wants_ff g31)) (hw := wants_ff g31)
    exact ⟨rfl, (.upd rfl (.upd rfl (.upd rfl .refl))), (by kernel_rfl)⟩
  refine WpOps.nil (thenK_at ?_)
  obtain rfl : b31 = true := by rw [hb31, hb27, hb23, hb19, hb15]; exact hn
  refine on' (Wp.seq (Wp.text (kp 8 (.pointer none) (kp 9 (vI 1) (WpOps.nil (thenK_at (Wp.ret (thenK_ret (endK_retn [Value.pointer none, vI 1] (Value.tuple #[Value.pointer none, vI 1]) (by kernel_rfl) (by kernel_rfl) ?_)))))))))
  rfl
theorem new26 (f : Bool) (w wt t : Nat) (hn : uNo w wt t = false) : Lent E 26 [.bool f, .int .i64 w, .int .i64 wt, .int .i64 t] [] (.tuple #[.pointer (some ⟨0, 0, none⟩), .int .i64 0]) [nB f w wt t] := by
  unfold uNo at hn
  refine Lent.of f26 rfl (of_decide_eq_true (by kernel_rfl)) rfl rfl (Nat.zero_le _) rfl rfl rfl ?_
  show Wp 0 E _ _ _ _ (endK E _ (LentEnd E 0 _ _))
  refine Wp.seq (Wp.text (kp 8 (.pointer none) (kp 9 (vI 0) (WpOps.nil (thenK_at (Wp.seq (Wp.seq (Wp.text (kp 10 (vI w) (kp 11 (.bool (decide ((↑w : Int) < 1))) (kp 12 (.bool (decide ((↑w : Int) < 1))) ?_)))))))))))
  refine WpOps.fork 3 (decide ((↑w : Int) < 1)) [13, 14, 15] 15 (true) (decide ((↑w : Int) > 7)) (by kernel_rfl) (fun g15 => ?_) (fun g15 => ?_) (fun f_15 b15 hb15 => ?_)
  · refine um 13 (um 14 (kp 15 vT (WpOps.nil ?_) (hop := fun _ => o_pickT g15)) (hw := wants_tf g15)) (hw := wants_tf g15)
    exact ⟨rfl, (.upd rfl (.upd rfl (.upd rfl .refl))), (by kernel_rfl)⟩
  · refine kp 13 (vI w) (kp 14 (.bool (decide ((↑w : Int) > 7))) (kp 15 (.bool (decide ((↑w : Int) > 7))) (WpOps.nil ?_) (hop := fun _ => o_pickF g15)) (hw := wants_ff g15)) (hw := wants_ff g15)
    exact ⟨rfl, (.upd rfl (.upd rfl (.upd rfl .refl))), (by kernel_rfl)⟩
  refine kp 16 (.bool b15) ?_
  refine WpOps.fork 3 (b15) [17, 18, 19] 19 (true) (decide ((↑wt : Int) < 1)) (by kernel_rfl) (fun g19 => ?_) (fun g19 => ?_) (fun f_19 b19 hb19 => ?_)
  · refine um 17 (um 18 (kp 19 vT (WpOps.nil ?_) (hop := fun _ => o_pickT g19)) (hw := wants_tf g19)) (hw := wants_tf g19)
    exact ⟨rfl, (.upd rfl (.upd rfl (.upd rfl .refl))), (by kernel_rfl)⟩
  · refine kp 17 (vI wt) (kp 18 (.bool (decide ((↑wt : Int) < 1))) (kp 19 (.bool (decide ((↑wt : Int) < 1))) (WpOps.nil ?_) (hop := fun _ => o_pickF g19)) (hw := wants_ff g19)) (hw := wants_ff g19)
    exact ⟨rfl, (.upd rfl (.upd rfl (.upd rfl .refl))), (by kernel_rfl)⟩
  refine kp 20 (.bool b19) ?_
  refine WpOps.fork 3 (b19) [21, 22, 23] 23 (true) (decide ((↑wt : Int) > 50)) (by kernel_rfl) (fun g23 => ?_) (fun g23 => ?_) (fun f_23 b23 hb23 => ?_)
  · refine um 21 (um 22 (kp 23 vT (WpOps.nil ?_) (hop := fun _ => o_pickT g23)) (hw := wants_tf g23)) (hw := wants_tf g23)
    exact ⟨rfl, (.upd rfl (.upd rfl (.upd rfl .refl))), (by kernel_rfl)⟩
  · refine kp 21 (vI wt) (kp 22 (.bool (decide ((↑wt : Int) > 50))) (kp 23 (.bool (decide ((↑wt : Int) > 50))) (WpOps.nil ?_) (hop := fun _ => o_pickF g23)) (hw := wants_ff g23)) (hw := wants_ff g23)
    exact ⟨rfl, (.upd rfl (.upd rfl (.upd rfl .refl))), (by kernel_rfl)⟩
  refine kp 24 (.bool b23) ?_
  refine WpOps.fork 3 (b23) [25, 26, 27] 27 (true) (decide ((↑t : Int) < 1)) (by kernel_rfl) (fun g27 => ?_) (fun g27 => ?_) (fun f_27 b27 hb27 => ?_)
  · refine um 25 (um 26 (kp 27 vT (WpOps.nil ?_) (hop := fun _ => o_pickT g27)) (hw := wants_tf g27)) (hw := wants_tf g27)
    exact ⟨rfl, (.upd rfl (.upd rfl (.upd rfl .refl))), (by kernel_rfl)⟩
  · refine kp 25 (vI t) (kp 26 (.bool (decide ((↑t : Int) < 1))) (kp 27 (.bool (decide ((↑t : Int) < 1))) (WpOps.nil ?_) (hop := fun _ => o_pickF g27)) (hw := wants_ff g27)) (hw := wants_ff g27)
    exact ⟨rfl, (.upd rfl (.upd rfl (.upd rfl .refl))), (by kernel_rfl)⟩
  refine kp 28 (.bool b27) ?_
  refine WpOps.fork 3 (b27) [29, 30, 31] 31 (true) (decide ((↑t : Int) > 10)) (by kernel_rfl) (fun g31 => ?_) (fun g31 => ?_) (fun f_31 b31 hb31 => ?_)
  · refine um 29 (um 30 (kp 31 vT (WpOps.nil ?_) (hop := fun _ => o_pickT g31)) (hw := wants_tf g31)) (hw := wants_tf g31)
    exact ⟨rfl, (.upd rfl (.upd rfl (.upd rfl .refl))), (by kernel_rfl)⟩
  · refine kp 29 (vI t) (kp 30 (.bool (decide ((↑t : Int) > 10))) (kp 31 (.bool (decide ((↑t : Int) > 10))) (WpOps.nil ?_) (hop := fun _ => o_pickF g31)) (hw := wants_ff g31)) (hw := wants_ff g31)
    exact ⟨rfl, (.upd rfl (.upd rfl (.upd rfl .refl))), (by kernel_rfl)⟩
  refine WpOps.nil (thenK_at ?_)
  obtain rfl : b31 = false := by rw [hb31, hb27, hb23, hb19, hb15]; exact hn
  refine off' (Wp.skip (thenK_at (Wp.seq (Wp.text (kp 32 (.bool f) (kp 33 (vI w) (kp 34 (vI wt) (kp 35 (vI t) (kp 36 (.agg #[vI 0, vI wt, vI 0, vI t]) (kp 37 (.agg #[vI 0, vI wt, vI 0, vI t, Value.bool f, vI w, vI 0, vI 0, vI 0, vI 0, vI 0, vF, vF, vN, vN, vN]) (md 38 (vP 0 0) (Blk.mk 73 true [vI 0, vI wt, vI 0, vI t, Value.bool f, vI w, vI 0, vI 0, vI 0, vI 0, vI 0, vF, vF, vN, vN, vN]) (kp 8 (vP 0 0) (kp 9 (vI 0) (WpOps.nil (thenK_at (Wp.ret (endK_retn [Value.pointer (some (Addr.mk 0 0 none)), vI 0] (Value.tuple #[Value.pointer (some (Addr.mk 0 0 none)), vI 0]) (by kernel_rfl) (by kernel_rfl) ?_)))))))))))))))))
  exact ⟨[0], by decide, by decide, ⟨⟨(nB f w wt t).cells, by kernel_rfl, toldC_flat rfl⟩, trivial⟩, .tuple _ _ rfl rfl (.cons (.un rfl rfl) (.cons (.un rfl rfl) .nil))⟩
theorem f43 : E.funcs 43 = some Try.f43 := by kernel_rfl
theorem new43no (f : Bool) (w wt t : Int) (hn : uNo w wt t = true) : Fun E 43 [.bool f, .int .i64 w, .int .i64 wt, .int .i64 t] (.tuple #[.pointer none, .int .i64 1]) := by
  unfold uNo at hn
  refine Fun.of f43 rfl (of_decide_eq_true (by kernel_rfl)) rfl ?_
  refine Wp.seq (Wp.text (kp 8 (.pointer none) (kp 9 (vI 0) (WpOps.nil (thenK_at (Wp.seq (Wp.seq (Wp.text (kp 10 (vI w) (kp 11 (.bool (decide (w < 1))) (kp 12 (.bool (decide (w < 1))) ?_)))))))))))
  refine WpOps.fork 3 (decide (w < 1)) [13, 14, 15] 15 (true) (decide (w > 7)) (by kernel_rfl) (fun g15 => ?_) (fun g15 => ?_) (fun f_15 b15 hb15 => ?_)
  · refine um 13 (um 14 (kp 15 vT (WpOps.nil ?_) (hop := fun _ => o_pickT g15)) (hw := wants_tf g15)) (hw := wants_tf g15)
    exact ⟨rfl, (.upd rfl (.upd rfl (.upd rfl .refl))), (by kernel_rfl)⟩
  · refine kp 13 (vI w) (kp 14 (.bool (decide (w > 7))) (kp 15 (.bool (decide (w > 7))) (WpOps.nil ?_) (hop := fun _ => o_pickF g15)) (hw := wants_ff g15)) (hw := wants_ff g15)
    exact ⟨rfl, (.upd rfl (.upd rfl (.upd rfl .refl))), (by kernel_rfl)⟩
  refine kp 16 (.bool b15) ?_
  refine WpOps.fork 3 (b15) [17, 18, 19] 19 (true) (decide (wt < 1)) (by kernel_rfl) (fun g19 => ?_) (fun g19 => ?_) (fun f_19 b19 hb19 => ?_)
  · refine um 17 (um 18 (kp 19 vT (WpOps.nil ?_) (hop := fun _ => o_pickT g19)) (hw := wants_tf g19)) (hw := wants_tf g19)
    exact ⟨rfl, (.upd rfl (.upd rfl (.upd rfl .refl))), (by kernel_rfl)⟩
  · refine kp 17 (vI wt) (kp 18 (.bool (decide (wt < 1))) (kp 19 (.bool (decide (wt < 1))) (WpOps.nil ?_) (hop := fun _ => o_pickF g19)) (hw := wants_ff g19)) (hw := wants_ff g19)
    exact ⟨rfl, (.upd rfl (.upd rfl (.upd rfl .refl))), (by kernel_rfl)⟩
  refine kp 20 (.bool b19) ?_
  refine WpOps.fork 3 (b19) [21, 22, 23] 23 (true) (decide (wt > 50)) (by kernel_rfl) (fun g23 => ?_) (fun g23 => ?_) (fun f_23 b23 hb23 => ?_)
  · refine um 21 (um 22 (kp 23 vT (WpOps.nil ?_) (hop := fun _ => o_pickT g23)) (hw := wants_tf g23)) (hw := wants_tf g23)
    exact ⟨rfl, (.upd rfl (.upd rfl (.upd rfl .refl))), (by kernel_rfl)⟩
  · refine kp 21 (vI wt) (kp 22 (.bool (decide (wt > 50))) (kp 23 (.bool (decide (wt > 50))) (WpOps.nil ?_) (hop := fun _ => o_pickF g23)) (hw := wants_ff g23)) (hw := wants_ff g23)
    exact ⟨rfl, (.upd rfl (.upd rfl (.upd rfl .refl))), (by kernel_rfl)⟩
  refine kp 24 (.bool b23) ?_
  refine WpOps.fork 3 (b23) [25, 26, 27] 27 (true) (decide (t < 1)) (by kernel_rfl) (fun g27 => ?_) (fun g27 => ?_) (fun f_27 b27 hb27 => ?_)
  · refine um 25 (um 26 (kp 27 vT (WpOps.nil ?_) (hop := fun _ => o_pickT g27)) (hw := wants_tf g27)) (hw := wants_tf g27)
    exact ⟨rfl, (.upd rfl (.upd rfl (.upd rfl .refl))), (by kernel_rfl)⟩
  · refine kp 25 (vI t) (kp 26 (.bool (decide (t < 1))) (kp 27 (.bool (decide (t < 1))) (WpOps.nil ?_) (hop := fun _ => o_pickF g27)) (hw := wants_ff g27)) (hw := wants_ff g27)
    exact ⟨rfl, (.upd rfl (.upd rfl (.upd rfl .refl))), (by kernel_rfl)⟩
  refine kp 28 (.bool b27) ?_
  refine WpOps.fork 3 (b27) [29, 30, 31] 31 (true) (decide (t > 10)) (by kernel_rfl) (fun g31 => ?_) (fun g31 => ?_) (fun f_31 b31 hb31 => ?_)
  · refine um 29 (um 30 (kp 31 vT (WpOps.nil ?_) (hop := fun _ => o_pickT g31)) (hw := wants_tf g31)) (hw := wants_tf g31)
    exact ⟨rfl, (.upd rfl (.upd rfl (.upd rfl .refl))), (by kernel_rfl)⟩
  · refine kp 29 (vI t) (kp 30 (.bool (decide (t > 10))) (kp 31 (.bool (decide (t > 10))) (WpOps.nil ?_) (hop := fun _ => o_pickF g31)) (hw := wants_ff g31)) (hw := wants_ff g31)
    exact ⟨rfl, (.upd rfl (.upd rfl (.upd rfl .refl))), (by kernel_rfl)⟩
  refine WpOps.nil (thenK_at ?_)
  obtain rfl : b31 = true := by rw [hb31, hb27, hb23, hb19, hb15]; exact hn
  refine on' (Wp.seq (Wp.text (kp 8 (.pointer none) (kp 9 (vI 1) (WpOps.nil (thenK_at (Wp.ret (thenK_ret (endK_retn [Value.pointer none, vI 1] (Value.tuple #[Value.pointer none, vI 1]) (by kernel_rfl) (by kernel_rfl) ?_)))))))))
  rfl
theorem new43 (f : Bool) (w wt t : Nat) (hn : uNo w wt t = false) : Lent E 43 [.bool f, .int .i64 w, .int .i64 wt, .int .i64 t] [] (.tuple #[.pointer (some ⟨0, 0, none⟩), .int .i64 0]) [nR f w wt t] := by
  unfold uNo at hn
  refine Lent.of f43 rfl (of_decide_eq_true (by kernel_rfl)) rfl rfl (Nat.zero_le _) rfl rfl rfl ?_
  show Wp 0 E _ _ _ _ (endK E _ (LentEnd E 0 _ _))
  refine Wp.seq (Wp.text (kp 8 (.pointer none) (kp 9 (vI 0) (WpOps.nil (thenK_at (Wp.seq (Wp.seq (Wp.text (kp 10 (vI w) (kp 11 (.bool (decide ((↑w : Int) < 1))) (kp 12 (.bool (decide ((↑w : Int) < 1))) ?_)))))))))))
  refine WpOps.fork 3 (decide ((↑w : Int) < 1)) [13, 14, 15] 15 (true) (decide ((↑w : Int) > 7)) (by kernel_rfl) (fun g15 => ?_) (fun g15 => ?_) (fun f_15 b15 hb15 => ?_)
  · refine um 13 (um 14 (kp 15 vT (WpOps.nil ?_) (hop := fun _ => o_pickT g15)) (hw := wants_tf g15)) (hw := wants_tf g15)
    exact ⟨rfl, (.upd rfl (.upd rfl (.upd rfl .refl))), (by kernel_rfl)⟩
  · refine kp 13 (vI w) (kp 14 (.bool (decide ((↑w : Int) > 7))) (kp 15 (.bool (decide ((↑w : Int) > 7))) (WpOps.nil ?_) (hop := fun _ => o_pickF g15)) (hw := wants_ff g15)) (hw := wants_ff g15)
    exact ⟨rfl, (.upd rfl (.upd rfl (.upd rfl .refl))), (by kernel_rfl)⟩
  refine kp 16 (.bool b15) ?_
  refine WpOps.fork 3 (b15) [17, 18, 19] 19 (true) (decide ((↑wt : Int) < 1)) (by kernel_rfl) (fun g19 => ?_) (fun g19 => ?_) (fun f_19 b19 hb19 => ?_)
  · refine um 17 (um 18 (kp 19 vT (WpOps.nil ?_) (hop := fun _ => o_pickT g19)) (hw := wants_tf g19)) (hw := wants_tf g19)
    exact ⟨rfl, (.upd rfl (.upd rfl (.upd rfl .refl))), (by kernel_rfl)⟩
  · refine kp 17 (vI wt) (kp 18 (.bool (decide ((↑wt : Int) < 1))) (kp 19 (.bool (decide ((↑wt : Int) < 1))) (WpOps.nil ?_) (hop := fun _ => o_pickF g19)) (hw := wants_ff g19)) (hw := wants_ff g19)
    exact ⟨rfl, (.upd rfl (.upd rfl (.upd rfl .refl))), (by kernel_rfl)⟩
  refine kp 20 (.bool b19) ?_
  refine WpOps.fork 3 (b19) [21, 22, 23] 23 (true) (decide ((↑wt : Int) > 50)) (by kernel_rfl) (fun g23 => ?_) (fun g23 => ?_) (fun f_23 b23 hb23 => ?_)
  · refine um 21 (um 22 (kp 23 vT (WpOps.nil ?_) (hop := fun _ => o_pickT g23)) (hw := wants_tf g23)) (hw := wants_tf g23)
    exact ⟨rfl, (.upd rfl (.upd rfl (.upd rfl .refl))), (by kernel_rfl)⟩
  · refine kp 21 (vI wt) (kp 22 (.bool (decide ((↑wt : Int) > 50))) (kp 23 (.bool (decide ((↑wt : Int) > 50))) (WpOps.nil ?_) (hop := fun _ => o_pickF g23)) (hw := wants_ff g23)) (hw := wants_ff g23)
    exact ⟨rfl, (.upd rfl (.upd rfl (.upd rfl .refl))), (by kernel_rfl)⟩
  refine kp 24 (.bool b23) ?_
  refine WpOps.fork 3 (b23) [25, 26, 27] 27 (true) (decide ((↑t : Int) < 1)) (by kernel_rfl) (fun g27 => ?_) (fun g27 => ?_) (fun f_27 b27 hb27 => ?_)
  · refine um 25 (um 26 (kp 27 vT (WpOps.nil ?_) (hop := fun _ => o_pickT g27)) (hw := wants_tf g27)) (hw := wants_tf g27)
    exact ⟨rfl, (.upd rfl (.upd rfl (.upd rfl .refl))), (by kernel_rfl)⟩
  · refine kp 25 (vI t) (kp 26 (.bool (decide ((↑t : Int) < 1))) (kp 27 (.bool (decide ((↑t : Int) < 1))) (WpOps.nil ?_) (hop := fun _ => o_pickF g27)) (hw := wants_ff g27)) (hw := wants_ff g27)
    exact ⟨rfl, (.upd rfl (.upd rfl (.upd rfl .refl))), (by kernel_rfl)⟩
  refine kp 28 (.bool b27) ?_
  refine WpOps.fork 3 (b27) [29, 30, 31] 31 (true) (decide ((↑t : Int) > 10)) (by kernel_rfl) (fun g31 => ?_) (fun g31 => ?_) (fun f_31 b31 hb31 => ?_)
  · refine um 29 (um 30 (kp 31 vT (WpOps.nil ?_) (hop := fun _ => o_pickT g31)) (hw := wants_tf g31)) (hw := wants_tf g31)
    exact ⟨rfl, (.upd rfl (.upd rfl (.upd rfl .refl))), (by kernel_rfl)⟩
  · refine kp 29 (vI t) (kp 30 (.bool (decide ((↑t : Int) > 10))) (kp 31 (.bool (decide ((↑t : Int) > 10))) (WpOps.nil ?_) (hop := fun _ => o_pickF g31)) (hw := wants_ff g31)) (hw := wants_ff g31)
    exact ⟨rfl, (.upd rfl (.upd rfl (.upd rfl .refl))), (by kernel_rfl)⟩
  refine WpOps.nil (thenK_at ?_)
  obtain rfl : b31 = false := by rw [hb31, hb27, hb23, hb19, hb15]; exact hn
  refine off' (Wp.skip (thenK_at (Wp.seq (Wp.text (kp 32 (.bool f) (kp 33 (vI w) (kp 34 (vI wt) (kp 35 (vI t) (kp 36 (.agg #[vT, Value.bool f, vI w, vI wt, vI t, vI 0, vI 0, vI 0, vI 0, vI 0, vF, vF, vN, vN, vI 0, vI 0]) (md 37 (vP 0 0) (Blk.mk 92 true [vT, Value.bool f, vI w, vI wt, vI t, vI 0, vI 0, vI 0, vI 0, vI 0, vF, vF, vN, vN, vI 0, vI 0]) (kp 8 (vP 0 0) (kp 9 (vI 0) (WpOps.nil (thenK_at (Wp.ret (endK_retn [Value.pointer (some (Addr.mk 0 0 none)), vI 0] (Value.tuple #[Value.pointer (some (Addr.mk 0 0 none)), vI 0]) (by kernel_rfl) (by kernel_rfl) ?_))))))))))))))))
  exact ⟨[0], by decide, by decide, ⟨⟨(nR f w wt t).cells, by kernel_rfl, toldC_flat rfl⟩, trivial⟩, .tuple _ _ rfl rfl (.cons (.un rfl rfl) (.cons (.un rfl rfl) .nil))⟩
theorem f21 : E.funcs 21 = some Try.f21 := by kernel_rfl
def uvv (f : Bool) (w wt t : Int) : Value := .agg #[.bool f, .int .i64 w, .int .i64 wt, .int .i64 t]
theorem made21no (f : Bool) (w wt t : Int) (hn : uNo w wt t = true) : Fun E 21 [uvv f w wt t] (.tuple #[.pointer none, .pointer none, .bool true]) := by
  have c1 := new26no f w wt t hn
  have c2 := new43no f w wt t hn
  unfold uvv
  refine Fun.of f21 rfl (of_decide_eq_true (by kernel_rfl)) rfl ?_
  refine Wp.seq (Wp.text (md 1 (vP 0 0) (Blk.mk 53 true [Value.bool f, vI w, vI wt, vI t]) (kp 2 (.pointer none) (kp 3 (.pointer none) (kp 4 vF (WpOps.nil (thenK_at (Wp.seq (Wp.text (kp 10 (vP 0 0) (kp 11 (.bool f) (kp 12 (vP 0 1) (kp 13 (vI w) (kp 14 (vP 0 2) (kp 15 (vI wt) (kp 16 (vP 0 3) (kp 17 (vI t) (cl 18 26 [Value.bool f, vI w, vI wt, vI t] ?_))))))))))))))))))
  refine WpCall.consume [0] (c1) (by kernel_rfl) (by kernel_rfl) ?_
  refine kp 9 (.tuple #[Value.pointer none, vI 1]) (kp 19 (.pointer none) (kp 20 (vI 1) (kp 5 (.pointer none) (kp 6 (vI 1) (WpOps.nil (thenK_at (Wp.seq (Wp.text (kp 22 (vP 0 0) (kp 23 (.bool f) (kp 24 (vP 0 1) (kp 25 (vI w) (kp 26 (vP 0 2) (kp 27 (vI wt) (kp 28 (vP 0 3) (kp 29 (vI t) (cl 30 43 [Value.bool f, vI w, vI wt, vI t] ?_)))))))))))))))))
  refine WpCall.consume [0] (c2) (by kernel_rfl) (by kernel_rfl) ?_
  refine kp 21 (.tuple #[Value.pointer none, vI 1]) (kp 31 (.pointer none) (kp 32 (vI 1) (kp 7 (.pointer none) (kp 8 (vI 1) (WpOps.nil (thenK_at (Wp.seq (Wp.text (kp 33 (.pointer none) (kp 34 (.pointer none) (kp 35 (vI 1) (kp 36 (vI 1) (kp 37 vT (kp 38 vT (kp 39 (.pointer none) (kp 40 vT (kp 41 (.pointer none) (kp 42 vT (kp 43 vT (kp 44 vT (kp 2 (.pointer none) (kp 3 (.pointer none) (kp 4 vT (WpOps.nil (thenK_at (Wp.ret (endK_retn [Value.pointer none, Value.pointer none, vT] (Value.tuple #[Value.pointer none, Value.pointer none, vT]) (by kernel_rfl) (by kernel_rfl) ?_)))))))))))))))))))))))))))
  rfl
theorem made21 (f : Bool) (w wt t : Nat) (hn : uNo w wt t = false) : Lent E 21 [uvv f w wt t] [] (.tuple #[.pointer (some ⟨0, 0, none⟩), .pointer (some ⟨1, 0, none⟩), .bool true]) [nB f w wt t, nR f w wt t] := by
  have c1 := new26 f w wt t hn
  have c2 := new43 f w wt t hn
  unfold uvv
  refine Lent.of f21 rfl (of_decide_eq_true (by kernel_rfl)) rfl rfl (Nat.zero_le _) rfl rfl rfl ?_
  show Wp 0 E _ _ _ _ (endK E _ (LentEnd E 0 _ _))
  refine Wp.seq (Wp.text (md 1 (vP 0 0) (Blk.mk 53 true [Value.bool f, vI w, vI wt, vI t]) (kp 2 (.pointer none) (kp 3 (.pointer none) (kp 4 vF (WpOps.nil (thenK_at (Wp.seq (Wp.text (kp 10 (vP 0 0) (kp 11 (.bool f) (kp 12 (vP 0 1) (kp 13 (vI w) (kp 14 (vP 0 2) (kp 15 (vI wt) (kp 16 (vP 0 3) (kp 17 (vI t) (cl 18 26 [Value.bool f, vI w, vI wt, vI t] ?_))))))))))))))))))
  refine WpCall.lent [] (c1) (by decide) trivial (by kernel_rfl) (Value.tuple #[Value.pointer (some (Addr.mk (List.getD [1] 0 0) 0 none)), Value.int .i64 0]) ([Blk.mk 73 true [Value.int .i64 (St.left (St.new f w wt t)), Value.int .i64 (St.wait (St.new f w wt t)), Value.int .i64 (St.tried (St.new f w wt t)), Value.int .i64 (St.tries (St.new f w wt t)), Value.bool (St.first (St.new f w wt t)), Value.int .i64 (St.win (St.new f w wt t)), Value.int .i64 (St.state (St.new f w wt t)), Value.int .i64 (St.gen (St.new f w wt t)), Value.int .i64 (St.sent (St.new f w wt t)), Value.int .i64 (St.acked (St.new f w wt t)), Value.int .i64 (St.wanted (St.new f w wt t)), Value.bool (St.rej (St.new f w wt t)), Value.bool (St.ren (St.new f w wt t)), Value.slice none 0 0, Value.slice none 0 0, Value.slice none 0 0]]) (.cons (by kernel_rfl) .nil) (by kernel_rfl) (Heap.alloc (Heap.alloc (heapOf []) (Blk.mk 53 true [Value.bool f, Value.int .i64 w, Value.int .i64 wt, Value.int .i64 t])) (Blk.mk 73 true [Value.int .i64 (St.left (St.new f w wt t)), Value.int .i64 (St.wait (St.new f w wt t)), Value.int .i64 (St.tried (St.new f w wt t)), Value.int .i64 (St.tries (St.new f w wt t)), Value.bool (St.first (St.new f w wt t)), Value.int .i64 (St.win (St.new f w wt t)), Value.int .i64 (St.state (St.new f w wt t)), Value.int .i64 (St.gen (St.new f w wt t)), Value.int .i64 (St.sent (St.new f w wt t)), Value.int .i64 (St.acked (St.new f w wt t)), Value.int .i64 (St.wanted (St.new f w wt t)), Value.bool (St.rej (St.new f w wt t)), Value.bool (St.ren (St.new f w wt t)), Value.slice none 0 0, Value.slice none 0 0, Value.slice none 0 0])) (by kernel_rfl) ?_
  refine kp 9 (.tuple #[Value.pointer (some (Addr.mk (List.getD [1] 0 0) 0 none)), vI 0]) (kp 19 (vP 1 0) (kp 20 (vI 0) (kp 5 (vP 1 0) (kp 6 (vI 0) (WpOps.nil (thenK_at (Wp.seq (Wp.text (kp 22 (vP 0 0) (kp 23 (.bool f) (kp 24 (vP 0 1) (kp 25 (vI w) (kp 26 (vP 0 2) (kp 27 (vI wt) (kp 28 (vP 0 3) (kp 29 (vI t) (cl 30 43 [Value.bool f, vI w, vI wt, vI t] ?_)))))))))))))))))
  refine WpCall.lent [] (c2) (by decide) trivial (by kernel_rfl) (Value.tuple #[Value.pointer (some (Addr.mk (List.getD [2] 0 0) 0 none)), Value.int .i64 0]) ([Blk.mk 92 true [Value.bool true, Value.bool (St.first (St.new f w wt t)), Value.int .i64 (St.win (St.new f w wt t)), Value.int .i64 (St.wait (St.new f w wt t)), Value.int .i64 (St.tries (St.new f w wt t)), Value.int .i64 (St.state (St.new f w wt t)), Value.int .i64 (St.gen (St.new f w wt t)), Value.int .i64 (St.sent (St.new f w wt t)), Value.int .i64 (St.acked (St.new f w wt t)), Value.int .i64 (St.wanted (St.new f w wt t)), Value.bool (St.rej (St.new f w wt t)), Value.bool (St.ren (St.new f w wt t)), Value.slice none 0 0, Value.slice none 0 0, Value.int .i64 (St.left (St.new f w wt t)), Value.int .i64 (St.tried (St.new f w wt t))]]) (.cons (by kernel_rfl) .nil) (by kernel_rfl) (Heap.alloc (Heap.alloc (Heap.alloc (heapOf []) (Blk.mk 53 true [Value.bool f, Value.int .i64 w, Value.int .i64 wt, Value.int .i64 t])) (Blk.mk 73 true [Value.int .i64 (St.left (St.new f w wt t)), Value.int .i64 (St.wait (St.new f w wt t)), Value.int .i64 (St.tried (St.new f w wt t)), Value.int .i64 (St.tries (St.new f w wt t)), Value.bool (St.first (St.new f w wt t)), Value.int .i64 (St.win (St.new f w wt t)), Value.int .i64 (St.state (St.new f w wt t)), Value.int .i64 (St.gen (St.new f w wt t)), Value.int .i64 (St.sent (St.new f w wt t)), Value.int .i64 (St.acked (St.new f w wt t)), Value.int .i64 (St.wanted (St.new f w wt t)), Value.bool (St.rej (St.new f w wt t)), Value.bool (St.ren (St.new f w wt t)), Value.slice none 0 0, Value.slice none 0 0, Value.slice none 0 0])) (Blk.mk 92 true [Value.bool true, Value.bool (St.first (St.new f w wt t)), Value.int .i64 (St.win (St.new f w wt t)), Value.int .i64 (St.wait (St.new f w wt t)), Value.int .i64 (St.tries (St.new f w wt t)), Value.int .i64 (St.state (St.new f w wt t)), Value.int .i64 (St.gen (St.new f w wt t)), Value.int .i64 (St.sent (St.new f w wt t)), Value.int .i64 (St.acked (St.new f w wt t)), Value.int .i64 (St.wanted (St.new f w wt t)), Value.bool (St.rej (St.new f w wt t)), Value.bool (St.ren (St.new f w wt t)), Value.slice none 0 0, Value.slice none 0 0, Value.int .i64 (St.left (St.new f w wt t)), Value.int .i64 (St.tried (St.new f w wt t))])) (by kernel_rfl) ?_
  refine kp 21 (.tuple #[Value.pointer (some (Addr.mk (List.getD [2] 0 0) 0 none)), vI 0]) (kp 31 (vP 2 0) (kp 32 (vI 0) (kp 7 (vP 2 0) (kp 8 (vI 0) (WpOps.nil (thenK_at (Wp.seq (Wp.text (kp 33 (vP 1 0) (kp 34 (vP 2 0) (kp 35 (vI 0) (kp 36 (vI 0) (kp 37 vT (kp 38 vT (kp 39 (vP 1 0) (kp 40 vF (kp 41 (vP 2 0) (kp 42 vF (kp 43 vT (kp 44 vT (kp 2 (vP 1 0) (kp 3 (vP 2 0) (kp 4 vT (WpOps.nil (thenK_at (Wp.ret (endK_retn [Value.pointer (some (Addr.mk 1 0 none)), Value.pointer (some (Addr.mk 2 0 none)), vT] (Value.tuple #[Value.pointer (some (Addr.mk 1 0 none)), Value.pointer (some (Addr.mk 2 0 none)), vT]) (by kernel_rfl) (by kernel_rfl) ?_)))))))))))))))))))))))))))
  exact ⟨[1, 2], by decide, by decide, ⟨⟨(nB f w wt t).cells, by kernel_rfl, toldC_flat rfl⟩, ⟨(nR f w wt t).cells, by kernel_rfl, toldC_flat rfl⟩, trivial⟩, .tuple _ _ rfl rfl (.cons (.un rfl rfl) (.cons (.un rfl rfl) (.cons (.un rfl rfl) .nil)))⟩
open Go.Fw Go.RowKit

def bothIn (s r : St) (pre : List ByteArray) (nA : Nat) (cA : Array Value) : List Blk := [oB s pre.length 1 2 nA cA, qB (pre ++ s.queue), qB s.out, rB r]
theorem bothIn_ok (s r : St) (pre : List ByteArray) (nA : Nat) (cA : Array Value) : (bothIn s r pre nA cA).all (fun x => x.cells.all (okC (bothIn s r pre nA cA).length)) = true := by
  show ((oB s pre.length 1 2 nA cA).cells.all (okC 4) && ((qB (pre ++ s.queue)).cells.all (okC 4) && ((qB s.out).cells.all (okC 4) && ((rB r).cells.all (okC 4) && true)))) = true
  rw [ok_oB s pre.length 1 2 nA cA (by decide : 1 < 4) (by decide : 2 < 4), ok_qB, ok_qB]
  rfl
theorem obj4 {hR : Heap} {s : St} {p nA : Nat} {cA : Array Value} : All2 (ToldC E hR [0, 1, 2, 3] 4) (oB s p 1 2 nA cA).cells (oB s p 1 2 nA cA).cells := by
  have nn : ∀ n : Int, ToldC E hR [0, 1, 2, 3] 4 (.int .i64 n) (.int .i64 n) := fun n => .inl ⟨rfl, rfl⟩
  have bb : ∀ n : Bool, ToldC E hR [0, 1, 2, 3] 4 (.bool n) (.bool n) := fun n => .inl ⟨rfl, rfl⟩
  exact .cons (nn _) (.cons (nn _) (.cons (nn _) (.cons (nn _) (.cons (bb _) (.cons (nn _) (.cons (nn _) (.cons (nn _) (.cons (nn _) (.cons (nn _) (.cons (nn _) (.cons (bb _) (.cons (bb _) (.cons (.inl ⟨rfl, rfl⟩) (.cons (.inl ⟨rfl, rfl⟩) (.cons (.inl ⟨rfl, rfl⟩) .nil)))))))))))))))
theorem endBoth {h : Heap} {v v1 : Value} {s r : St} {pre : List ByteArray} {nA : Nat} {cA : Array Value} (h0 : h.get 0 = some (oB s pre.length 1 2 nA cA)) (h1 : h.get 1 = some (qB (pre ++ s.queue))) (h2 : h.get 2 = some (qB s.out)) (h3 : h.get 3 = some (rB r)) (hv : ToldV E (h.less [0, 1, 2, 3]) [0, 1, 2, 3] 4 v1 v) : LentEnd E 4 v (bothIn s r pre nA cA) v1 h :=
  ⟨[0, 1, 2, 3], by decide, by decide, ⟨⟨_, h0, obj4⟩, ⟨_, h1, toldC_flat (ss_flat _)⟩, ⟨_, h2, toldC_flat (ss_flat _)⟩, ⟨_, h3, toldC_flat rfl⟩, trivial⟩, hv⟩
theorem WpCall.gR {f : FuncId} {r : St} {v : Value} {h : Heap} {K : Value → Heap → Prop} (c : Lent E f [.pointer (some ⟨0, 0, none⟩)] [rB r] v [rB r]) (h3 : h.get 3 = some (rB r)) (hv : unT [3] v = v) (k : K v (h.set 3 (some (rB r)))) : WpCall E f [.pointer (some ⟨3, 0, none⟩)] h K :=
  WpCall.lent [3] c (by decide) ⟨⟨_, h3, rC_at r⟩, trivial⟩ rfl v [rB r] (.cons rfl .nil) hv _ rfl k
theorem f25 : E.funcs 25 = some Try.f25 := by kernel_rfl
theorem same25 (s : St) (tr : Nat) (rn : Bool) (pre : List ByteArray) (nA : Nat) (cA : Array Value) (hw : 1 ≤ s.win) : Lent E 25 [.pointer (some ⟨0, 0, none⟩), .pointer (some ⟨3, 0, none⟩)] (bothIn s { s with tried := tr, ren := rn } pre nA cA) (.bool true) (bothIn s { s with tried := tr, ren := rn } pre nA cA) := by
  have a1 := numbers31 s pre nA cA hw
  have a2 := state28 s pre nA cA hw
  have a3 := queue29 s pre nA cA hw
  have a4 := out20 s pre nA cA hw
  have a5 := generation30 s pre nA cA hw
  obtain ⟨r, hr⟩ : ∃ r, r = ({ s with tried := tr, ren := rn } : St) := ⟨_, rfl⟩
  have b1 := numbersR r
  have b2 := stateR r
  have b3 := queueR r
  have b4 := outR r
  have b5 := genR r
  have hf1 : (⟨9, true, ss (pre ++ s.queue)⟩ : Blk).cells.all flat = true := ss_flat _
  have hf2 : (⟨9, true, ss s.out⟩ : Blk).cells.all flat = true := ss_flat _
  have d1 : ((s.sent : Int) == (r.sent : Int)) = true := by rw [hr]; exact beq_self_eq_true _
  have d2 : ((s.acked : Int) == (r.acked : Int)) = true := by rw [hr]; exact beq_self_eq_true _
  have d3 : ((s.wanted : Int) == (r.wanted : Int)) = true := by rw [hr]; exact beq_self_eq_true _
  have d4 : ((s.state : Int) == (r.state : Int)) = true := by rw [hr]; exact beq_self_eq_true _
  have d5 : ((s.queue.length : Int) == (r.queue.length : Int)) = true := by rw [hr]; exact beq_self_eq_true _
  have d6 : ((s.out.length : Int) == (r.out.length : Int)) = true := by rw [hr]; exact beq_self_eq_true _
  have d7 : ((s.gen : Int) == (r.gen : Int)) = true := by rw [hr]; exact beq_self_eq_true _
  rw [← hr]
  clear hr
  refine Lent.of f25 rfl (of_decide_eq_true (by kernel_rfl)) rfl rfl (Nat.le_refl _) rfl (bothIn_ok _ _ _ _ _) rfl ?_
  show Wp 4 E _ _ _ _ (endK E _ (LentEnd E 4 _ _))
  unfold bothIn
  unfold onIn oB stC rowQ rowO at *
  unfold qB rB rC sv at *
  refine Wp.seq (Wp.text (kp 4 vF (WpOps.nil (thenK_at (Wp.seq (Wp.text (kp 12 (vP 0 0) (cl 13 31 [vP 0 0] (WpCall.gS (s := s) (pre := pre) (nA := nA) (cA := cA) a1 (by kernel_rfl) (by kernel_rfl) (by kernel_rfl) (by kernel_rfl) (kp 11 (.tuple #[vI (St.sent s), vI (St.acked s), vI (St.wanted s)]) (kp 14 (vI (St.sent s)) (kp 15 (vI (St.acked s)) (kp 16 (vI (St.wanted s)) (kp 5 (vI (St.sent s)) (kp 6 (vI (St.acked s)) (kp 7 (vI (St.wanted s)) (WpOps.nil (thenK_at (Wp.seq (Wp.text (kp 18 (vP 3 0) (cl 19 52 [vP 3 0] (WpCall.gR (r := r) b1 (by kernel_rfl) (by kernel_rfl) (kp 17 (.tuple #[vI (St.sent r), vI (St.acked r), vI (St.wanted r)]) (kp 20 (vI (St.sent r)) (kp 21 (vI (St.acked r)) (kp 22 (vI (St.wanted r)) (kp 8 (vI (St.sent r)) (kp 9 (vI (St.acked r)) (kp 10 (vI (St.wanted r)) (WpOps.nil (thenK_at (Wp.seq (Wp.text (kp 23 (vP 0 0) (cl 24 28 [vP 0 0] (WpCall.gS (s := s) (pre := pre) (nA := nA) (cA := cA) a2 (by kernel_rfl) (by kernel_rfl) (by kernel_rfl) (by kernel_rfl) (kp 25 (vP 3 0) (cl 26 53 [vP 3 0] (WpCall.gR (r := r) b2 (by kernel_rfl) (by kernel_rfl) (kp 27 vT ?_ (hop := fun _ => by_fact d4))))))))))))))))))))))))))))))))))))))))))
  refine kp 28 vT (kp 29 (vI (St.sent s)) (kp 30 (vI (St.sent r)) (kp 31 vT (kp 32 vT (kp 33 vT (kp 34 (vI (St.acked s)) (kp 35 (vI (St.acked r)) (kp 36 vT (kp 37 vT (kp 38 vT (kp 39 (vI (St.wanted s)) (kp 40 (vI (St.wanted r)) (kp 41 vT (kp 42 vT (kp 43 vT (kp 44 (vP 0 0) (cl 45 29 [vP 0 0] (WpCall.gS (s := s) (pre := pre) (nA := nA) (cA := cA) a3 (by kernel_rfl) (by kernel_rfl) (by kernel_rfl) (by kernel_rfl) (kp 46 (vP 3 0) (cl 47 54 [vP 3 0] (WpCall.gR (r := r) b3 (by kernel_rfl) (by kernel_rfl) (kp 48 vT (kp 49 vT (kp 50 vT (kp 51 (vP 0 0) (cl 52 20 [vP 0 0] (WpCall.gS (s := s) (pre := pre) (nA := nA) (cA := cA) a4 (by kernel_rfl) (by kernel_rfl) (by kernel_rfl) (by kernel_rfl) (kp 53 (vP 3 0) (cl 54 55 [vP 3 0] (WpCall.gR (r := r) b4 (by kernel_rfl) (by kernel_rfl) (kp 55 vT (kp 56 vT (kp 57 vT (kp 58 (vP 0 0) (cl 59 30 [vP 0 0] (WpCall.gS (s := s) (pre := pre) (nA := nA) (cA := cA) a5 (by kernel_rfl) (by kernel_rfl) (by kernel_rfl) (by kernel_rfl) ?_))))) (hop := fun _ => by_fact d6)))))))))) (hop := fun _ => by_fact d5)))))))))) (hop := fun _ => by_fact d3)))))) (hop := fun _ => by_fact d2)))))) (hop := fun _ => by_fact d1))))
  refine kp 60 (vP 3 0) (cl 61 56 [vP 3 0] (WpCall.gR (r := r) b5 (by kernel_rfl) (by kernel_rfl) (kp 62 vT (kp 63 vT (kp 4 vT (WpOps.nil (thenK_at (Wp.ret (endK_retn [vT] vT (by kernel_rfl) (by kernel_rfl) ?_)))))) (hop := fun _ => by_fact d7))))
  exact endBoth (by kernel_rfl) (by kernel_rfl) (by kernel_rfl) (by kernel_rfl) (.w (.un rfl rfl))
open Go.Fw Go.RowKit

theorem evl_drop : ∀ (l : List Evt) (i : Nat), i < l.length → ∃ e, (evl l).drop (i * 6) = evc e ++ evl (l.drop (i + 1)) ∧ i * 6 + 6 ≤ (evl l).length
  | e :: l, 0, _ => ⟨e, rfl, by rw [evl_len, List.length_cons]; omega⟩
  | e :: l, i + 1, h => by
    obtain ⟨e', h1, h2⟩ := evl_drop l i (by simpa using h)
    have h3 : evl (e :: l) = evc e ++ evl l := rfl
    have h4 : (evc e).length = 6 := rfl
    refine ⟨e', ?_, ?_⟩
    · rw [h3, show (i + 1) * 6 = 6 + i * 6 by omega, ← List.drop_drop, ← h4, List.drop_left]
      exact h1
    · rw [h3, List.length_append]
      omega
theorem evl_cell {l : List Evt} {i : Nat} (h : i < l.length) : ∃ e : Evt, cellsAt (evl l) ((i : Int).toNat * 6) 6 = some [.int .i64 e.way, .int .i64 e.kind, .int .i64 0, .int .i64 0, .int .i64 0, .string e.d] := by
  obtain ⟨e, h1, h2⟩ := evl_drop l i h
  refine ⟨e, ?_⟩
  rw [show (i : Int).toNat = i by omega]
  unfold cellsAt
  rw [if_pos h2, h1]
  rfl
theorem f24 : E.funcs 24 = some Try.f24 := by kernel_rfl
theorem events24 (l : List Evt) (hl : l.length ≤ 100000) : Fun E 24 [lv l, lv l] (.bool true) := by
  refine Fun.of f24 rfl (of_decide_eq_true (by kernel_rfl)) rfl ?_
  unfold lv
  have d0 : ((l.length : Int) != (l.length : Int)) = false := bne_self_eq_false _
  refine Wp.seq (Wp.text (kp 4 vF (WpOps.nil (thenK_at (Wp.seq (Wp.seq (Wp.text (kp 6 (lv l) (kp 7 (vI (List.length l)) (kp 8 (lv l) (kp 9 (vI (List.length l)) (kp 10 vF (WpOps.nil (thenK_at (off' (Wp.skip (thenK_at (Wp.seq (Wp.seq (Wp.text (kp 5 (vI 0) (WpOps.nil (thenK_at (Wp.block ?_)))))))))))) (hop := fun _ => by_fact d0)))))))))))))
  refine Wp.loop (G := Nat) (fun i => layj [(0, lv l), (1, lv l), (5, .int .i64 i)]) (fun i => Heap.none) (fun i => l.length - i) (fun i => i ≤ l.length) 0 ?_ (Nat.zero_le _) ?_
  · exact View.of [] [] _ (by decide) rfl trivial ⟨⟨by kernel_rfl, rfl⟩, ⟨by kernel_rfl, rfl⟩, ⟨by kernel_rfl, rfl⟩, trivial⟩
  intro i hi
  by_cases hc : i < l.length
  · have d1 : decide ((i : Int) < (l.length : Int)) = true := decide_eq_true (by omega)
    have g1 : (0 : Int) ≤ (i : Int) ∧ (i : Int) < (l.length : Int) := by omega
    obtain ⟨e, g2⟩ := evl_cell hc
    have w2 : IntKind.i64.wrap ((i : Int) + 1) = ((i + 1 : Nat) : Int) := by rw [wr _ (by omega) (by omega)]; omega
    unfold lv
    refine Wp.seq (Wp.seq (Wp.text (kp 11 (vI i) (kp 12 (lv l) (kp 13 (vI (List.length l)) (kp 14 vT (WpOps.nil (thenK_at (on' (Wp.skip (thenK_at (Wp.seq (Wp.block (Wp.seq (Wp.region (by kernel_rfl) (kp 17 (lv l) (kp 18 (vI i) (kp 19 (.iface 61 (Value.iface (Int.toNat (↑i : Int) * 6) (Value.agg (List.toArray (evl l))))) (kp 20 (.agg #[vI (Evt.way e), vI (Evt.kind e), vI 0, vI 0, vI 0, Value.string (Evt.d e)]) (kp 21 (lv l) (kp 22 (vI i) (kp 23 (.iface 61 (Value.iface (Int.toNat (↑i : Int) * 6) (Value.agg (List.toArray (evl l))))) (kp 24 (.agg #[vI (Evt.way e), vI (Evt.kind e), vI 0, vI 0, vI 0, Value.string (Evt.d e)]) (kp 25 (.bool !(fun q => Evt.way e == Evt.way e && q) ((fun q => Evt.kind e == Evt.kind e && q) ((fun q => true && q) ((fun q => true && q) ((fun q => true && q) ((fun q => ByteArray.toList (Evt.d e) == ByteArray.toList (Evt.d e) && q) true)))))) (WpOps.nil (thenK_at ?_))) (hop := fun _ => o_loadIA (Int.toNat (↑i : Int) * 6) g2)) (hop := fun _ => o_indexI (e := 61) (size := 6) (a := (↑i : Int)) g1)))) (hop := fun _ => o_loadIA (Int.toNat (↑i : Int) * 6) g2)) (hop := fun _ => o_indexI (e := 61) (size := 6) (a := (↑i : Int)) g1))))))))))))) (hop := fun _ => by_fact d1)))))))
    refine off' ?_ (hc := ev_fact (e := !(e.way == e.way && (e.kind == e.kind && (true && (true && (true && (e.d.toList == e.d.toList && true))))))) (by simp))
    refine Wp.skip (blockK_norm (thenK_at (Wp.text (kp 15 (vI i) (kp 16 (vI (IntKind.wrap .i64 ((↑i : Int) + 1))) (kp 5 (vI (IntKind.wrap .i64 ((↑i : Int) + 1))) (WpOps.nil (thenK_at ?_))))))))
    exact ⟨i + 1, by omega, by omega, View.of [] [] _ (by decide) rfl trivial ⟨⟨by kernel_rfl, rfl⟩, ⟨by kernel_rfl, rfl⟩, ⟨congrArg (Value.int .i64) w2, rfl⟩, trivial⟩⟩
  · have d1 : decide ((i : Int) < (l.length : Int)) = false := decide_eq_false (by omega)
    unfold lv
    refine Wp.seq (Wp.seq (Wp.text (kp 11 (vI i) (kp 12 (lv l) (kp 13 (vI (List.length l)) (kp 14 vF (WpOps.nil (thenK_at (off' (Wp.exit (thenK_exit (thenK_exit (blockK_hit (thenK_at (Wp.seq (Wp.text (kp 4 vT (WpOps.nil (thenK_at (Wp.ret (endK_retn [vT] vT (by kernel_rfl) (by kernel_rfl) ?_))))))))))))))) (hop := fun _ => by_fact d1)))))))
    rfl
end Go.Proofs.Ytgefohjickhldaa.D
