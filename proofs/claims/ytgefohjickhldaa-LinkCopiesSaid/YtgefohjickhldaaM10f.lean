/- A station that is acknowledged, and sends again; frames of a set, and that carry -/
import Derived.Test.YtgefohjickhldaaFwLem
import Derived.Test.YtgefohjickhldaaM10b
namespace Go.Proofs.Ytgefohjickhldaa.D
open Go.Fw Go.RowKit

theorem wrs (z : Int) (h0 : -9223372036854775808 ≤ z) (h1 : z ≤ 9223372036854775807) : IntKind.i64.wrap z = z := by
  rw [IntKind.wrap_i64]
  omega
theorem f84 : E.funcs 84 = some Try.f84 := by kernel_rfl
theorem acknowledge84 (s : St) (pre : List ByteArray) (r : Nat) (hr : r ≤ 7) (ha : s.acked ≤ 7) (ho : s.out.length ≤ 1000) : Ct 84 [.int .i64 r] s pre (.tuple #[]) (s.ack r) pre := by
  refine Ct.of f84 rfl (of_decide_eq_true (by kernel_rfl)) rfl rfl ?_
  have wn : (IntKind.i64.wrap (IntKind.i64.wrap ((r : Int) - s.acked) + 8)).tmod 8 = ((r + 8 - s.acked) % 8 : Nat) := by
    rw [wrs ((r : Int) - s.acked) (by omega) (by omega), wr _ (by omega) (by omega), Int.tmod_eq_emod_of_nonneg (by omega)]
    omega
  unfold St.ack
  generalize hn : (r + 8 - s.acked) % 8 = n at *
  by_cases hc : n = 0 ∨ n > s.out.length
  · rw [if_pos hc]
    unfold stIn sB stC rowQ rowO rowA qB aB
    refine Wp.seq (Wp.text (kp 5 (vI r) (kp 6 (vP 0 0) (kp 7 (vP 0 0) (kp 8 (vP 0 9) (kp 9 (vI (St.acked s)) (kp 10 (vI (IntKind.wrap .i64 ((↑r : Int) - (↑(St.acked s) : Int)))) (kp 11 (vI (IntKind.wrap .i64 (IntKind.wrap .i64 ((↑r : Int) - (↑(St.acked s) : Int)) + 8))) (kp 12 (vI (Int.tmod (IntKind.wrap .i64 (IntKind.wrap .i64 ((↑r : Int) - (↑(St.acked s) : Int)) + 8)) 8)) (kp 4 (vI (Int.tmod (IntKind.wrap .i64 (IntKind.wrap .i64 ((↑r : Int) - (↑(St.acked s) : Int)) + 8)) 8)) (WpOps.nil (thenK_at (Wp.seq (Wp.seq (Wp.text (kp 13 (vI (Int.tmod (IntKind.wrap .i64 (IntKind.wrap .i64 ((↑r : Int) - (↑(St.acked s) : Int)) + 8)) 8)) (kp 14 (.bool (Int.tmod (IntKind.wrap .i64 (IntKind.wrap .i64 ((↑r : Int) - (↑(St.acked s) : Int)) + 8)) 8 == 0)) (kp 15 (.bool (Int.tmod (IntKind.wrap .i64 (IntKind.wrap .i64 ((↑r : Int) - (↑(St.acked s) : Int)) + 8)) 8 == 0)) ?_))))))))))))))))))
    refine WpOps.fork 8 (Int.tmod (IntKind.wrap IntKind.i64 (IntKind.wrap IntKind.i64 ((↑r : Int) - (↑(St.acked s) : Int)) + 8)) 8 == 0) [16, 17, 18, 19, 20, 21, 22, 23] 23 (true) (decide (Int.tmod (IntKind.wrap IntKind.i64 (IntKind.wrap IntKind.i64 ((↑r : Int) - (↑(St.acked s) : Int)) + 8)) 8 > (↑(List.length (St.out s)) : Int))) (by kernel_rfl) (fun g23 => ?_) (fun g23 => ?_) (fun f_23 b23 hb23 => ?_)
    · refine um 16 (um 17 (um 18 (um 19 (um 20 (um 21 (um 22 (kp 23 vT (WpOps.nil ?_) (hop := fun _ => o_pickT g23)) (hw := wants_tf g23)) (hw := wants_tf g23)) (hw := wants_tf g23)) (hw := wants_tf g23)) (hw := wants_tf g23)) (hw := wants_tf g23)) (hw := wants_tf g23)
      exact ⟨rfl, (.upd rfl (.upd rfl (.upd rfl (.upd rfl (.upd rfl (.upd rfl (.upd rfl (.upd rfl .refl)))))))), (by kernel_rfl)⟩
    · refine kp 16 (vI (Int.tmod (IntKind.wrap .i64 (IntKind.wrap .i64 ((↑r : Int) - (↑(St.acked s) : Int)) + 8)) 8)) (kp 17 (vP 0 0) (kp 18 (vP 0 0) (kp 19 (vP 0 14) (kp 20 (.slice (some ⟨2, 0, none⟩) (List.length (St.out s)) (List.length (St.out s))) (kp 21 (vI (List.length (St.out s))) (kp 22 (.bool (decide (Int.tmod (IntKind.wrap .i64 (IntKind.wrap .i64 ((↑r : Int) - (↑(St.acked s) : Int)) + 8)) 8 > (↑(List.length (St.out s)) : Int)))) (kp 23 (.bool (decide (Int.tmod (IntKind.wrap .i64 (IntKind.wrap .i64 ((↑r : Int) - (↑(St.acked s) : Int)) + 8)) 8 > (↑(List.length (St.out s)) : Int)))) (WpOps.nil ?_) (hop := fun _ => o_pickF g23)) (hw := wants_ff g23)) (hw := wants_ff g23)) (hw := wants_ff g23)) (hw := wants_ff g23)) (hw := wants_ff g23)) (hw := wants_ff g23)) (hw := wants_ff g23)
      exact ⟨rfl, (.upd rfl (.upd rfl (.upd rfl (.upd rfl (.upd rfl (.upd rfl (.upd rfl (.upd rfl .refl)))))))), (by kernel_rfl)⟩
    refine WpOps.nil (thenK_at ?_)
    obtain rfl : b23 = true := by
      rw [hb23, wn]
      rcases hc with rfl | hc
      · rfl
      · rw [show decide ((n : Int) > s.out.length) = true from decide_eq_true (by omega)]
        cases ((n : Int) == 0) <;> rfl
    refine on' (Wp.ret (thenK_ret (endK_retn [] (Value.tuple #[]) (by kernel_rfl) (by kernel_rfl) ?_)))
    exact endSt 1 2 3 (by kernel_rfl) rfl (by decide) (.is rfl (by kernel_rfl) rfl rfl) (.is rfl (by kernel_rfl) rfl rfl) (.is rfl (by kernel_rfl) rfl rfl) rfl (fun _ => rfl) rfl
  · rw [if_neg hc]
    have c1 := del86 s.out n (by omega) (by omega) (by omega)
    have hf1 : (⟨9, true, ss s.out⟩ : Blk).cells.all flat = true := ss_flat _
    have hf2 : (ss (s.out.drop n) ++ ss (List.replicate n nob)).all flat = true := by rw [List.all_append, ss_flat, ss_flat]; rfl
    unfold stIn sB stC rowQ rowO rowA
    unfold qB aB at *
    refine Wp.seq (Wp.text (kp 5 (vI r) (kp 6 (vP 0 0) (kp 7 (vP 0 0) (kp 8 (vP 0 9) (kp 9 (vI (St.acked s)) (kp 10 (vI (IntKind.wrap .i64 ((↑r : Int) - (↑(St.acked s) : Int)))) (kp 11 (vI (IntKind.wrap .i64 (IntKind.wrap .i64 ((↑r : Int) - (↑(St.acked s) : Int)) + 8))) (kp 12 (vI (Int.tmod (IntKind.wrap .i64 (IntKind.wrap .i64 ((↑r : Int) - (↑(St.acked s) : Int)) + 8)) 8)) (kp 4 (vI (Int.tmod (IntKind.wrap .i64 (IntKind.wrap .i64 ((↑r : Int) - (↑(St.acked s) : Int)) + 8)) 8)) (WpOps.nil (thenK_at (Wp.seq (Wp.seq (Wp.text (kp 13 (vI (Int.tmod (IntKind.wrap .i64 (IntKind.wrap .i64 ((↑r : Int) - (↑(St.acked s) : Int)) + 8)) 8)) (kp 14 (.bool (Int.tmod (IntKind.wrap .i64 (IntKind.wrap .i64 ((↑r : Int) - (↑(St.acked s) : Int)) + 8)) 8 == 0)) (kp 15 (.bool (Int.tmod (IntKind.wrap .i64 (IntKind.wrap .i64 ((↑r : Int) - (↑(St.acked s) : Int)) + 8)) 8 == 0)) ?_))))))))))))))))))
    refine WpOps.fork 8 (Int.tmod (IntKind.wrap IntKind.i64 (IntKind.wrap IntKind.i64 ((↑r : Int) - (↑(St.acked s) : Int)) + 8)) 8 == 0) [16, 17, 18, 19, 20, 21, 22, 23] 23 (true) (decide (Int.tmod (IntKind.wrap IntKind.i64 (IntKind.wrap IntKind.i64 ((↑r : Int) - (↑(St.acked s) : Int)) + 8)) 8 > (↑(List.length (St.out s)) : Int))) (by kernel_rfl) (fun g23 => ?_) (fun g23 => ?_) (fun f_23 b23 hb23 => ?_)
    · refine um 16 (um 17 (um 18 (um 19 (um 20 (um 21 (um 22 (kp 23 vT (WpOps.nil ?_) (hop := fun _ => o_pickT g23)) (hw := wants_tf g23)) (hw := wants_tf g23)) (hw := wants_tf g23)) (hw := wants_tf g23)) (hw := wants_tf g23)) (hw := wants_tf g23)) (hw := wants_tf g23)
      exact ⟨rfl, (.upd rfl (.upd rfl (.upd rfl (.upd rfl (.upd rfl (.upd rfl (.upd rfl (.upd rfl .refl)))))))), (by kernel_rfl)⟩
    · refine kp 16 (vI (Int.tmod (IntKind.wrap .i64 (IntKind.wrap .i64 ((↑r : Int) - (↑(St.acked s) : Int)) + 8)) 8)) (kp 17 (vP 0 0) (kp 18 (vP 0 0) (kp 19 (vP 0 14) (kp 20 (.slice (some ⟨2, 0, none⟩) (List.length (St.out s)) (List.length (St.out s))) (kp 21 (vI (List.length (St.out s))) (kp 22 (.bool (decide (Int.tmod (IntKind.wrap .i64 (IntKind.wrap .i64 ((↑r : Int) - (↑(St.acked s) : Int)) + 8)) 8 > (↑(List.length (St.out s)) : Int)))) (kp 23 (.bool (decide (Int.tmod (IntKind.wrap .i64 (IntKind.wrap .i64 ((↑r : Int) - (↑(St.acked s) : Int)) + 8)) 8 > (↑(List.length (St.out s)) : Int)))) (WpOps.nil ?_) (hop := fun _ => o_pickF g23)) (hw := wants_ff g23)) (hw := wants_ff g23)) (hw := wants_ff g23)) (hw := wants_ff g23)) (hw := wants_ff g23)) (hw := wants_ff g23)) (hw := wants_ff g23)
      exact ⟨rfl, (.upd rfl (.upd rfl (.upd rfl (.upd rfl (.upd rfl (.upd rfl (.upd rfl (.upd rfl .refl)))))))), (by kernel_rfl)⟩
    refine WpOps.nil (thenK_at ?_)
    obtain rfl : b23 = false := by
      rw [hb23, wn, show ((n : Int) == 0) = false from beq_false_of_ne (by omega), show decide ((n : Int) > s.out.length) = false from decide_eq_false (by omega)]
      rfl
    refine off' (Wp.skip (thenK_at (Wp.seq (Wp.text (kp 24 (vP 0 0) (kp 25 (vP 0 0) (kp 26 (vP 0 0) (kp 27 (vP 0 14) (kp 28 (.slice (some ⟨2, 0, none⟩) (List.length (St.out s)) (List.length (St.out s))) (kp 29 (vI (Int.tmod (IntKind.wrap .i64 (IntKind.wrap .i64 ((↑r : Int) - (↑(St.acked s) : Int)) + 8)) 8)) (cl 30 86 [Value.slice (some ⟨2, 0, none⟩) (List.length (St.out s)) (List.length (St.out s)), vI 0, vI (Int.tmod (IntKind.wrap .i64 (IntKind.wrap .i64 ((↑r : Int) - (↑(St.acked s) : Int)) + 8)) 8)] ?_)))))))))))
    rw [wn]
    refine WpCall.lent [2] (c1) (by decide) ⟨⟨_, (by kernel_rfl), CellsOk.eq rfl (by assumption)⟩, trivial⟩ (by kernel_rfl) (Value.slice (some (Addr.mk (List.getD [2] 0 0) 0 none)) (List.length (St.out s) - n) (List.length (St.out s))) ([Blk.mk 9 true (ss (List.drop n (St.out s)) ++ ss (List.replicate n nob))]) (.cons (unB_flat (by assumption)) .nil) (by kernel_rfl) (Heap.set (heapOf [Blk.mk 73 true [Value.int .i64 (St.left s), Value.int .i64 (St.wait s), Value.int .i64 (St.tried s), Value.int .i64 (St.tries s), Value.bool (St.first s), Value.int .i64 (St.win s), Value.int .i64 (St.state s), Value.int .i64 (St.gen s), Value.int .i64 (St.sent s), Value.int .i64 (St.acked s), Value.int .i64 (St.wanted s), Value.bool (St.rej s), Value.bool (St.ren s), Value.slice (some (Addr.mk 1 (List.length pre) none)) (List.length (St.queue s)) (List.length (St.queue s)), Value.slice (some (Addr.mk 2 0 none)) (List.length (St.out s)) (List.length (St.out s)), Value.slice (some (Addr.mk 3 0 none)) (List.length (St.ans s)) (List.length (St.ans s))], Blk.mk 9 true (ss (pre ++ St.queue s)), Blk.mk 9 true (ss (St.out s)), Blk.mk 61 true (evl (St.ans s))]) 2 (some (Blk.mk 9 true (ss (List.drop n (St.out s)) ++ ss (List.replicate n nob))))) (by kernel_rfl) ?_
    refine kp 31 (vP 0 0) (kp 32 (vP 0 14) (ld (.tuple #[]) (0) (Blk.mk 73 true [vI (St.left s), vI (St.wait s), vI (St.tried s), vI (St.tries s), Value.bool (St.first s), vI (St.win s), vI (St.state s), vI (St.gen s), vI (St.sent s), vI (St.acked s), vI (St.wanted s), Value.bool (St.rej s), Value.bool (St.ren s), Value.slice (some (Addr.mk 1 (List.length pre) none)) (List.length (St.queue s)) (List.length (St.queue s)), Value.slice (some (Addr.mk (List.getD [2] 0 0) 0 none)) (List.length (St.out s) - n) (List.length (St.out s)), Value.slice (some ⟨3, 0, none⟩) (List.length (St.ans s)) (List.length (St.ans s))]) (WpOps.nil (thenK_at (Wp.seq (Wp.text (kp 33 (vP 0 0) (kp 34 (vI r) (kp 35 (vP 0 0) (kp 36 (vP 0 9) (cg0 (.tuple #[]) (Heap.set (Heap.set (Heap.set (heapOf [Blk.mk 73 true [vI (St.left s), vI (St.wait s), vI (St.tried s), vI (St.tries s), Value.bool (St.first s), vI (St.win s), vI (St.state s), vI (St.gen s), vI (St.sent s), vI (St.acked s), vI (St.wanted s), Value.bool (St.rej s), Value.bool (St.ren s), Value.slice (some (Addr.mk 1 (List.length pre) none)) (List.length (St.queue s)) (List.length (St.queue s)), Value.slice (some ⟨2, 0, none⟩) (List.length (St.out s)) (List.length (St.out s)), Value.slice (some ⟨3, 0, none⟩) (List.length (St.ans s)) (List.length (St.ans s))], Blk.mk 9 true (ss (pre ++ St.queue s)), Blk.mk 9 true (ss (St.out s)), Blk.mk 61 true (evl (St.ans s))]) 2 (some (Blk.mk 9 true (ss (List.drop n (St.out s)) ++ ss (List.replicate n nob))))) 0 (some (Blk.mk 73 true [vI (St.left s), vI (St.wait s), vI (St.tried s), vI (St.tries s), Value.bool (St.first s), vI (St.win s), vI (St.state s), vI (St.gen s), vI (St.sent s), vI (St.acked s), vI (St.wanted s), Value.bool (St.rej s), Value.bool (St.ren s), Value.slice (some (Addr.mk 1 (List.length pre) none)) (List.length (St.queue s)) (List.length (St.queue s)), Value.slice (some ⟨2, 0, none⟩) (List.length (St.out s) - n) (List.length (St.out s)), Value.slice (some ⟨3, 0, none⟩) (List.length (St.ans s)) (List.length (St.ans s))]))) 0 (some (Blk.mk 73 true [vI (St.left s), vI (St.wait s), vI (St.tried s), vI (St.tries s), Value.bool (St.first s), vI (St.win s), vI (St.state s), vI (St.gen s), vI (St.sent s), vI r, vI (St.wanted s), Value.bool (St.rej s), Value.bool (St.ren s), Value.slice (some (Addr.mk 1 (List.length pre) none)) (List.length (St.queue s)) (List.length (St.queue s)), Value.slice (some ⟨2, 0, none⟩) (List.length (St.out s) - n) (List.length (St.out s)), Value.slice (some ⟨3, 0, none⟩) (List.length (St.ans s)) (List.length (St.ans s))]))) ?_)))))))))))
    refine WpOps.nil (thenK_at (Wp.seq (Wp.text (kp 37 (vP 0 0) (kp 38 (vP 0 0) (kp 39 (vP 0 0) (kp 40 (vP 0 0) (kp 41 (vP 0 2) (ld (.tuple #[]) (0) (Blk.mk 73 true [vI (St.left s), vI (St.wait s), vI 0, vI (St.tries s), Value.bool (St.first s), vI (St.win s), vI (St.state s), vI (St.gen s), vI (St.sent s), vI r, vI (St.wanted s), Value.bool (St.rej s), Value.bool (St.ren s), Value.slice (some (Addr.mk 1 (List.length pre) none)) (List.length (St.queue s)) (List.length (St.queue s)), Value.slice (some ⟨2, 0, none⟩) (List.length (St.out s) - n) (List.length (St.out s)), Value.slice (some ⟨3, 0, none⟩) (List.length (St.ans s)) (List.length (St.ans s))]) (kp 42 (vP 0 0) (kp 43 (vP 0 0) (kp 44 (vP 0 0) (ld (.tuple #[]) (0) (Blk.mk 73 true [vI 0, vI (St.wait s), vI 0, vI (St.tries s), Value.bool (St.first s), vI (St.win s), vI (St.state s), vI (St.gen s), vI (St.sent s), vI r, vI (St.wanted s), Value.bool (St.rej s), Value.bool (St.ren s), Value.slice (some (Addr.mk 1 (List.length pre) none)) (List.length (St.queue s)) (List.length (St.queue s)), Value.slice (some ⟨2, 0, none⟩) (List.length (St.out s) - n) (List.length (St.out s)), Value.slice (some ⟨3, 0, none⟩) (List.length (St.ans s)) (List.length (St.ans s))]) ?_)))))))))))))
    refine WpOps.nil (thenK_at (Wp.seq (Wp.text (kp 45 (vP 0 0) (kp 46 (vP 0 0) (kp 47 (vP 0 14) (kp 48 (.slice (some ⟨2, 0, none⟩) (List.length (St.out s) - n) (List.length (St.out s))) (kp 49 (vI (↑(List.length (St.out s) - n) : Int)) (kp 50 (.bool (decide ((↑(List.length (St.out s) - n) : Int) > 0))) (WpOps.nil (thenK_at ?_)))))))))))
    have hle : (s.out.drop n).length = s.out.length - n := List.length_drop
    by_cases he : s.out.drop n = []
    · have d1 : decide (((s.out.length - n : Nat) : Int) > 0) = false := decide_eq_false (by rw [he] at hle; simp only [List.length_nil] at hle; omega)
      rw [if_pos he]
      refine off' (Wp.skip (endK_norm [] (Value.tuple #[]) (by kernel_rfl) (by kernel_rfl) ?_)) (hc := ev_fact d1)
      rw [← hle]
      exact endSt 1 2 3 (by kernel_rfl) rfl (by decide) (.is rfl (by kernel_rfl) rfl rfl) (.own s.out.length (ss (List.replicate n nob)) rfl (by dsimp only; omega) (by kernel_rfl)) (.is rfl (by kernel_rfl) rfl rfl) rfl (fun _ => rfl) rfl
    · have d1 : decide (((s.out.length - n : Nat) : Int) > 0) = true := decide_eq_true (by have := List.length_pos_iff.2 he; omega)
      rw [if_neg he]
      refine on' (Wp.text (kp 51 (vP 0 0) (kp 52 (vP 0 0) (kp 53 (vP 0 0) (kp 54 (vP 0 0) (kp 55 (vP 0 1) (kp 56 (vI (St.wait s)) (kp 57 (vP 0 0) (kp 58 (vP 0 0) (kp 59 (vP 0 0) (ld (.tuple #[]) (0) (Blk.mk 73 true [vI (St.wait s), vI (St.wait s), vI 0, vI (St.tries s), Value.bool (St.first s), vI (St.win s), vI (St.state s), vI (St.gen s), vI (St.sent s), vI r, vI (St.wanted s), Value.bool (St.rej s), Value.bool (St.ren s), Value.slice (some (Addr.mk 1 (List.length pre) none)) (List.length (St.queue s)) (List.length (St.queue s)), Value.slice (some ⟨2, 0, none⟩) (List.length (St.out s) - n) (List.length (St.out s)), Value.slice (some ⟨3, 0, none⟩) (List.length (St.ans s)) (List.length (St.ans s))]) (WpOps.nil (endK_norm [] (Value.tuple #[]) (by kernel_rfl) (by kernel_rfl) ?_))))))))))))) (hc := ev_fact d1)
      rw [← hle]
      exact endSt 1 2 3 (by kernel_rfl) rfl (by decide) (.is rfl (by kernel_rfl) rfl rfl) (.own s.out.length (ss (List.replicate n nob)) rfl (by dsimp only; omega) (by kernel_rfl)) (.is rfl (by kernel_rfl) rfl rfl) rfl (fun _ => rfl) rfl
/-- Only what is answered moves. -/
def stOutA (s : St) (pre : List ByteArray) : List (Option Blk) := [some (sB s pre.length 1 2 4), some (qB (pre ++ s.queue)), some (qB s.out), none, some (aB s.ans)]
def CtA (f : FuncId) (args : List Value) (s : St) (pre : List ByteArray) (v : Value) (s' : St) : Prop :=
  LentP E f (.pointer (some ⟨0, 0, none⟩) :: args) (stIn s pre) v (stOutA s' pre)
theorem CtA.of {f : FuncId} {fn : Func} {c : Code} {args : List Value} {s s' : St} {pre : List ByteArray} {v : Value} (hf : E.funcs f = some fn) (hb : fn.body = some c) (hl : args.length + 1 ≤ fn.ntmps) (ha : args.all (okV 4) = true) (hv : okT 5 v = true)
    (hw : Wp 4 E fn.ntmps c (slots0 (.pointer (some ⟨0, 0, none⟩) :: args)) (heapOf (stIn s pre)) (endK E fn (LentO E 4 v (stOutA s' pre)))) : CtA f args s pre v s' := by
  refine ⟨?_, rfl, rfl, (by decide : (4 : Nat) ≤ 5), ?_, ?_, hv⟩
  · have := SCall.enterO (E := E) (bs := (stIn s pre).map some) (bs' := stOutA s' pre) (args := .pointer (some ⟨0, 0, none⟩) :: args) (v := v) hf hb hl rfl rfl (by decide : (4 : Nat) ≤ 5) (by rw [← heapO_of]; exact hw)
    rw [← heapO_of] at this
    exact this
  · show (okV 4 (.pointer (some ⟨0, 0, none⟩)) && args.all (okV 4)) = true
    rw [ha]
    rfl
  · intro x hx
    simp only [stOutA, List.mem_cons, List.not_mem_nil, or_false, Option.some.injEq, reduceCtorEq, false_or] at hx
    rcases hx with rfl | rfl | rfl | rfl
    · exact ok_sB _ _ _ _ _ (by decide : 1 < 5) (by decide : 2 < 5) (by decide : 4 < 5)
    · exact ok_qB _
    · exact ok_qB _
    · exact ok_aB _
def behindA (h : Heap) (b0 b1 b2 b3 : Nat) (s' : St) (pre : List ByteArray) : Heap :=
  ((((h.set b0 (some (sB s' pre.length b1 b2 h.next))).set b1 (some (qB (pre ++ s'.queue)))).set b2 (some (qB s'.out))).set b3 none).alloc (aB s'.ans)
theorem WpCall.stA {f : FuncId} {args args0 : List Value} {s s' : St} {pre : List ByteArray} {v : Value} {h : Heap} {K : Value → Heap → Prop} (b0 b1 b2 b3 : Nat) (c : CtA f args s pre v s') (hd : [b0, b1, b2, b3].Nodup) {cells : List Value} (h0 : h.get b0 = some ⟨73, true, cells⟩) (hc : cells = stC s (rowQ s pre.length b1) (rowO s b2) (rowA s b3))
    (h1 : h.get b1 = some (qB (pre ++ s.queue))) (h2 : h.get b2 = some (qB s.out)) (h3 : h.get b3 = some (aB s.ans)) (ha : args0 = .pointer (some ⟨b0, 0, none⟩) :: args.map (unV [b0, b1, b2, b3])) (hv : ∀ rl, unT rl v = v) (k : K v (behindA h b0 b1 b2 b3 s' pre)) : WpCall E f args0 h K := by
  subst hc
  refine WpCall.lentP [b0, b1, b2, b3] c hd ⟨⟨_, h0, ?_⟩, ⟨_, h1, CellsOk.eq rfl (ss_flat _)⟩, ⟨_, h2, CellsOk.eq rfl (ss_flat _)⟩, ⟨_, h3, CellsOk.eq rfl (evl_flat _)⟩, trivial⟩ (by rw [ha]; rfl) v
    [some (sB s' pre.length b1 b2 h.next), some (qB (pre ++ s'.queue)), some (qB s'.out), none, some (aB s'.ans)]
    (.cons ?_ (.cons (congrArg some (unB_flat (ss_flat _))) (.cons (congrArg some (unB_flat (ss_flat _))) (.cons rfl (.cons (congrArg some (unB_flat (evl_flat _))) .nil))))) (hv _) _ rfl k
  · exact ⟨rfl, ok_sB _ _ _ _ _ (by decide : 1 < 4) (by decide : 2 < 4) (by decide : 3 < 4)⟩
  · rfl
theorem blksA {h : Heap} {s' : St} {pre' : List ByteArray} (a : Nat) {cells : List Value} {vq vo va : Value} (h0 : h.get 0 = some ⟨73, true, cells⟩) (hc : cells = stC s' vq vo va) (hd : [0, 1, 2, a].Nodup) (rq' : RowE h 9 vq 1 pre'.length s'.queue.length (ss (pre' ++ s'.queue))) (ro' : RowE h 9 vo 2 0 s'.out.length (ss s'.out)) (ra' : RowE h 61 va a 0 s'.ans.length (evl s'.ans))
    : BlksO E h [0, 1, 2, 3, a] 5 [0, 1, 2, 3, a] (stOutA s' pre') := by
  subst hc
  refine ⟨OneO.cells _ h0 ?_, rq'.one (ss_flat _), ro'.one (ss_flat _), ra'.one (evl_flat _), trivial⟩
  · have nn : ∀ n : Int, TC E (h.less [0, 1, 2, 3, a]) [0, 1, 2, 3, a] 5 (.int .i64 n) (.int .i64 n) := fun n => .un rfl rfl
    have bb : ∀ n : Bool, TC E (h.less [0, 1, 2, 3, a]) [0, 1, 2, 3, a] 5 (.bool n) (.bool n) := fun n => .un rfl rfl
    exact .cons (nn _) (.cons (nn _) (.cons (nn _) (.cons (nn _) (.cons (bb _) (.cons (nn _) (.cons (nn _) (.cons (nn _) (.cons (nn _) (.cons (nn _) (.cons (nn _) (.cons (bb _) (.cons (bb _) (.cons (rq'.cell (b := 1) (by decide : 1 < 5) rfl) (.cons (ro'.cell (b := 2) (by decide : 2 < 5) rfl) (.cons (ra'.cell (b := 4) (by decide : 4 < 5) rfl) .nil)))))))))))))))
theorem endStA {h : Heap} {v v1 : Value} {s' : St} {pre' : List ByteArray} (a : Nat) {cells : List Value} {vq vo va : Value} (h0 : h.get 0 = some ⟨73, true, cells⟩) (hc : cells = stC s' vq vo va) (hd : [0, 1, 2, a].Nodup) (rq' : RowE h 9 vq 1 pre'.length s'.queue.length (ss (pre' ++ s'.queue))) (ro' : RowE h 9 vo 2 0 s'.out.length (ss s'.out)) (ra' : RowE h 61 va a 0 s'.ans.length (evl s'.ans))
    (hv : v1 = v) (hu : ∀ rl, unV rl v = v) (hf : okV 5 v = true) : LentO E 4 v (stOutA s' pre') v1 h := by
  refine ⟨[0, 1, 2, 3, a], hd, rfl, blksA a h0 hc hd rq' ro' ra', ?_⟩
  subst hv
  exact .w (.un (hu _).symm hf)
theorem viewA {n : Nat} {sl : Slots} {l : List (Nat × Value)} {h : Heap} {s' : St} {pre' : List ByteArray} (a : Nat) {cells : List Value} {vq vo va : Value} (h0 : h.get 0 = some ⟨73, true, cells⟩) (hc : cells = stC s' vq vo va) (hd : [0, 1, 2, a].Nodup) (rq' : RowE h 9 vq 1 pre'.length s'.queue.length (ss (pre' ++ s'.queue))) (ro' : RowE h 9 vo 2 0 s'.out.length (ss s'.out)) (ra' : RowE h 61 va a 0 s'.ans.length (evl s'.ans))
    (hs : SlotsOk [0, 1, 2, 3, a] 5 sl l) : View 4 E n sl h (layj l) (heapO (stOutA s' pre')) :=
  View.ofO [0, 1, 2, 3, a] (stOutA s' pre') l hd rfl (blksA a h0 hc hd rq' ro' ra') hs.told
theorem sendA (s : St) (pre : List ByteArray) (k n r : Nat) (d : ByteArray) (hk : k ≤ 8) (hA : s.ans.length ≤ 1000000) : CtA 63 [.int .u8 k, .int .i64 n, .int .i64 r, .string d] s pre (.tuple #[]) (s.snd k n r d) := by
  refine CtA.of f63 rfl (of_decide_eq_true (by kernel_rfl)) rfl rfl ?_
  obtain ⟨e, c1⟩ := frame_fb k s.gen n r d
  have c2 := frame10 k s.gen n r d
  rw [c1] at c2
  have w1 : IntKind.i64.wrap (k : Int) = k := wr _ (by omega) (by omega)
  have q0 : cellsAt (evl s.ans) 0 (s.ans.length * 6) = some (evl s.ans) := cellsAt_all _ (evl_len _)
  have q1 : ¬ s.ans.length + 1 ≤ s.ans.length := by omega
  have q2 : 1 ≤ 56 ∧ (s.ans.length + 1) * 56 ≤ 140737488355328 ∧ 6 = 6 ∧ s.ans.length + 1 ≤ 9223372036854775807 := by omega
  unfold stIn sB stC rowQ rowO rowA qB aB
  refine Wp.seq (Wp.text (kp 13 (.int .u8 (↑k : Int)) (kp 14 (vI (IntKind.wrap .i64 (↑k : Int))) (kp 15 (vP 0 0) (kp 16 (vP 0 0) (kp 17 (vP 0 7) (kp 18 (vI (St.gen s)) (kp 19 (vI n) (kp 20 (vI r) (kp 21 (.string d) (fr 22 10 [vI (IntKind.wrap .i64 (↑k : Int)), vI (St.gen s), vI n, vI r, Value.string d] ?_)))))))))))
  rw [w1]
  refine WpFun.of (c2) (kp 12 (.tuple #[Value.string (fb k (St.gen s) n r d), vI e]) (kp 23 (.string (fb k (St.gen s) n r d)) (kp 24 (vI e) (kp 10 (.string (fb k (St.gen s) n r d)) (kp 11 (vI e) (WpOps.nil (thenK_at (Wp.text (kp 25 (vP 0 0) (kp 26 (vP 0 0) (kp 27 (vP 0 0) (kp 28 (vP 0 15) (kp 29 (.slice (some ⟨3, 0, none⟩) (List.length (St.ans s)) (List.length (St.ans s))) (kp 30 (.string (fb k (St.gen s) n r d)) (kp 31 (.agg #[vI 1, vI 0, vI 0, vI 0, vI 0, Value.string (fb k (St.gen s) n r d)]) (md 32 (.slice (some ⟨4, 0, none⟩) 1 1) (Blk.mk 61 true [vI 1, vI 0, vI 0, vI 0, vI 0, Value.string (fb k (St.gen s) n r d)]) ?_))))))))))))))))
  refine ra 33 (.slice (some ⟨5, 0, none⟩) (List.length (St.ans s) + 1) (List.length (St.ans s) + 1)) (3) (Blk.mk 61 true (evl (St.ans s) ++ [Value.int .i64 1, Value.int .i64 0, Value.int .i64 0, Value.int .i64 0, Value.int .i64 0, Value.string (fb k (St.gen s) n r d)])) ?_ (hop := fun _ => o_append (e := 61) (3) (0) (List.length (St.ans s)) _ (List.length (St.ans s)) q1 q2 q0)
  refine kp 34 (vP 0 0) (kp 35 (vP 0 15) (ld (.tuple #[]) (0) (Blk.mk 73 true [vI (St.left s), vI (St.wait s), vI (St.tried s), vI (St.tries s), Value.bool (St.first s), vI (St.win s), vI (St.state s), vI (St.gen s), vI (St.sent s), vI (St.acked s), vI (St.wanted s), Value.bool (St.rej s), Value.bool (St.ren s), Value.slice (some (Addr.mk 1 (List.length pre) none)) (List.length (St.queue s)) (List.length (St.queue s)), Value.slice (some ⟨2, 0, none⟩) (List.length (St.out s)) (List.length (St.out s)), Value.slice (some ⟨5, 0, none⟩) (List.length (St.ans s) + 1) (List.length (St.ans s) + 1)]) (WpOps.nil (endK_norm [] (Value.tuple #[]) (by kernel_rfl) (by kernel_rfl) ?_))))
  exact endStA 5 (by kernel_rfl) rfl (by decide) (.is rfl (by kernel_rfl) rfl rfl) (.is rfl (by kernel_rfl) rfl rfl) (.is rfl (by kernel_rfl) (ans_succ _ _) (ans_app _ _)) rfl (fun _ => rfl) rfl
theorem agnN_len (s : St) (i : Nat) : (s.agnN i).ans.length = s.ans.length + i := by simp [St.agnN]
theorem agnN_succ (s : St) (i : Nat) : (s.agnN i).snd 3 ((s.acked + i) % 8) s.wanted (s.out.getD i nob) = s.agnN (i + 1) := by
  unfold St.agnN St.snd
  simp only [List.range_succ, List.map_append, List.map_cons, List.map_nil, List.append_assoc]
theorem f71 : E.funcs 71 = some Try.f71 := by kernel_rfl
theorem again71 (s : St) (pre : List ByteArray) (ha : s.acked ≤ 7) (ho : s.out.length ≤ 7) (hA : s.ans.length ≤ 100000) : Ct 71 [] s pre (.tuple #[]) s.agn pre := by
  refine Ct.of f71 rfl (of_decide_eq_true (by kernel_rfl)) rfl rfl ?_
  unfold stIn sB stC rowQ rowO rowA qB aB
  refine Wp.seq (Wp.text (kp 4 (vP 0 0) (kp 5 (vP 0 0) (kp 6 (vP 0 14) (kp 7 (.slice (some ⟨2, 0, none⟩) (List.length (St.out s)) (List.length (St.out s))) (kp 8 (vI (List.length (St.out s))) (kp 9 (vI 0) (WpOps.nil (thenK_at (Wp.block ?_))))))))))
  refine Wp.loop (G := Nat) (fun i => layj [(0, .pointer (some ⟨0, 0, none⟩)), (7, .slice (some ⟨2, 0, none⟩) s.out.length s.out.length), (8, .int .i64 s.out.length), (9, .int .i64 i)]) (fun i => heapO (stOutA (s.agnN i) pre)) (fun i => s.out.length - i) (fun i => i ≤ s.out.length) 0 ?_ (Nat.zero_le _) ?_
  · have e0 : s.agnN 0 = s := by unfold St.agnN; simp
    rw [e0]
    exact viewA 3 (by kernel_rfl) rfl (by decide) (.is rfl (by kernel_rfl) rfl rfl) (.is rfl (by kernel_rfl) rfl rfl) (.is rfl (by kernel_rfl) rfl rfl) ⟨⟨by kernel_rfl, rfl⟩, ⟨by kernel_rfl, rfl⟩, ⟨by kernel_rfl, rfl⟩, ⟨by kernel_rfl, rfl⟩, trivial⟩
  intro i hi
  by_cases hc : i < s.out.length
  · have d1 : decide ((i : Int) < (s.out.length : Int)) = true := decide_eq_true (by omega)
    have g1 : (0 : Int) ≤ (i : Int) ∧ (i : Int) < (s.out.length : Int) := by omega
    have g2 : (ss (s.agnN i).out)[0 + (i : Int).toNat * 1]? = some (.string (s.out.getD i nob)) := by
      rw [show 0 + (i : Int).toNat * 1 = i by omega]
      show (ss s.out)[i]? = _
      unfold ss
      rw [List.getElem?_map, List.getElem?_eq_getElem hc, List.getD_eq_getElem?_getD, List.getElem?_eq_getElem hc]
      rfl
    have w1 : (IntKind.i64.wrap (((s.agnN i).acked : Int) + i)).tmod 8 = ((s.acked + i) % 8 : Nat) := by
      show (IntKind.i64.wrap ((s.acked : Int) + i)).tmod 8 = _
      rw [wr _ (by omega) (by omega), Int.tmod_eq_emod_of_nonneg (by omega)]
      omega
    have w2 : IntKind.i64.wrap ((i : Int) + 1) = ((i + 1 : Nat) : Int) := by rw [wr _ (by omega) (by omega)]; omega
    have c1 := sendA (s.agnN i) pre 3 ((s.acked + i) % 8) s.wanted (s.out.getD i nob) (by decide) (by rw [agnN_len]; omega)
    rw [agnN_succ] at c1
    unfold stOutA sB stC rowQ rowO rowA
    unfold qB aB
    refine Wp.seq (Wp.text (kp 10 vT (WpOps.nil (thenK_at (Wp.seq (on' (Wp.skip (thenK_at (Wp.seq (Wp.block (Wp.seq (Wp.text (kp 11 (vI i) (kp 12 (.pointer (some (Addr.mk 2 (0 + Int.toNat (↑i : Int) * 1) none))) (kp 13 (.string (List.getD (St.out s) i nob)) (kp 2 (vI i) (kp 3 (.string (List.getD (St.out s) i nob)) (WpOps.nil (thenK_at (Wp.region (by kernel_rfl) (kp 14 (vP 0 0) (kp 15 (vP 0 0) (kp 16 (vP 0 0) (kp 17 (vP 0 9) (kp 18 (vI (St.acked (St.agnN s i))) (kp 19 (vI i) (kp 20 (vI (IntKind.wrap .i64 ((↑(St.acked (St.agnN s i)) : Int) + (↑i : Int)))) (kp 21 (vI (Int.tmod (IntKind.wrap .i64 ((↑(St.acked (St.agnN s i)) : Int) + (↑i : Int))) 8)) (kp 22 (vP 0 0) (kp 23 (vP 0 0) (kp 24 (vP 0 10) (kp 25 (vI (St.wanted (St.agnN s i))) (kp 26 (.string (List.getD (St.out s) i nob)) (cl 27 63 [vP 0 0, Value.int .u8 3, vI (Int.tmod (IntKind.wrap .i64 ((↑(St.acked (St.agnN s i)) : Int) + (↑i : Int))) 8), vI (St.wanted (St.agnN s i)), Value.string (List.getD (St.out s) i nob)] ?_))))))))))))))))))) (hop := fun _ => o_load1 (2) (0 + Int.toNat (↑i : Int) * 1) g2)) (hop := fun _ => o_indexAddr (a := (↑i : Int)) (bl := 2) (off := 0) (size := 1) 9 (List.length (St.out s)) g1))))))))))))) (hop := fun _ => by_fact d1)))
    rw [w1]
    refine WpCall.stA 0 1 2 4 c1 (by decide) (by kernel_rfl) rfl (by kernel_rfl) (by kernel_rfl) (by kernel_rfl) rfl (fun _ => rfl) ?_
    unfold behindA sB stC rowQ rowO rowA qB aB
    refine WpOps.nil (blockK_norm (thenK_at (Wp.text (kp 28 (vI (IntKind.wrap .i64 ((↑i : Int) + 1))) (kp 9 (vI (IntKind.wrap .i64 ((↑i : Int) + 1))) (WpOps.nil (thenK_at ?_)))))))
    exact ⟨i + 1, by omega, by omega, viewA 5 (by kernel_rfl) rfl (by decide) (.is rfl (by kernel_rfl) rfl rfl) (.is rfl (by kernel_rfl) rfl rfl) (.is rfl (by kernel_rfl) rfl rfl) ⟨⟨by kernel_rfl, rfl⟩, ⟨by kernel_rfl, rfl⟩, ⟨by kernel_rfl, rfl⟩, ⟨congrArg (Value.int .i64) w2, rfl⟩, trivial⟩⟩
  · have d1 : decide ((i : Int) < (s.out.length : Int)) = false := decide_eq_false (by omega)
    obtain rfl : i = s.out.length := by omega
    unfold stOutA sB stC rowQ rowO rowA qB aB
    refine Wp.seq (Wp.text (kp 10 vF (WpOps.nil (thenK_at (Wp.seq (off' (Wp.exit (thenK_exit (thenK_exit (blockK_hit (endK_norm [] (Value.tuple #[]) (by kernel_rfl) (by kernel_rfl) ?_))))))))) (hop := fun _ => by_fact d1)))
    exact endSt 1 2 4 (by kernel_rfl) rfl (by decide) (.is rfl (by kernel_rfl) rfl rfl) (.is rfl (by kernel_rfl) rfl rfl) (.is rfl (by kernel_rfl) rfl rfl) rfl (fun _ => rfl) rfl
open Go.Fw Go.RowKit

theorem f65 : E.funcs 65 = some Try.f65 := by kernel_rfl
theorem setFrame65 (s : St) (pre : List ByteArray) (g : Nat) (hA : s.ans.length ≤ 100000) : ∃ pre', Ct 65 [.int .i64 g] s pre (.tuple #[]) (s.setf false g) pre' := by
  unfold St.setf
  by_cases hc : s.first = true ∨ s.state = 3
  · rw [if_pos hc]
    refine ⟨pre, Ct.of f65 rfl (of_decide_eq_true (by kernel_rfl)) rfl rfl ?_⟩
    unfold stIn sB stC rowQ rowO rowA qB aB
    refine Wp.seq (Wp.seq (Wp.text (kp 5 (vP 0 0) (kp 6 (vP 0 0) (kp 7 (vP 0 4) (kp 8 (.bool (St.first s)) (kp 9 (.bool (St.first s)) ?_)))))))
    refine WpOps.fork 6 (St.first s) [10, 11, 12, 13, 14, 15] 15 (true) ((↑(St.state s) : Int) == 3) (by kernel_rfl) (fun g15 => ?_) (fun g15 => ?_) (fun f_15 b15 hb15 => ?_)
    · refine um 10 (um 11 (um 12 (um 13 (um 14 (kp 15 vT (WpOps.nil ?_) (hop := fun _ => o_pickT g15)) (hw := wants_tf g15)) (hw := wants_tf g15)) (hw := wants_tf g15)) (hw := wants_tf g15)) (hw := wants_tf g15)
      exact ⟨rfl, (.upd rfl (.upd rfl (.upd rfl (.upd rfl (.upd rfl (.upd rfl .refl)))))), (by kernel_rfl)⟩
    · refine kp 10 (vP 0 0) (kp 11 (vP 0 0) (kp 12 (vP 0 6) (kp 13 (vI (St.state s)) (kp 14 (.bool ((↑(St.state s) : Int) == 3)) (kp 15 (.bool ((↑(St.state s) : Int) == 3)) (WpOps.nil ?_) (hop := fun _ => o_pickF g15)) (hw := wants_ff g15)) (hw := wants_ff g15)) (hw := wants_ff g15)) (hw := wants_ff g15)) (hw := wants_ff g15)
      exact ⟨rfl, (.upd rfl (.upd rfl (.upd rfl (.upd rfl (.upd rfl (.upd rfl .refl)))))), (by kernel_rfl)⟩
    refine WpOps.nil (thenK_at ?_)
    obtain rfl : b15 = true := by
      rw [hb15]
      rcases hc with hc | hc
      · rw [hc]; rfl
      · rw [hc]; cases s.first <;> rfl
    refine on' (Wp.ret (thenK_ret (endK_retn [] (Value.tuple #[]) (by kernel_rfl) (by kernel_rfl) ?_)))
    exact endSt 1 2 3 (by kernel_rfl) rfl (by decide) (.is rfl (by kernel_rfl) rfl rfl) (.is rfl (by kernel_rfl) rfl rfl) (.is rfl (by kernel_rfl) rfl rfl) rfl (fun _ => rfl) rfl
  rw [if_neg hc]
  have hcf : (bif s.first then true else (s.state : Int) == 3) = false := by
    cases hf : s.first with
    | true => exact absurd (.inl hf) hc
    | false => exact beq_false_of_ne (fun h => hc (.inr (by omega)))
  by_cases hg : g = s.gen
  · rw [if_pos hg]
    have d1 : ((g : Int) == (s.gen : Int)) = true := by rw [hg]; exact beq_self_eq_true _
    by_cases h2 : s.state = 2
    · rw [if_pos h2]
      have d2 : ((s.state : Int) == 2) = true := by rw [h2]; rfl
      have c1 := send63 s pre 2 0 0 nob (by decide) (by omega)
      refine ⟨pre, Ct.of f65 rfl (of_decide_eq_true (by kernel_rfl)) rfl rfl ?_⟩
      unfold stIn sB stC rowQ rowO rowA qB aB
      refine Wp.seq (Wp.seq (Wp.text (kp 5 (vP 0 0) (kp 6 (vP 0 0) (kp 7 (vP 0 4) (kp 8 (.bool (St.first s)) (kp 9 (.bool (St.first s)) ?_)))))))
      refine WpOps.fork 6 (St.first s) [10, 11, 12, 13, 14, 15] 15 (true) ((↑(St.state s) : Int) == 3) (by kernel_rfl) (fun g15 => ?_) (fun g15 => ?_) (fun f_15 b15 hb15 => ?_)
      · refine um 10 (um 11 (um 12 (um 13 (um 14 (kp 15 vT (WpOps.nil ?_) (hop := fun _ => o_pickT g15)) (hw := wants_tf g15)) (hw := wants_tf g15)) (hw := wants_tf g15)) (hw := wants_tf g15)) (hw := wants_tf g15)
        exact ⟨rfl, (.upd rfl (.upd rfl (.upd rfl (.upd rfl (.upd rfl (.upd rfl .refl)))))), (by kernel_rfl)⟩
      · refine kp 10 (vP 0 0) (kp 11 (vP 0 0) (kp 12 (vP 0 6) (kp 13 (vI (St.state s)) (kp 14 (.bool ((↑(St.state s) : Int) == 3)) (kp 15 (.bool ((↑(St.state s) : Int) == 3)) (WpOps.nil ?_) (hop := fun _ => o_pickF g15)) (hw := wants_ff g15)) (hw := wants_ff g15)) (hw := wants_ff g15)) (hw := wants_ff g15)) (hw := wants_ff g15)
        exact ⟨rfl, (.upd rfl (.upd rfl (.upd rfl (.upd rfl (.upd rfl (.upd rfl .refl)))))), (by kernel_rfl)⟩
      refine WpOps.nil (thenK_at ?_)
      obtain rfl : b15 = false := by rw [hb15]; exact hcf
      refine off' (Wp.skip (thenK_at (Wp.seq (Wp.seq (Wp.text (kp 16 (vI g) (kp 17 (vP 0 0) (kp 18 (vP 0 0) (kp 19 (vP 0 7) (kp 20 (vI (St.gen s)) (kp 21 vT (WpOps.nil (thenK_at (on' (Wp.seq (Wp.seq (Wp.text (kp 22 (vP 0 0) (kp 23 (vP 0 0) (kp 24 (vP 0 6) (kp 25 (vI (St.state s)) (kp 26 vT (WpOps.nil (thenK_at (on' (Wp.text (kp 27 (vP 0 0) (cl 28 63 [vP 0 0, Value.int .u8 2, vI 0, vI 0, Value.string (ByteArray.mk #[])] ?_)))))) (hop := fun _ => by_fact d2)))))))))))) (hop := fun _ => by_fact d1))))))))))))
      refine WpCall.st 0 1 2 3 c1 (by decide) (by kernel_rfl) rfl (by kernel_rfl) (by kernel_rfl) (by kernel_rfl) rfl (fun _ => rfl) ?_
      unfold behind sB stC rowQ rowO rowA qB aB
      refine WpOps.nil (thenK_at (Wp.ret (thenK_ret (endK_retn [] (Value.tuple #[]) (by kernel_rfl) (by kernel_rfl) ?_))))
      exact endSt 4 5 6 (by kernel_rfl) rfl (by decide) (.is rfl (by kernel_rfl) rfl rfl) (.is rfl (by kernel_rfl) rfl rfl) (.is rfl (by kernel_rfl) rfl rfl) rfl (fun _ => rfl) rfl
    · rw [if_neg h2]
      have d2 : ((s.state : Int) == 2) = false := beq_false_of_ne (by omega)
      refine ⟨pre, Ct.of f65 rfl (of_decide_eq_true (by kernel_rfl)) rfl rfl ?_⟩
      unfold stIn sB stC rowQ rowO rowA qB aB
      refine Wp.seq (Wp.seq (Wp.text (kp 5 (vP 0 0) (kp 6 (vP 0 0) (kp 7 (vP 0 4) (kp 8 (.bool (St.first s)) (kp 9 (.bool (St.first s)) ?_)))))))
      refine WpOps.fork 6 (St.first s) [10, 11, 12, 13, 14, 15] 15 (true) ((↑(St.state s) : Int) == 3) (by kernel_rfl) (fun g15 => ?_) (fun g15 => ?_) (fun f_15 b15 hb15 => ?_)
      · refine um 10 (um 11 (um 12 (um 13 (um 14 (kp 15 vT (WpOps.nil ?_) (hop := fun _ => o_pickT g15)) (hw := wants_tf g15)) (hw := wants_tf g15)) (hw := wants_tf g15)) (hw := wants_tf g15)) (hw := wants_tf g15)
        exact ⟨rfl, (.upd rfl (.upd rfl (.upd rfl (.upd rfl (.upd rfl (.upd rfl .refl)))))), (by kernel_rfl)⟩
      · refine kp 10 (vP 0 0) (kp 11 (vP 0 0) (kp 12 (vP 0 6) (kp 13 (vI (St.state s)) (kp 14 (.bool ((↑(St.state s) : Int) == 3)) (kp 15 (.bool ((↑(St.state s) : Int) == 3)) (WpOps.nil ?_) (hop := fun _ => o_pickF g15)) (hw := wants_ff g15)) (hw := wants_ff g15)) (hw := wants_ff g15)) (hw := wants_ff g15)) (hw := wants_ff g15)
        exact ⟨rfl, (.upd rfl (.upd rfl (.upd rfl (.upd rfl (.upd rfl (.upd rfl .refl)))))), (by kernel_rfl)⟩
      refine WpOps.nil (thenK_at ?_)
      obtain rfl : b15 = false := by rw [hb15]; exact hcf
      refine off' (Wp.skip (thenK_at (Wp.seq (Wp.seq (Wp.text (kp 16 (vI g) (kp 17 (vP 0 0) (kp 18 (vP 0 0) (kp 19 (vP 0 7) (kp 20 (vI (St.gen s)) (kp 21 vT (WpOps.nil (thenK_at (on' (Wp.seq (Wp.seq (Wp.text (kp 22 (vP 0 0) (kp 23 (vP 0 0) (kp 24 (vP 0 6) (kp 25 (vI (St.state s)) (kp 26 vF (WpOps.nil (thenK_at (off' (Wp.skip (thenK_at (Wp.ret (thenK_ret (endK_retn [] (Value.tuple #[]) (by kernel_rfl) (by kernel_rfl) ?_)))))))) (hop := fun _ => by_fact d2)))))))))))) (hop := fun _ => by_fact d1))))))))))))
      exact endSt 1 2 3 (by kernel_rfl) rfl (by decide) (.is rfl (by kernel_rfl) rfl rfl) (.is rfl (by kernel_rfl) rfl rfl) (.is rfl (by kernel_rfl) rfl rfl) rfl (fun _ => rfl) rfl
  · rw [if_neg hg]
    have d1 : ((g : Int) == (s.gen : Int)) = false := beq_false_of_ne (by omega)
    obtain ⟨s1, hs1⟩ : ∃ s1, s1 = ({ s with gen := g } : St) := ⟨_, rfl⟩
    have c1 := send63 s1 pre 2 0 0 nob (by decide) (by subst hs1; show s.ans.length ≤ _; omega)
    have c2 := rise67 (s1.snd 2 0 0 nob) pre
    rw [← hs1]
    by_cases h2 : s.state = 2
    · have d2 : ((s1.snd 2 0 0 nob).state : Int) == 2 := by subst hs1; show ((s.state : Int) == 2) = true; rw [h2]; rfl
      have c3 := tell66 ((s1.snd 2 0 0 nob).rise false) [] 4 nob (by subst hs1; show (s.ans ++ _).length ≤ _; rw [List.length_append]; show s.ans.length + 1 ≤ _; omega)
      rw [if_pos h2]
      refine ⟨[], Ct.of f65 rfl (of_decide_eq_true (by kernel_rfl)) rfl rfl ?_⟩
      unfold stIn sB stC rowQ rowO rowA qB aB
      refine Wp.seq (Wp.seq (Wp.text (kp 5 (vP 0 0) (kp 6 (vP 0 0) (kp 7 (vP 0 4) (kp 8 (.bool (St.first s)) (kp 9 (.bool (St.first s)) ?_)))))))
      refine WpOps.fork 6 (St.first s) [10, 11, 12, 13, 14, 15] 15 (true) ((↑(St.state s) : Int) == 3) (by kernel_rfl) (fun g15 => ?_) (fun g15 => ?_) (fun f_15 b15 hb15 => ?_)
      · refine um 10 (um 11 (um 12 (um 13 (um 14 (kp 15 vT (WpOps.nil ?_) (hop := fun _ => o_pickT g15)) (hw := wants_tf g15)) (hw := wants_tf g15)) (hw := wants_tf g15)) (hw := wants_tf g15)) (hw := wants_tf g15)
        exact ⟨rfl, (.upd rfl (.upd rfl (.upd rfl (.upd rfl (.upd rfl (.upd rfl .refl)))))), (by kernel_rfl)⟩
      · refine kp 10 (vP 0 0) (kp 11 (vP 0 0) (kp 12 (vP 0 6) (kp 13 (vI (St.state s)) (kp 14 (.bool ((↑(St.state s) : Int) == 3)) (kp 15 (.bool ((↑(St.state s) : Int) == 3)) (WpOps.nil ?_) (hop := fun _ => o_pickF g15)) (hw := wants_ff g15)) (hw := wants_ff g15)) (hw := wants_ff g15)) (hw := wants_ff g15)) (hw := wants_ff g15)
        exact ⟨rfl, (.upd rfl (.upd rfl (.upd rfl (.upd rfl (.upd rfl (.upd rfl .refl)))))), (by kernel_rfl)⟩
      refine WpOps.nil (thenK_at ?_)
      obtain rfl : b15 = false := by rw [hb15]; exact hcf
      refine off' (Wp.skip (thenK_at (Wp.seq (Wp.seq (Wp.text (kp 16 (vI g) (kp 17 (vP 0 0) (kp 18 (vP 0 0) (kp 19 (vP 0 7) (kp 20 (vI (St.gen s)) (kp 21 vF (WpOps.nil (thenK_at (off' (Wp.skip (thenK_at (Wp.seq (Wp.text (kp 29 (vP 0 0) (kp 30 (vI g) (kp 31 (vP 0 0) (kp 32 (vP 0 7) (ld (.tuple #[]) (0) (Blk.mk 73 true [vI (St.left s), vI (St.wait s), vI (St.tried s), vI (St.tries s), Value.bool (St.first s), vI (St.win s), vI (St.state s), vI g, vI (St.sent s), vI (St.acked s), vI (St.wanted s), Value.bool (St.rej s), Value.bool (St.ren s), Value.slice (some (Addr.mk 1 (List.length pre) none)) (List.length (St.queue s)) (List.length (St.queue s)), Value.slice (some ⟨2, 0, none⟩) (List.length (St.out s)) (List.length (St.out s)), Value.slice (some ⟨3, 0, none⟩) (List.length (St.ans s)) (List.length (St.ans s))]) (WpOps.nil (thenK_at (Wp.seq (Wp.text (kp 33 (vP 0 0) (cl 34 63 [vP 0 0, Value.int .u8 2, vI 0, vI 0, Value.string (ByteArray.mk #[])] ?_)))))))))))))))))) (hop := fun _ => by_fact d1))))))))))))
      refine WpCall.st 0 1 2 3 c1 (by decide) (by kernel_rfl) (by subst hs1; rfl) (by subst hs1; kernel_rfl) (by subst hs1; kernel_rfl) (by subst hs1; kernel_rfl) rfl (fun _ => rfl) ?_
      unfold behind sB stC rowQ rowO rowA qB aB
      refine WpOps.nil (thenK_at (Wp.seq (Wp.text (kp 4 (vI 1) (WpOps.nil (thenK_at (Wp.seq (Wp.seq (Wp.text (kp 35 (vP 0 0) (kp 36 (vP 0 0) (kp 37 (vP 0 6) (kp 38 (vI (St.state (St.snd 2 0 0 nob s1))) (kp 39 vT (WpOps.nil (thenK_at (on' (Wp.text (kp 4 (vI 4) (WpOps.nil (thenK_at (Wp.seq (Wp.text (kp 40 (vP 0 0) (cl 41 67 [vP 0 0] ?_))))))))))) (hop := fun _ => by_fact d2)))))))))))))))
      refine WpCall.st 0 4 5 6 c2 (by decide) (by kernel_rfl) rfl (by kernel_rfl) (by kernel_rfl) (by kernel_rfl) rfl (fun _ => rfl) ?_
      unfold behind sB stC rowQ rowO rowA qB aB
      refine WpOps.nil (thenK_at (Wp.text (kp 42 (vP 0 0) (kp 43 (vI 4) (cl 44 66 [vP 0 0, vI 4, Value.string (ByteArray.mk #[])] ?_)))))
      refine WpCall.st 0 7 8 9 c3 (by decide) (by kernel_rfl) rfl (by kernel_rfl) (by kernel_rfl) (by kernel_rfl) rfl (fun _ => rfl) ?_
      unfold behind sB stC rowQ rowO rowA qB aB
      refine WpOps.nil (endK_norm [] (Value.tuple #[]) (by kernel_rfl) (by kernel_rfl) ?_)
      exact endSt 10 11 12 (by kernel_rfl) rfl (by decide) (.is rfl (by kernel_rfl) rfl rfl) (.is rfl (by kernel_rfl) rfl rfl) (.is rfl (by kernel_rfl) rfl rfl) rfl (fun _ => rfl) rfl
    · have d2 : (((s1.snd 2 0 0 nob).state : Int) == 2) = false := by subst hs1; exact beq_false_of_ne (by show (s.state : Int) ≠ 2; omega)
      have c3 := tell66 ((s1.snd 2 0 0 nob).rise false) [] 1 nob (by subst hs1; show (s.ans ++ _).length ≤ _; rw [List.length_append]; show s.ans.length + 1 ≤ _; omega)
      rw [if_neg h2]
      refine ⟨[], Ct.of f65 rfl (of_decide_eq_true (by kernel_rfl)) rfl rfl ?_⟩
      unfold stIn sB stC rowQ rowO rowA qB aB
      refine Wp.seq (Wp.seq (Wp.text (kp 5 (vP 0 0) (kp 6 (vP 0 0) (kp 7 (vP 0 4) (kp 8 (.bool (St.first s)) (kp 9 (.bool (St.first s)) ?_)))))))
      refine WpOps.fork 6 (St.first s) [10, 11, 12, 13, 14, 15] 15 (true) ((↑(St.state s) : Int) == 3) (by kernel_rfl) (fun g15 => ?_) (fun g15 => ?_) (fun f_15 b15 hb15 => ?_)
      · refine um 10 (um 11 (um 12 (um 13 (um 14 (kp 15 vT (WpOps.nil ?_) (hop := fun _ => o_pickT g15)) (hw := wants_tf g15)) (hw := wants_tf g15)) (hw := wants_tf g15)) (hw := wants_tf g15)) (hw := wants_tf g15)
        exact ⟨rfl, (.upd rfl (.upd rfl (.upd rfl (.upd rfl (.upd rfl (.upd rfl .refl)))))), (by kernel_rfl)⟩
      · refine kp 10 (vP 0 0) (kp 11 (vP 0 0) (kp 12 (vP 0 6) (kp 13 (vI (St.state s)) (kp 14 (.bool ((↑(St.state s) : Int) == 3)) (kp 15 (.bool ((↑(St.state s) : Int) == 3)) (WpOps.nil ?_) (hop := fun _ => o_pickF g15)) (hw := wants_ff g15)) (hw := wants_ff g15)) (hw := wants_ff g15)) (hw := wants_ff g15)) (hw := wants_ff g15)
        exact ⟨rfl, (.upd rfl (.upd rfl (.upd rfl (.upd rfl (.upd rfl (.upd rfl .refl)))))), (by kernel_rfl)⟩
      refine WpOps.nil (thenK_at ?_)
      obtain rfl : b15 = false := by rw [hb15]; exact hcf
      refine off' (Wp.skip (thenK_at (Wp.seq (Wp.seq (Wp.text (kp 16 (vI g) (kp 17 (vP 0 0) (kp 18 (vP 0 0) (kp 19 (vP 0 7) (kp 20 (vI (St.gen s)) (kp 21 vF (WpOps.nil (thenK_at (off' (Wp.skip (thenK_at (Wp.seq (Wp.text (kp 29 (vP 0 0) (kp 30 (vI g) (kp 31 (vP 0 0) (kp 32 (vP 0 7) (ld (.tuple #[]) (0) (Blk.mk 73 true [vI (St.left s), vI (St.wait s), vI (St.tried s), vI (St.tries s), Value.bool (St.first s), vI (St.win s), vI (St.state s), vI g, vI (St.sent s), vI (St.acked s), vI (St.wanted s), Value.bool (St.rej s), Value.bool (St.ren s), Value.slice (some (Addr.mk 1 (List.length pre) none)) (List.length (St.queue s)) (List.length (St.queue s)), Value.slice (some ⟨2, 0, none⟩) (List.length (St.out s)) (List.length (St.out s)), Value.slice (some ⟨3, 0, none⟩) (List.length (St.ans s)) (List.length (St.ans s))]) (WpOps.nil (thenK_at (Wp.seq (Wp.text (kp 33 (vP 0 0) (cl 34 63 [vP 0 0, Value.int .u8 2, vI 0, vI 0, Value.string (ByteArray.mk #[])] ?_)))))))))))))))))) (hop := fun _ => by_fact d1))))))))))))
      refine WpCall.st 0 1 2 3 c1 (by decide) (by kernel_rfl) (by subst hs1; rfl) (by subst hs1; kernel_rfl) (by subst hs1; kernel_rfl) (by subst hs1; kernel_rfl) rfl (fun _ => rfl) ?_
      unfold behind sB stC rowQ rowO rowA qB aB
      refine WpOps.nil (thenK_at (Wp.seq (Wp.text (kp 4 (vI 1) (WpOps.nil (thenK_at (Wp.seq (Wp.seq (Wp.text (kp 35 (vP 0 0) (kp 36 (vP 0 0) (kp 37 (vP 0 6) (kp 38 (vI (St.state (St.snd 2 0 0 nob s1))) (kp 39 vF (WpOps.nil (thenK_at (off' (Wp.skip (thenK_at (Wp.seq (Wp.text (kp 40 (vP 0 0) (cl 41 67 [vP 0 0] ?_))))))))) (hop := fun _ => by_fact d2)))))))))))))))
      refine WpCall.st 0 4 5 6 c2 (by decide) (by kernel_rfl) rfl (by kernel_rfl) (by kernel_rfl) (by kernel_rfl) rfl (fun _ => rfl) ?_
      unfold behind sB stC rowQ rowO rowA qB aB
      refine WpOps.nil (thenK_at (Wp.text (kp 42 (vP 0 0) (kp 43 (vI 1) (cl 44 66 [vP 0 0, vI 1, Value.string (ByteArray.mk #[])] ?_)))))
      refine WpCall.st 0 7 8 9 c3 (by decide) (by kernel_rfl) rfl (by kernel_rfl) (by kernel_rfl) (by kernel_rfl) rfl (fun _ => rfl) ?_
      unfold behind sB stC rowQ rowO rowA qB aB
      refine WpOps.nil (endK_norm [] (Value.tuple #[]) (by kernel_rfl) (by kernel_rfl) ?_)
      exact endSt 10 11 12 (by kernel_rfl) rfl (by decide) (.is rfl (by kernel_rfl) rfl rfl) (.is rfl (by kernel_rfl) rfl rfl) (.is rfl (by kernel_rfl) rfl rfl) rfl (fun _ => rfl) rfl
theorem ack_facts (s : St) (r : Nat) (hr : r ≤ 7) (ha : s.acked ≤ 7) : (s.ack r).ans = s.ans ∧ (s.ack r).wanted = s.wanted ∧ (s.ack r).rej = s.rej ∧ (s.ack r).acked ≤ 7 ∧ (s.ack r).out.length ≤ s.out.length := by
  unfold St.ack
  split
  · exact ⟨rfl, rfl, rfl, ha, Nat.le_refl _⟩
  · exact ⟨rfl, rfl, rfl, hr, by dsimp only; rw [List.length_drop]; omega⟩
theorem f69 : E.funcs 69 = some Try.f69 := by kernel_rfl
theorem carry69 (s : St) (pre : List ByteArray) (k n r : Nat) (d : ByteArray) (hA : s.ans.length ≤ 10000) (hr : r ≤ 7) (ha : s.acked ≤ 7) (hw : s.wanted ≤ 7) (ho : s.out.length ≤ 7) : Ct 69 [.int .u8 k, .int .i64 n, .int .i64 r, .string d] s pre (.tuple #[]) (s.car k n r d) pre := by
  have c1 := acknowledge84 s pre r hr ha (by omega)
  obtain ⟨e1, e2, e3, e4, e5⟩ := ack_facts s r hr ha
  unfold St.car
  generalize s.ack r = s1 at *
  rw [← e2] at hw
  rw [← e1] at hA
  dsimp only
  by_cases h5 : k = 5
  · have d1 : ((k : Int) == 5) = true := by rw [h5]; rfl
    have c2 := again71 s1 pre e4 (by omega) (by omega)
    rw [if_pos h5]
    refine Ct.of f69 rfl (of_decide_eq_true (by kernel_rfl)) rfl rfl ?_
    unfold stIn sB stC rowQ rowO rowA qB aB
    refine Wp.seq (Wp.text (kp 10 (vP 0 0) (kp 11 (vI r) (cl 12 84 [vP 0 0, vI r] ?_))))
    refine WpCall.st 0 1 2 3 c1 (by decide) (by kernel_rfl) rfl (by kernel_rfl) (by kernel_rfl) (by kernel_rfl) rfl (fun _ => rfl) ?_
    unfold behind sB stC rowQ rowO rowA qB aB
    refine WpOps.nil (thenK_at (Wp.block (Wp.seq (Wp.text (kp 23 (.int .u8 (↑k : Int)) (kp 24 vT (kp 22 vT (WpOps.nil (thenK_at (on' (Wp.text (kp 25 (vP 0 0) (cl 26 71 [vP 0 0] ?_))))))) (hop := fun _ => by_fact d1)))))))
    refine WpCall.st 0 4 5 6 c2 (by decide) (by kernel_rfl) rfl (by kernel_rfl) (by kernel_rfl) (by kernel_rfl) rfl (fun _ => rfl) ?_
    unfold behind sB stC rowQ rowO rowA qB aB
    refine WpOps.nil (blockK_norm (endK_norm [] (Value.tuple #[]) (by kernel_rfl) (by kernel_rfl) ?_))
    exact endSt 7 8 9 (by kernel_rfl) rfl (by decide) (.is rfl (by kernel_rfl) rfl rfl) (.is rfl (by kernel_rfl) rfl rfl) (.is rfl (by kernel_rfl) rfl rfl) rfl (fun _ => rfl) rfl
  rw [if_neg h5]
  have d1 : ((k : Int) == 5) = false := beq_false_of_ne (by omega)
  by_cases h4 : k = 4
  · have d2 : ((k : Int) == 4) = true := by rw [h4]; rfl
    rw [if_pos h4]
    refine Ct.of f69 rfl (of_decide_eq_true (by kernel_rfl)) rfl rfl ?_
    unfold stIn sB stC rowQ rowO rowA qB aB
    refine Wp.seq (Wp.text (kp 10 (vP 0 0) (kp 11 (vI r) (cl 12 84 [vP 0 0, vI r] ?_))))
    refine WpCall.st 0 1 2 3 c1 (by decide) (by kernel_rfl) rfl (by kernel_rfl) (by kernel_rfl) (by kernel_rfl) rfl (fun _ => rfl) ?_
    unfold behind sB stC rowQ rowO rowA qB aB
    refine WpOps.nil (thenK_at (Wp.block (Wp.seq (Wp.text (kp 23 (.int .u8 (↑k : Int)) (kp 24 vF (kp 22 vF (WpOps.nil (thenK_at (off' (Wp.seq (Wp.text (kp 28 (.int .u8 (↑k : Int)) (kp 29 vT (kp 27 vT (WpOps.nil (thenK_at (on' (Wp.skip (blockK_norm (endK_norm [] (Value.tuple #[]) (by kernel_rfl) (by kernel_rfl) ?_))))))) (hop := fun _ => by_fact d2))))))))) (hop := fun _ => by_fact d1)))))))
    exact endSt 4 5 6 (by kernel_rfl) rfl (by decide) (.is rfl (by kernel_rfl) rfl rfl) (.is rfl (by kernel_rfl) rfl rfl) (.is rfl (by kernel_rfl) rfl rfl) rfl (fun _ => rfl) rfl
  rw [if_neg h4]
  have d2 : ((k : Int) == 4) = false := beq_false_of_ne (by omega)
  by_cases hn : n = s1.wanted
  · have d3 : ((n : Int) == (s1.wanted : Int)) = true := by rw [hn]; exact beq_self_eq_true _
    have c2 := tell66 s1 pre 2 d (by omega)
    have w1 : (IntKind.i64.wrap (((s1.tel 2 d).wanted : Int) + 1)).tmod 8 = ((s1.wanted + 1) % 8 : Nat) := by
      show (IntKind.i64.wrap ((s1.wanted : Int) + 1)).tmod 8 = _
      rw [wr _ (by omega) (by omega), Int.tmod_eq_emod_of_nonneg (by omega)]
      omega
    obtain ⟨s2, hs2⟩ : ∃ s2, s2 = ({ s1.tel 2 d with wanted := (s1.wanted + 1) % 8, rej := false } : St) := ⟨_, rfl⟩
    have c3 := send63 s2 pre 4 0 ((s1.wanted + 1) % 8) nob (by decide) (by subst hs2; show (s1.ans ++ _).length ≤ _; rw [List.length_append]; show s1.ans.length + 1 ≤ _; omega)
    rw [if_pos hn, ← hs2]
    refine Ct.of f69 rfl (of_decide_eq_true (by kernel_rfl)) rfl rfl ?_
    unfold stIn sB stC rowQ rowO rowA qB aB
    refine Wp.seq (Wp.text (kp 10 (vP 0 0) (kp 11 (vI r) (cl 12 84 [vP 0 0, vI r] ?_))))
    refine WpCall.st 0 1 2 3 c1 (by decide) (by kernel_rfl) rfl (by kernel_rfl) (by kernel_rfl) (by kernel_rfl) rfl (fun _ => rfl) ?_
    unfold behind sB stC rowQ rowO rowA qB aB
    refine WpOps.nil (thenK_at (Wp.block (Wp.seq (Wp.text (kp 23 (.int .u8 (↑k : Int)) (kp 24 vF (kp 22 vF (WpOps.nil (thenK_at (off' (Wp.seq (Wp.text (kp 28 (.int .u8 (↑k : Int)) (kp 29 vF (kp 27 vF (WpOps.nil (thenK_at (off' (Wp.seq (Wp.text (kp 31 (vI n) (kp 32 (vP 0 0) (kp 33 (vP 0 0) (kp 34 (vP 0 10) (kp 35 (vI (St.wanted s1)) (kp 36 vT (kp 30 vT (WpOps.nil (thenK_at (on' (Wp.seq (Wp.text (kp 37 (vP 0 0) (kp 38 (.string d) (cl 39 66 [vP 0 0, vI 2, Value.string d] ?_))))))))) (hop := fun _ => by_fact d3))))))))))))) (hop := fun _ => by_fact d2))))))))) (hop := fun _ => by_fact d1)))))))
    refine WpCall.st 0 4 5 6 c2 (by decide) (by kernel_rfl) rfl (by kernel_rfl) (by kernel_rfl) (by kernel_rfl) rfl (fun _ => rfl) ?_
    unfold behind sB stC rowQ rowO rowA qB aB
    refine WpOps.nil (thenK_at (Wp.seq (Wp.text (kp 40 (vP 0 0) (kp 41 (vP 0 0) (kp 42 (vP 0 0) (kp 43 (vP 0 10) (kp 44 (vI (St.wanted (St.tel 2 d s1))) (kp 45 (vI (IntKind.wrap .i64 ((↑(St.wanted (St.tel 2 d s1)) : Int) + 1))) (kp 46 (vI (Int.tmod (IntKind.wrap .i64 ((↑(St.wanted (St.tel 2 d s1)) : Int) + 1)) 8)) (kp 47 (vP 0 0) (kp 48 (vP 0 10) (cg0 (.tuple #[]) (Heap.set (Heap.alloc (Heap.alloc (Heap.alloc (Heap.set (Heap.set (Heap.set (Heap.set (Heap.alloc (Heap.alloc (Heap.alloc (Heap.set (Heap.set (Heap.set (Heap.set (heapOf [Blk.mk 73 true [vI (St.left s), vI (St.wait s), vI (St.tried s), vI (St.tries s), Value.bool (St.first s), vI (St.win s), vI (St.state s), vI (St.gen s), vI (St.sent s), vI (St.acked s), vI (St.wanted s), Value.bool (St.rej s), Value.bool (St.ren s), Value.slice (some (Addr.mk 1 (List.length pre) none)) (List.length (St.queue s)) (List.length (St.queue s)), Value.slice (some ⟨2, 0, none⟩) (List.length (St.out s)) (List.length (St.out s)), Value.slice (some ⟨3, 0, none⟩) (List.length (St.ans s)) (List.length (St.ans s))], Blk.mk 9 true (ss (pre ++ St.queue s)), Blk.mk 9 true (ss (St.out s)), Blk.mk 61 true (evl (St.ans s))]) 0 (some (Blk.mk 73 true [vI (St.left s1), vI (St.wait s1), vI (St.tried s1), vI (St.tries s1), Value.bool (St.first s1), vI (St.win s1), vI (St.state s1), vI (St.gen s1), vI (St.sent s1), vI (St.acked s1), vI (St.wanted s1), Value.bool (St.rej s1), Value.bool (St.ren s1), Value.slice (some (Addr.mk 4 (List.length pre) none)) (List.length (St.queue s1)) (List.length (St.queue s1)), Value.slice (some (Addr.mk (4 + 1) 0 none)) (List.length (St.out s1)) (List.length (St.out s1)), Value.slice (some (Addr.mk (4 + 2) 0 none)) (List.length (St.ans s1)) (List.length (St.ans s1))]))) 1 none) 2 none) 3 none) (Blk.mk 9 true (ss (pre ++ St.queue s1)))) (Blk.mk 9 true (ss (St.out s1)))) (Blk.mk 61 true (evl (St.ans s1)))) 0 (some (Blk.mk 73 true [vI (St.left (St.tel 2 d s1)), vI (St.wait (St.tel 2 d s1)), vI (St.tried (St.tel 2 d s1)), vI (St.tries (St.tel 2 d s1)), Value.bool (St.first (St.tel 2 d s1)), vI (St.win (St.tel 2 d s1)), vI (St.state (St.tel 2 d s1)), vI (St.gen (St.tel 2 d s1)), vI (St.sent (St.tel 2 d s1)), vI (St.acked (St.tel 2 d s1)), vI (St.wanted (St.tel 2 d s1)), Value.bool (St.rej (St.tel 2 d s1)), Value.bool (St.ren (St.tel 2 d s1)), Value.slice (some (Addr.mk 7 (List.length pre) none)) (List.length (St.queue (St.tel 2 d s1))) (List.length (St.queue (St.tel 2 d s1))), Value.slice (some (Addr.mk (7 + 1) 0 none)) (List.length (St.out (St.tel 2 d s1))) (List.length (St.out (St.tel 2 d s1))), Value.slice (some (Addr.mk (7 + 2) 0 none)) (List.length (St.ans (St.tel 2 d s1))) (List.length (St.ans (St.tel 2 d s1)))]))) 4 none) 5 none) 6 none) (Blk.mk 9 true (ss (pre ++ St.queue (St.tel 2 d s1))))) (Blk.mk 9 true (ss (St.out (St.tel 2 d s1))))) (Blk.mk 61 true (evl (St.ans (St.tel 2 d s1))))) 0 (some (Blk.mk 73 true [vI (St.left (St.tel 2 d s1)), vI (St.wait (St.tel 2 d s1)), vI (St.tried (St.tel 2 d s1)), vI (St.tries (St.tel 2 d s1)), Value.bool (St.first (St.tel 2 d s1)), vI (St.win (St.tel 2 d s1)), vI (St.state (St.tel 2 d s1)), vI (St.gen (St.tel 2 d s1)), vI (St.sent (St.tel 2 d s1)), vI (St.acked (St.tel 2 d s1)), vI (Int.tmod (IntKind.wrap .i64 ((↑(St.wanted (St.tel 2 d s1)) : Int) + 1)) 8), Value.bool (St.rej (St.tel 2 d s1)), Value.bool (St.ren (St.tel 2 d s1)), Value.slice (some (Addr.mk 7 (List.length pre) none)) (List.length (St.queue (St.tel 2 d s1))) (List.length (St.queue (St.tel 2 d s1))), Value.slice (some (Addr.mk (7 + 1) 0 none)) (List.length (St.out (St.tel 2 d s1))) (List.length (St.out (St.tel 2 d s1))), Value.slice (some (Addr.mk (7 + 2) 0 none)) (List.length (St.ans (St.tel 2 d s1))) (List.length (St.ans (St.tel 2 d s1)))]))) ?_)))))))))))))
    refine WpOps.nil (thenK_at (Wp.seq (Wp.text (kp 49 (vP 0 0) (kp 50 (vP 0 0) (kp 51 (vP 0 11) (cg0 (.tuple #[]) (Heap.set (Heap.set (Heap.alloc (Heap.alloc (Heap.alloc (Heap.set (Heap.set (Heap.set (Heap.set (Heap.alloc (Heap.alloc (Heap.alloc (Heap.set (Heap.set (Heap.set (Heap.set (heapOf [Blk.mk 73 true [vI (St.left s), vI (St.wait s), vI (St.tried s), vI (St.tries s), Value.bool (St.first s), vI (St.win s), vI (St.state s), vI (St.gen s), vI (St.sent s), vI (St.acked s), vI (St.wanted s), Value.bool (St.rej s), Value.bool (St.ren s), Value.slice (some (Addr.mk 1 (List.length pre) none)) (List.length (St.queue s)) (List.length (St.queue s)), Value.slice (some ⟨2, 0, none⟩) (List.length (St.out s)) (List.length (St.out s)), Value.slice (some ⟨3, 0, none⟩) (List.length (St.ans s)) (List.length (St.ans s))], Blk.mk 9 true (ss (pre ++ St.queue s)), Blk.mk 9 true (ss (St.out s)), Blk.mk 61 true (evl (St.ans s))]) 0 (some (Blk.mk 73 true [vI (St.left s1), vI (St.wait s1), vI (St.tried s1), vI (St.tries s1), Value.bool (St.first s1), vI (St.win s1), vI (St.state s1), vI (St.gen s1), vI (St.sent s1), vI (St.acked s1), vI (St.wanted s1), Value.bool (St.rej s1), Value.bool (St.ren s1), Value.slice (some (Addr.mk 4 (List.length pre) none)) (List.length (St.queue s1)) (List.length (St.queue s1)), Value.slice (some ⟨5, 0, none⟩) (List.length (St.out s1)) (List.length (St.out s1)), Value.slice (some ⟨6, 0, none⟩) (List.length (St.ans s1)) (List.length (St.ans s1))]))) 1 none) 2 none) 3 none) (Blk.mk 9 true (ss (pre ++ St.queue s1)))) (Blk.mk 9 true (ss (St.out s1)))) (Blk.mk 61 true (evl (St.ans s1)))) 0 (some (Blk.mk 73 true [vI (St.left (St.tel 2 d s1)), vI (St.wait (St.tel 2 d s1)), vI (St.tried (St.tel 2 d s1)), vI (St.tries (St.tel 2 d s1)), Value.bool (St.first (St.tel 2 d s1)), vI (St.win (St.tel 2 d s1)), vI (St.state (St.tel 2 d s1)), vI (St.gen (St.tel 2 d s1)), vI (St.sent (St.tel 2 d s1)), vI (St.acked (St.tel 2 d s1)), vI (St.wanted (St.tel 2 d s1)), Value.bool (St.rej (St.tel 2 d s1)), Value.bool (St.ren (St.tel 2 d s1)), Value.slice (some (Addr.mk 7 (List.length pre) none)) (List.length (St.queue (St.tel 2 d s1))) (List.length (St.queue (St.tel 2 d s1))), Value.slice (some ⟨8, 0, none⟩) (List.length (St.out (St.tel 2 d s1))) (List.length (St.out (St.tel 2 d s1))), Value.slice (some ⟨9, 0, none⟩) (List.length (St.ans (St.tel 2 d s1))) (List.length (St.ans (St.tel 2 d s1)))]))) 4 none) 5 none) 6 none) (Blk.mk 9 true (ss (pre ++ St.queue (St.tel 2 d s1))))) (Blk.mk 9 true (ss (St.out (St.tel 2 d s1))))) (Blk.mk 61 true (evl (St.ans (St.tel 2 d s1))))) 0 (some (Blk.mk 73 true [vI (St.left (St.tel 2 d s1)), vI (St.wait (St.tel 2 d s1)), vI (St.tried (St.tel 2 d s1)), vI (St.tries (St.tel 2 d s1)), Value.bool (St.first (St.tel 2 d s1)), vI (St.win (St.tel 2 d s1)), vI (St.state (St.tel 2 d s1)), vI (St.gen (St.tel 2 d s1)), vI (St.sent (St.tel 2 d s1)), vI (St.acked (St.tel 2 d s1)), vI (Int.tmod (IntKind.wrap .i64 ((↑(St.wanted (St.tel 2 d s1)) : Int) + 1)) 8), Value.bool (St.rej (St.tel 2 d s1)), Value.bool (St.ren (St.tel 2 d s1)), Value.slice (some (Addr.mk 7 (List.length pre) none)) (List.length (St.queue (St.tel 2 d s1))) (List.length (St.queue (St.tel 2 d s1))), Value.slice (some ⟨8, 0, none⟩) (List.length (St.out (St.tel 2 d s1))) (List.length (St.out (St.tel 2 d s1))), Value.slice (some ⟨9, 0, none⟩) (List.length (St.ans (St.tel 2 d s1))) (List.length (St.ans (St.tel 2 d s1)))]))) 0 (some (Blk.mk 73 true [vI (St.left (St.tel 2 d s1)), vI (St.wait (St.tel 2 d s1)), vI (St.tried (St.tel 2 d s1)), vI (St.tries (St.tel 2 d s1)), Value.bool (St.first (St.tel 2 d s1)), vI (St.win (St.tel 2 d s1)), vI (St.state (St.tel 2 d s1)), vI (St.gen (St.tel 2 d s1)), vI (St.sent (St.tel 2 d s1)), vI (St.acked (St.tel 2 d s1)), vI (Int.tmod (IntKind.wrap .i64 ((↑(St.wanted (St.tel 2 d s1)) : Int) + 1)) 8), vF, Value.bool (St.ren (St.tel 2 d s1)), Value.slice (some (Addr.mk 7 (List.length pre) none)) (List.length (St.queue (St.tel 2 d s1))) (List.length (St.queue (St.tel 2 d s1))), Value.slice (some ⟨8, 0, none⟩) (List.length (St.out (St.tel 2 d s1))) (List.length (St.out (St.tel 2 d s1))), Value.slice (some ⟨9, 0, none⟩) (List.length (St.ans (St.tel 2 d s1))) (List.length (St.ans (St.tel 2 d s1)))]))) ?_)))))))
    refine WpOps.nil (thenK_at (Wp.text (kp 52 (vP 0 0) (kp 53 (vP 0 0) (kp 54 (vP 0 0) (kp 55 (vP 0 10) (kp 56 (vI (Int.tmod (IntKind.wrap .i64 ((↑(St.wanted (St.tel 2 d s1)) : Int) + 1)) 8)) (cl 57 63 [vP 0 0, Value.int .u8 4, vI 0, vI (Int.tmod (IntKind.wrap .i64 ((↑(St.wanted (St.tel 2 d s1)) : Int) + 1)) 8), Value.string (ByteArray.mk #[])] ?_))))))))
    rw [w1]
    skip
    refine WpCall.st 0 7 8 9 c3 (by decide) (by kernel_rfl) (by subst hs2; rfl) (by subst hs2; kernel_rfl) (by subst hs2; kernel_rfl) (by subst hs2; kernel_rfl) rfl (fun _ => rfl) ?_
    unfold behind sB stC rowQ rowO rowA qB aB
    refine WpOps.nil (blockK_norm (endK_norm [] (Value.tuple #[]) (by kernel_rfl) (by kernel_rfl) ?_))
    exact endSt 10 11 12 (by kernel_rfl) rfl (by decide) (.is rfl (by kernel_rfl) rfl rfl) (.is rfl (by kernel_rfl) rfl rfl) (.is rfl (by kernel_rfl) rfl rfl) rfl (fun _ => rfl) rfl
  rw [if_neg hn]
  have d3 : ((n : Int) == (s1.wanted : Int)) = false := beq_false_of_ne (by omega)
  cases hj : s1.rej with
  | true =>
    have c2 := send63 s1 pre 4 0 s1.wanted nob (by decide) (by omega)
    rw [if_pos rfl]
    refine Ct.of f69 rfl (of_decide_eq_true (by kernel_rfl)) rfl rfl ?_
    unfold stIn sB stC rowQ rowO rowA qB aB
    refine Wp.seq (Wp.text (kp 10 (vP 0 0) (kp 11 (vI r) (cl 12 84 [vP 0 0, vI r] ?_))))
    refine WpCall.st 0 1 2 3 c1 (by decide) (by kernel_rfl) rfl (by kernel_rfl) (by kernel_rfl) (by kernel_rfl) rfl (fun _ => rfl) ?_
    unfold behind sB stC rowQ rowO rowA qB aB
    refine WpOps.nil (thenK_at (Wp.block (Wp.seq (Wp.text (kp 23 (.int .u8 (↑k : Int)) (kp 24 vF (kp 22 vF (WpOps.nil (thenK_at (off' (Wp.seq (Wp.text (kp 28 (.int .u8 (↑k : Int)) (kp 29 vF (kp 27 vF (WpOps.nil (thenK_at (off' (Wp.seq (Wp.text (kp 31 (vI n) (kp 32 (vP 0 0) (kp 33 (vP 0 0) (kp 34 (vP 0 10) (kp 35 (vI (St.wanted s1)) (kp 36 vF (kp 30 vF (WpOps.nil (thenK_at (off' (Wp.seq (Wp.text (kp 59 (vP 0 0) (kp 60 (vP 0 0) (kp 61 (vP 0 11) (kp 62 vT (kp 58 vT (WpOps.nil (thenK_at (on' (Wp.text (kp 63 (vP 0 0) (kp 64 (vP 0 0) (kp 65 (vP 0 0) (kp 66 (vP 0 10) (kp 67 (vI (St.wanted s1)) (cl 68 63 [vP 0 0, Value.int .u8 4, vI 0, vI (St.wanted s1), Value.string (ByteArray.mk #[])] ?_))))))))))) (hop := fun _ => by_fact hj))))))))))) (hop := fun _ => by_fact d3))))))))))))) (hop := fun _ => by_fact d2))))))))) (hop := fun _ => by_fact d1)))))))
    refine WpCall.st 0 4 5 6 c2 (by decide) (by kernel_rfl) rfl (by kernel_rfl) (by kernel_rfl) (by kernel_rfl) rfl (fun _ => rfl) ?_
    unfold behind sB stC rowQ rowO rowA qB aB
    refine WpOps.nil (blockK_norm (endK_norm [] (Value.tuple #[]) (by kernel_rfl) (by kernel_rfl) ?_))
    exact endSt 7 8 9 (by kernel_rfl) rfl (by decide) (.is rfl (by kernel_rfl) rfl rfl) (.is rfl (by kernel_rfl) rfl rfl) (.is rfl (by kernel_rfl) rfl rfl) rfl (fun _ => rfl) rfl
  | false =>
    obtain ⟨s2, hs2⟩ : ∃ s2, s2 = ({ s1 with rej := true } : St) := ⟨_, rfl⟩
    have c2 := send63 s2 pre 5 0 s1.wanted nob (by decide) (by subst hs2; show s1.ans.length ≤ _; omega)
    rw [if_neg (by decide), ← hs2]
    refine Ct.of f69 rfl (of_decide_eq_true (by kernel_rfl)) rfl rfl ?_
    unfold stIn sB stC rowQ rowO rowA qB aB
    refine Wp.seq (Wp.text (kp 10 (vP 0 0) (kp 11 (vI r) (cl 12 84 [vP 0 0, vI r] ?_))))
    refine WpCall.st 0 1 2 3 c1 (by decide) (by kernel_rfl) rfl (by kernel_rfl) (by kernel_rfl) (by kernel_rfl) rfl (fun _ => rfl) ?_
    unfold behind sB stC rowQ rowO rowA qB aB
    refine WpOps.nil (thenK_at (Wp.block (Wp.seq (Wp.text (kp 23 (.int .u8 (↑k : Int)) (kp 24 vF (kp 22 vF (WpOps.nil (thenK_at (off' (Wp.seq (Wp.text (kp 28 (.int .u8 (↑k : Int)) (kp 29 vF (kp 27 vF (WpOps.nil (thenK_at (off' (Wp.seq (Wp.text (kp 31 (vI n) (kp 32 (vP 0 0) (kp 33 (vP 0 0) (kp 34 (vP 0 10) (kp 35 (vI (St.wanted s1)) (kp 36 vF (kp 30 vF (WpOps.nil (thenK_at (off' (Wp.seq (Wp.text (kp 59 (vP 0 0) (kp 60 (vP 0 0) (kp 61 (vP 0 11) (kp 62 vF (kp 58 vF (WpOps.nil (thenK_at (off' (Wp.seq (Wp.text (kp 13 (vP 0 0) (kp 14 (vP 0 0) (kp 15 (vP 0 11) (cg0 (.tuple #[]) (Heap.set (Heap.alloc (Heap.alloc (Heap.alloc (Heap.set (Heap.set (Heap.set (Heap.set (heapOf [Blk.mk 73 true [vI (St.left s), vI (St.wait s), vI (St.tried s), vI (St.tries s), Value.bool (St.first s), vI (St.win s), vI (St.state s), vI (St.gen s), vI (St.sent s), vI (St.acked s), vI (St.wanted s), Value.bool (St.rej s), Value.bool (St.ren s), Value.slice (some (Addr.mk 1 (List.length pre) none)) (List.length (St.queue s)) (List.length (St.queue s)), Value.slice (some ⟨2, 0, none⟩) (List.length (St.out s)) (List.length (St.out s)), Value.slice (some ⟨3, 0, none⟩) (List.length (St.ans s)) (List.length (St.ans s))], Blk.mk 9 true (ss (pre ++ St.queue s)), Blk.mk 9 true (ss (St.out s)), Blk.mk 61 true (evl (St.ans s))]) 0 (some (Blk.mk 73 true [vI (St.left s1), vI (St.wait s1), vI (St.tried s1), vI (St.tries s1), Value.bool (St.first s1), vI (St.win s1), vI (St.state s1), vI (St.gen s1), vI (St.sent s1), vI (St.acked s1), vI (St.wanted s1), Value.bool (St.rej s1), Value.bool (St.ren s1), Value.slice (some (Addr.mk 4 (List.length pre) none)) (List.length (St.queue s1)) (List.length (St.queue s1)), Value.slice (some (Addr.mk (4 + 1) 0 none)) (List.length (St.out s1)) (List.length (St.out s1)), Value.slice (some (Addr.mk (4 + 2) 0 none)) (List.length (St.ans s1)) (List.length (St.ans s1))]))) 1 none) 2 none) 3 none) (Blk.mk 9 true (ss (pre ++ St.queue s1)))) (Blk.mk 9 true (ss (St.out s1)))) (Blk.mk 61 true (evl (St.ans s1)))) 0 (some (Blk.mk 73 true [vI (St.left s1), vI (St.wait s1), vI (St.tried s1), vI (St.tries s1), Value.bool (St.first s1), vI (St.win s1), vI (St.state s1), vI (St.gen s1), vI (St.sent s1), vI (St.acked s1), vI (St.wanted s1), vT, Value.bool (St.ren s1), Value.slice (some (Addr.mk 4 (List.length pre) none)) (List.length (St.queue s1)) (List.length (St.queue s1)), Value.slice (some (Addr.mk (4 + 1) 0 none)) (List.length (St.out s1)) (List.length (St.out s1)), Value.slice (some (Addr.mk (4 + 2) 0 none)) (List.length (St.ans s1)) (List.length (St.ans s1))]))) ?_)))))))))) (hop := fun _ => by_fact hj))))))))))) (hop := fun _ => by_fact d3))))))))))))) (hop := fun _ => by_fact d2))))))))) (hop := fun _ => by_fact d1)))))))
    refine WpOps.nil (thenK_at (Wp.text (kp 16 (vP 0 0) (kp 17 (vP 0 0) (kp 18 (vP 0 0) (kp 19 (vP 0 10) (kp 20 (vI (St.wanted s1)) (cl 21 63 [vP 0 0, Value.int .u8 5, vI 0, vI (St.wanted s1), Value.string (ByteArray.mk #[])] ?_))))))))
    refine WpCall.st 0 4 5 6 c2 (by decide) (by kernel_rfl) (by subst hs2; rfl) (by subst hs2; kernel_rfl) (by subst hs2; kernel_rfl) (by subst hs2; kernel_rfl) rfl (fun _ => rfl) ?_
    unfold behind sB stC rowQ rowO rowA qB aB
    refine WpOps.nil (blockK_norm (endK_norm [] (Value.tuple #[]) (by kernel_rfl) (by kernel_rfl) ?_))
    exact endSt 7 8 9 (by kernel_rfl) rfl (by decide) (.is rfl (by kernel_rfl) rfl rfl) (.is rfl (by kernel_rfl) rfl rfl) (.is rfl (by kernel_rfl) rfl rfl) rfl (fun _ => rfl) rfl
end Go.Proofs.Ytgefohjickhldaa.D
