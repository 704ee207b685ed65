/- The specification's station: what is sent again, acknowledged, ticks. -/
import Derived.Test.YtgefohjickhldaaFwLem
import Derived.Test.YtgefohjickhldaaFwMat
import Derived.Test.YtgefohjickhldaaT10r
namespace Go.Proofs.Ytgefohjickhldaa.D
open Go.Fw Go.RowKit

theorem viewR {n : Nat} {sl : Slots} {l : List (Nat × Value)} {h : Heap} {s : St} {cells : List Value} (h0 : h.get 0 = some ⟨92, true, cells⟩) (hc : cells = rC s (sv s.queue) (sv s.out)) (hs : SlotsOk [0] 1 sl l) : View 1 E n sl h (layj l) (heapOf [rB s]) := by
  subst hc
  exact View.of [0] [rB s] l (by decide) rfl ⟨⟨_, h0, rC_at s⟩, trivial⟩ hs
theorem f80 : E.funcs 80 = some Try.f80 := by kernel_rfl
theorem resend80 (s : St) (ha : s.acked ≤ 7) (ho : s.out.length ≤ 7) (hA : s.ans.length ≤ 10000) : Lent E 80 [.pointer (some ⟨0, 0, none⟩), lv s.ans] [rB s] (lv s.agn.ans) [rB s] := by
  refine Lent.of f80 rfl (of_decide_eq_true (by kernel_rfl)) rfl rfl (Nat.le_refl _) rfl (rB_ok _) rfl ?_
  unfold rB rC sv
  try unfold lv
  refine Wp.seq (Wp.text (kp 4 vN (WpOps.nil (thenK_at (Wp.seq (Wp.seq (Wp.text (kp 5 (vI 0) (WpOps.nil (thenK_at (Wp.block ?_)))))))))))
  refine Wp.loop (G := Nat) (fun i => layj [(0, .pointer (some ⟨0, 0, none⟩)), (1, lv (s.agnN i).ans), (5, .int .i64 i)]) (fun i => heapOf [rB s]) (fun i => s.out.length - i) (fun i => i ≤ s.out.length) 0 ?_ (Nat.zero_le _) ?_
  · have e0 : s.agnN 0 = s := by unfold St.agnN; simp
    rw [e0]
    exact viewR (by kernel_rfl) rfl ⟨⟨by kernel_rfl, rfl⟩, ⟨by kernel_rfl, rfl⟩, ⟨by kernel_rfl, rfl⟩, trivial⟩
  intro i hi
  by_cases hc : i < s.out.length
  · have d1 : decide ((i : Int) < (s.out.length : Int)) = true := decide_eq_true (by omega)
    have g1 : (0 : Int) ≤ (i : Int) ∧ (i : Int) < (s.out.length : Int) := by omega
    have g2 : (ss s.out)[(i : Int).toNat * 1]? = some (.string (s.out.getD i nob)) := by
      rw [show (i : Int).toNat * 1 = i by omega]
      unfold ss
      rw [List.getElem?_map, List.getElem?_eq_getElem hc, List.getD_eq_getElem?_getD, List.getElem?_eq_getElem hc]
      rfl
    have w1 : (IntKind.i64.wrap ((s.acked : Int) + i)).tmod 8 = ((s.acked + i) % 8 : Nat) := by
      rw [wr _ (by omega) (by omega), Int.tmod_eq_emod_of_nonneg (by omega)]
      omega
    have w2 : IntKind.i64.wrap ((i : Int) + 1) = ((i + 1 : Nat) : Int) := by rw [wr _ (by omega) (by omega)]; omega
    have c1 := put73 (s.agnN i) 3 ((s.acked + i) % 8) s.wanted (s.out.getD i nob) (by rw [agnN_len]; omega)
    rw [agnN_succ] at c1
    unfold rB rC lv sv
    refine Wp.seq (Wp.seq (Wp.text (kp 6 (vI i) (kp 7 (vP 0 0) (kp 8 (vP 0 0) (kp 9 (vP 0 13) (kp 10 (sv (St.out s)) (kp 11 (vI (List.length (St.out s))) (kp 12 vT (WpOps.nil (thenK_at (on' (Wp.skip (thenK_at (Wp.seq (Wp.block (Wp.region (by kernel_rfl) (kp 15 (vP 0 0) (kp 16 (lv (St.ans (St.agnN s i))) (kp 17 (vP 0 0) (kp 18 (vP 0 0) (kp 19 (vP 0 8) (kp 20 (vI (St.acked s)) (kp 21 (vI i) (kp 22 (vI (IntKind.wrap .i64 ((↑(St.acked s) : Int) + (↑i : Int)))) (kp 23 (vI (Int.tmod (IntKind.wrap .i64 ((↑(St.acked s) : Int) + (↑i : Int))) 8)) (kp 24 (vP 0 0) (kp 25 (vP 0 0) (kp 26 (vP 0 9) (kp 27 (vI (St.wanted s)) (kp 28 (vP 0 0) (kp 29 (vP 0 0) (kp 30 (vP 0 13) (kp 31 (sv (St.out s)) (kp 32 (vI i) (kp 33 (.iface 9 (Value.iface (Int.toNat (↑i : Int) * 1) (Value.agg (List.toArray (ss (St.out s)))))) (kp 34 (.string (List.getD (St.out s) i nob)) (cl 35 73 [vP 0 0, Value.iface 61 (Value.iface (List.length (St.ans (St.agnN s i))) (Value.iface 3 (Value.agg (List.toArray (evl (St.ans (St.agnN s i))))))), vI 3, vI (Int.tmod (IntKind.wrap .i64 ((↑(St.acked s) : Int) + (↑i : Int))) 8), vI (St.wanted s), Value.string (List.getD (St.out s) i nob)] ?_) (hop := fun _ => o_loadI1 (Int.toNat (↑i : Int) * 1) g2)) (hop := fun _ => o_indexI (e := 9) (size := 1) (a := (↑i : Int)) g1)))))))))))))))))))))))))))) (hop := fun _ => by_fact d1))))))))))
    rw [w1]
    refine WpCall.rf c1 (by kernel_rfl) rfl rfl rfl ?_
    unfold rB rC sv
    try unfold lv
    refine kp 1 (lv (St.ans (St.agnN s (i + 1)))) (WpOps.nil (blockK_norm (thenK_at (Wp.text (kp 13 (vI i) (kp 14 (vI (IntKind.wrap .i64 ((↑i : Int) + 1))) (kp 5 (vI (IntKind.wrap .i64 ((↑i : Int) + 1))) (WpOps.nil (thenK_at ?_)))))))))
    exact ⟨i + 1, by omega, by omega, viewR (by kernel_rfl) rfl ⟨⟨by kernel_rfl, rfl⟩, ⟨by kernel_rfl, rfl⟩, ⟨congrArg (Value.int .i64) w2, rfl⟩, trivial⟩⟩
  · have d1 : decide ((i : Int) < (s.out.length : Int)) = false := decide_eq_false (by omega)
    obtain rfl : i = s.out.length := by omega
    unfold rB rC lv sv
    refine Wp.seq (Wp.seq (Wp.text (kp 6 (vI (List.length (St.out s))) (kp 7 (vP 0 0) (kp 8 (vP 0 0) (kp 9 (vP 0 13) (kp 10 (sv (St.out s)) (kp 11 (vI (List.length (St.out s))) (kp 12 vF (WpOps.nil (thenK_at (off' (Wp.exit (thenK_exit (thenK_exit (blockK_hit (thenK_at (Wp.seq (Wp.text (kp 36 (lv (St.ans (St.agnN s (List.length (St.out s))))) (kp 4 (lv (St.ans (St.agnN s (List.length (St.out s))))) (WpOps.nil (thenK_at (Wp.ret (endK_retn [Value.iface 61 (Value.iface (List.length (St.ans (St.agnN s (List.length (St.out s))))) (Value.iface 3 (Value.agg (List.toArray (evl (St.ans (St.agnN s (List.length (St.out s)))))))))] (lv (St.ans (St.agnN s (List.length (St.out s))))) (by kernel_rfl) (by kernel_rfl) ?_)))))))))))))))) (hop := fun _ => by_fact d1))))))))))
    exact endR (by kernel_rfl) rfl (.same rfl) (.same rfl) (.w (.un rfl rfl))
theorem ss_cut (l : List ByteArray) (n : Nat) : ((ss l).drop ((n : Int).toNat * 1)).take ((l.length - (n : Int).toNat) * 1) = ss (l.drop n) := by
  rw [show (n : Int).toNat * 1 = n by omega, show (l.length - (n : Int).toNat) * 1 = l.length - n by omega]
  unfold ss
  rw [← List.map_drop, List.take_of_length_le (by rw [List.length_map, List.length_drop]; omega)]
theorem f79 : E.funcs 79 = some Try.f79 := by kernel_rfl
theorem ack79 (s : St) (r : Nat) (hr : r ≤ 7) (ha : s.acked ≤ 7) (ho : s.out.length ≤ 1000) : Lent E 79 [.pointer (some ⟨0, 0, none⟩), .int .i64 r] [rB s] (.tuple #[]) [rB (s.ack r)] := by
  have wn : (IntKind.i64.wrap (IntKind.i64.wrap ((r : Int) - s.acked) + 8)).tmod 8 = ((r + 8 - s.acked) % 8 : Nat) := by
    rw [wrs ((r : Int) - s.acked) (by omega) (by omega), wr _ (by omega) (by omega), Int.tmod_eq_emod_of_nonneg (by omega)]
    omega
  unfold St.ack
  generalize hn : (r + 8 - s.acked) % 8 = n at *
  by_cases hc : n = 0 ∨ n > s.out.length
  · rw [if_pos hc]
    refine Lent.of f79 rfl (of_decide_eq_true (by kernel_rfl)) rfl rfl (Nat.le_refl _) rfl (rB_ok _) rfl ?_
    unfold rB rC sv
    try unfold lv
    refine Wp.seq (Wp.text (kp 5 (vI r) (kp 6 (vP 0 0) (kp 7 (vP 0 0) (kp 8 (vP 0 8) (kp 9 (vI (St.acked s)) (kp 10 (vI (IntKind.wrap .i64 ((↑r : Int) - (↑(St.acked s) : Int)))) (kp 11 (vI (IntKind.wrap .i64 (IntKind.wrap .i64 ((↑r : Int) - (↑(St.acked s) : Int)) + 8))) (kp 12 (vI (Int.tmod (IntKind.wrap .i64 (IntKind.wrap .i64 ((↑r : Int) - (↑(St.acked s) : Int)) + 8)) 8)) (kp 4 (vI (Int.tmod (IntKind.wrap .i64 (IntKind.wrap .i64 ((↑r : Int) - (↑(St.acked s) : Int)) + 8)) 8)) (WpOps.nil (thenK_at (Wp.seq (Wp.seq (Wp.text (kp 13 (vI (Int.tmod (IntKind.wrap .i64 (IntKind.wrap .i64 ((↑r : Int) - (↑(St.acked s) : Int)) + 8)) 8)) (kp 14 (.bool (Int.tmod (IntKind.wrap .i64 (IntKind.wrap .i64 ((↑r : Int) - (↑(St.acked s) : Int)) + 8)) 8 == 0)) (kp 15 (.bool (Int.tmod (IntKind.wrap .i64 (IntKind.wrap .i64 ((↑r : Int) - (↑(St.acked s) : Int)) + 8)) 8 == 0)) ?_))))))))))))))))))
    refine WpOps.fork 8 (Int.tmod (IntKind.wrap IntKind.i64 (IntKind.wrap IntKind.i64 ((↑r : Int) - (↑(St.acked s) : Int)) + 8)) 8 == 0) [16, 17, 18, 19, 20, 21, 22, 23] 23 (true) (decide (Int.tmod (IntKind.wrap IntKind.i64 (IntKind.wrap IntKind.i64 ((↑r : Int) - (↑(St.acked s) : Int)) + 8)) 8 > (↑(List.length (St.out s)) : Int))) (by kernel_rfl) (fun g23 => ?_) (fun g23 => ?_) (fun f_23 b23 hb23 => ?_)
    · refine um 16 (um 17 (um 18 (um 19 (um 20 (um 21 (um 22 (kp 23 vT (WpOps.nil ?_) (hop := fun _ => o_pickT g23)) (hw := wants_tf g23)) (hw := wants_tf g23)) (hw := wants_tf g23)) (hw := wants_tf g23)) (hw := wants_tf g23)) (hw := wants_tf g23)) (hw := wants_tf g23)
      exact ⟨rfl, (.upd rfl (.upd rfl (.upd rfl (.upd rfl (.upd rfl (.upd rfl (.upd rfl (.upd rfl .refl)))))))), (by kernel_rfl)⟩
    · refine kp 16 (vI (Int.tmod (IntKind.wrap .i64 (IntKind.wrap .i64 ((↑r : Int) - (↑(St.acked s) : Int)) + 8)) 8)) (kp 17 (vP 0 0) (kp 18 (vP 0 0) (kp 19 (vP 0 13) (kp 20 (sv (St.out s)) (kp 21 (vI (List.length (St.out s))) (kp 22 (.bool (decide (Int.tmod (IntKind.wrap .i64 (IntKind.wrap .i64 ((↑r : Int) - (↑(St.acked s) : Int)) + 8)) 8 > (↑(List.length (St.out s)) : Int)))) (kp 23 (.bool (decide (Int.tmod (IntKind.wrap .i64 (IntKind.wrap .i64 ((↑r : Int) - (↑(St.acked s) : Int)) + 8)) 8 > (↑(List.length (St.out s)) : Int)))) (WpOps.nil ?_) (hop := fun _ => o_pickF g23)) (hw := wants_ff g23)) (hw := wants_ff g23)) (hw := wants_ff g23)) (hw := wants_ff g23)) (hw := wants_ff g23)) (hw := wants_ff g23)) (hw := wants_ff g23)
      exact ⟨rfl, (.upd rfl (.upd rfl (.upd rfl (.upd rfl (.upd rfl (.upd rfl (.upd rfl (.upd rfl .refl)))))))), (by kernel_rfl)⟩
    refine WpOps.nil (thenK_at ?_)
    obtain rfl : b23 = true := by
      rw [hb23, wn]
      rcases hc with rfl | hc
      · rfl
      · rw [show decide ((n : Int) > s.out.length) = true from decide_eq_true (by omega)]
        cases ((n : Int) == 0) <;> rfl
    refine on' (Wp.ret (thenK_ret (endK_retn [] (Value.tuple #[]) (by kernel_rfl) (by kernel_rfl) ?_)))
    exact endR (by kernel_rfl) rfl (.same rfl) (.same rfl) (.w (.un rfl rfl))
  · rw [if_neg hc]
    have hle : (s.out.drop n).length = s.out.length - n := List.length_drop
    have g1 : (0 : Int) ≤ (n : Int) ∧ (n : Int) ≤ (s.out.length : Int) := by omega
    by_cases he : s.out.drop n = []
    · rw [if_pos he]
      have z1 : s.out.length - (n : Int).toNat = 0 := by rw [he] at hle; simp only [List.length_nil] at hle; omega
      refine Lent.of f79 rfl (of_decide_eq_true (by kernel_rfl)) rfl rfl (Nat.le_refl _) rfl (rB_ok _) rfl ?_
      unfold rB rC sv
      try unfold lv
      refine Wp.seq (Wp.text (kp 5 (vI r) (kp 6 (vP 0 0) (kp 7 (vP 0 0) (kp 8 (vP 0 8) (kp 9 (vI (St.acked s)) (kp 10 (vI (IntKind.wrap .i64 ((↑r : Int) - (↑(St.acked s) : Int)))) (kp 11 (vI (IntKind.wrap .i64 (IntKind.wrap .i64 ((↑r : Int) - (↑(St.acked s) : Int)) + 8))) (kp 12 (vI (Int.tmod (IntKind.wrap .i64 (IntKind.wrap .i64 ((↑r : Int) - (↑(St.acked s) : Int)) + 8)) 8)) (kp 4 (vI (Int.tmod (IntKind.wrap .i64 (IntKind.wrap .i64 ((↑r : Int) - (↑(St.acked s) : Int)) + 8)) 8)) (WpOps.nil (thenK_at (Wp.seq (Wp.seq (Wp.text (kp 13 (vI (Int.tmod (IntKind.wrap .i64 (IntKind.wrap .i64 ((↑r : Int) - (↑(St.acked s) : Int)) + 8)) 8)) (kp 14 (.bool (Int.tmod (IntKind.wrap .i64 (IntKind.wrap .i64 ((↑r : Int) - (↑(St.acked s) : Int)) + 8)) 8 == 0)) (kp 15 (.bool (Int.tmod (IntKind.wrap .i64 (IntKind.wrap .i64 ((↑r : Int) - (↑(St.acked s) : Int)) + 8)) 8 == 0)) ?_))))))))))))))))))
      refine WpOps.fork 8 (Int.tmod (IntKind.wrap IntKind.i64 (IntKind.wrap IntKind.i64 ((↑r : Int) - (↑(St.acked s) : Int)) + 8)) 8 == 0) [16, 17, 18, 19, 20, 21, 22, 23] 23 (true) (decide (Int.tmod (IntKind.wrap IntKind.i64 (IntKind.wrap IntKind.i64 ((↑r : Int) - (↑(St.acked s) : Int)) + 8)) 8 > (↑(List.length (St.out s)) : Int))) (by kernel_rfl) (fun g23 => ?_) (fun g23 => ?_) (fun f_23 b23 hb23 => ?_)
      · refine um 16 (um 17 (um 18 (um 19 (um 20 (um 21 (um 22 (kp 23 vT (WpOps.nil ?_) (hop := fun _ => o_pickT g23)) (hw := wants_tf g23)) (hw := wants_tf g23)) (hw := wants_tf g23)) (hw := wants_tf g23)) (hw := wants_tf g23)) (hw := wants_tf g23)) (hw := wants_tf g23)
        exact ⟨rfl, (.upd rfl (.upd rfl (.upd rfl (.upd rfl (.upd rfl (.upd rfl (.upd rfl (.upd rfl .refl)))))))), (by kernel_rfl)⟩
      · refine kp 16 (vI (Int.tmod (IntKind.wrap .i64 (IntKind.wrap .i64 ((↑r : Int) - (↑(St.acked s) : Int)) + 8)) 8)) (kp 17 (vP 0 0) (kp 18 (vP 0 0) (kp 19 (vP 0 13) (kp 20 (sv (St.out s)) (kp 21 (vI (List.length (St.out s))) (kp 22 (.bool (decide (Int.tmod (IntKind.wrap .i64 (IntKind.wrap .i64 ((↑r : Int) - (↑(St.acked s) : Int)) + 8)) 8 > (↑(List.length (St.out s)) : Int)))) (kp 23 (.bool (decide (Int.tmod (IntKind.wrap .i64 (IntKind.wrap .i64 ((↑r : Int) - (↑(St.acked s) : Int)) + 8)) 8 > (↑(List.length (St.out s)) : Int)))) (WpOps.nil ?_) (hop := fun _ => o_pickF g23)) (hw := wants_ff g23)) (hw := wants_ff g23)) (hw := wants_ff g23)) (hw := wants_ff g23)) (hw := wants_ff g23)) (hw := wants_ff g23)) (hw := wants_ff g23)
        exact ⟨rfl, (.upd rfl (.upd rfl (.upd rfl (.upd rfl (.upd rfl (.upd rfl (.upd rfl (.upd rfl .refl)))))))), (by kernel_rfl)⟩
      refine WpOps.nil (thenK_at ?_)
      obtain rfl : b23 = false := by
        rw [hb23, wn, show ((n : Int) == 0) = false from beq_false_of_ne (by omega), show decide ((n : Int) > s.out.length) = false from decide_eq_false (by omega)]
        rfl
      refine off' (Wp.skip (thenK_at ?_))
      rw [wn]
      refine Wp.seq (Wp.text (kp 24 (vP 0 0) (md 25 (.slice (some ⟨1, 0, none⟩) 0 0) (Blk.mk 9 true []) (kp 26 (vP 0 0) (kp 27 (vP 0 0) (kp 28 (vP 0 13) (kp 29 (sv (St.out s)) (kp 30 (vI n) (kp 31 (.iface 9 (Value.iface (List.length (St.out s) - Int.toNat (↑n : Int)) (Value.iface (if 3 = 2 then 2 else (if 3 = 3 then 3 else 0)) (Value.agg (List.toArray (List.take ((List.length (St.out s) - Int.toNat (↑n : Int)) * 1) (List.drop (Int.toNat (↑n : Int) * 1) (Array.toList (List.toArray (ss (St.out s))))))))))) ?_ (hop := fun _ => o_cutF_lo (size := 1) g1))))))))))
      rw [z1]
      refine kp 32 (.slice (some ⟨1, 0, none⟩) 0 0) (kp 33 (vP 0 0) (kp 34 (vP 0 13) (ld (.tuple #[]) (0) (Blk.mk 92 true [vT, Value.bool (St.first s), vI (St.win s), vI (St.wait s), vI (St.tries s), vI (St.state s), vI (St.gen s), vI (St.sent s), vI (St.acked s), vI (St.wanted s), Value.bool (St.rej s), Value.bool (St.ren s), Value.iface 9 (Value.iface (List.length (St.queue s)) (Value.iface 3 (Value.agg (List.toArray (ss (St.queue s)))))), Value.slice (some ⟨1, 0, none⟩) 0 0, vI (St.left s), vI (St.tried s)]) (WpOps.nil (thenK_at (Wp.seq (Wp.text (kp 35 (vP 0 0) (kp 36 (vI r) (kp 37 (vP 0 0) (kp 38 (vP 0 8) (ld (.tuple #[]) (0) (Blk.mk 92 true [vT, Value.bool (St.first s), vI (St.win s), vI (St.wait s), vI (St.tries s), vI (St.state s), vI (St.gen s), vI (St.sent s), vI r, vI (St.wanted s), Value.bool (St.rej s), Value.bool (St.ren s), Value.iface 9 (Value.iface (List.length (St.queue s)) (Value.iface 3 (Value.agg (List.toArray (ss (St.queue s)))))), Value.slice (some ⟨1, 0, none⟩) 0 0, vI (St.left s), vI (St.tried s)]) (WpOps.nil (thenK_at (Wp.seq (Wp.text (kp 39 (vP 0 0) ?_)))))))))))))))))
      refine kp 40 (vP 0 0) (kp 41 (vP 0 15) (ld (.tuple #[]) (0) (Blk.mk 92 true [vT, Value.bool (St.first s), vI (St.win s), vI (St.wait s), vI (St.tries s), vI (St.state s), vI (St.gen s), vI (St.sent s), vI r, vI (St.wanted s), Value.bool (St.rej s), Value.bool (St.ren s), Value.iface 9 (Value.iface (List.length (St.queue s)) (Value.iface 3 (Value.agg (List.toArray (ss (St.queue s)))))), Value.slice (some ⟨1, 0, none⟩) 0 0, vI (St.left s), vI 0]) (WpOps.nil (thenK_at (Wp.seq (Wp.text (kp 42 (vP 0 0) (kp 43 (vP 0 0) (kp 44 (vP 0 14) (ld (.tuple #[]) (0) (Blk.mk 92 true [vT, Value.bool (St.first s), vI (St.win s), vI (St.wait s), vI (St.tries s), vI (St.state s), vI (St.gen s), vI (St.sent s), vI r, vI (St.wanted s), Value.bool (St.rej s), Value.bool (St.ren s), Value.iface 9 (Value.iface (List.length (St.queue s)) (Value.iface 3 (Value.agg (List.toArray (ss (St.queue s)))))), Value.slice (some ⟨1, 0, none⟩) 0 0, vI 0, vI 0]) (WpOps.nil (thenK_at (Wp.seq (Wp.text (kp 45 (vP 0 0) (kp 46 (vP 0 0) (kp 47 (vP 0 13) (kp 48 (.slice (some ⟨1, 0, none⟩) 0 0) ?_))))))))))))))))))
      refine kp 49 (vI (↑0 : Int)) (kp 50 vF (WpOps.nil (thenK_at (off' (Wp.skip (endK_norm [] (Value.tuple #[]) (by kernel_rfl) (by kernel_rfl) ?_))))))
      exact endR (by kernel_rfl) rfl (.same rfl) (.own 1 0 0 [] rfl (by kernel_rfl) (by dsimp only; rw [he]; first | done | rfl) (by show [] = ss (List.drop n s.out); rw [he]; rfl) (by decide)) (.w (.un rfl rfl))
    · rw [if_neg he]
      have hlp := List.length_pos_iff.2 he
      have q1 : ¬ 0 + (s.out.length - (n : Int).toNat) ≤ 0 := by omega
      have q2 : 1 ≤ 16 ∧ (0 + (s.out.length - (n : Int).toNat)) * 16 ≤ 140737488355328 ∧ 1 = 1 ∧ 0 + (s.out.length - (n : Int).toNat) ≤ 9223372036854775807 := by omega
      have d1 : decide (((0 + (s.out.length - (n : Int).toNat) : Nat) : Int) > 0) = true := decide_eq_true (by omega)
      refine Lent.of f79 rfl (of_decide_eq_true (by kernel_rfl)) rfl rfl (Nat.le_refl _) rfl (rB_ok _) rfl ?_
      unfold rB rC sv
      try unfold lv
      refine Wp.seq (Wp.text (kp 5 (vI r) (kp 6 (vP 0 0) (kp 7 (vP 0 0) (kp 8 (vP 0 8) (kp 9 (vI (St.acked s)) (kp 10 (vI (IntKind.wrap .i64 ((↑r : Int) - (↑(St.acked s) : Int)))) (kp 11 (vI (IntKind.wrap .i64 (IntKind.wrap .i64 ((↑r : Int) - (↑(St.acked s) : Int)) + 8))) (kp 12 (vI (Int.tmod (IntKind.wrap .i64 (IntKind.wrap .i64 ((↑r : Int) - (↑(St.acked s) : Int)) + 8)) 8)) (kp 4 (vI (Int.tmod (IntKind.wrap .i64 (IntKind.wrap .i64 ((↑r : Int) - (↑(St.acked s) : Int)) + 8)) 8)) (WpOps.nil (thenK_at (Wp.seq (Wp.seq (Wp.text (kp 13 (vI (Int.tmod (IntKind.wrap .i64 (IntKind.wrap .i64 ((↑r : Int) - (↑(St.acked s) : Int)) + 8)) 8)) (kp 14 (.bool (Int.tmod (IntKind.wrap .i64 (IntKind.wrap .i64 ((↑r : Int) - (↑(St.acked s) : Int)) + 8)) 8 == 0)) (kp 15 (.bool (Int.tmod (IntKind.wrap .i64 (IntKind.wrap .i64 ((↑r : Int) - (↑(St.acked s) : Int)) + 8)) 8 == 0)) ?_))))))))))))))))))
      refine WpOps.fork 8 (Int.tmod (IntKind.wrap IntKind.i64 (IntKind.wrap IntKind.i64 ((↑r : Int) - (↑(St.acked s) : Int)) + 8)) 8 == 0) [16, 17, 18, 19, 20, 21, 22, 23] 23 (true) (decide (Int.tmod (IntKind.wrap IntKind.i64 (IntKind.wrap IntKind.i64 ((↑r : Int) - (↑(St.acked s) : Int)) + 8)) 8 > (↑(List.length (St.out s)) : Int))) (by kernel_rfl) (fun g23 => ?_) (fun g23 => ?_) (fun f_23 b23 hb23 => ?_)
      · refine um 16 (um 17 (um 18 (um 19 (um 20 (um 21 (um 22 (kp 23 vT (WpOps.nil ?_) (hop := fun _ => o_pickT g23)) (hw := wants_tf g23)) (hw := wants_tf g23)) (hw := wants_tf g23)) (hw := wants_tf g23)) (hw := wants_tf g23)) (hw := wants_tf g23)) (hw := wants_tf g23)
        exact ⟨rfl, (.upd rfl (.upd rfl (.upd rfl (.upd rfl (.upd rfl (.upd rfl (.upd rfl (.upd rfl .refl)))))))), (by kernel_rfl)⟩
      · refine kp 16 (vI (Int.tmod (IntKind.wrap .i64 (IntKind.wrap .i64 ((↑r : Int) - (↑(St.acked s) : Int)) + 8)) 8)) (kp 17 (vP 0 0) (kp 18 (vP 0 0) (kp 19 (vP 0 13) (kp 20 (sv (St.out s)) (kp 21 (vI (List.length (St.out s))) (kp 22 (.bool (decide (Int.tmod (IntKind.wrap .i64 (IntKind.wrap .i64 ((↑r : Int) - (↑(St.acked s) : Int)) + 8)) 8 > (↑(List.length (St.out s)) : Int)))) (kp 23 (.bool (decide (Int.tmod (IntKind.wrap .i64 (IntKind.wrap .i64 ((↑r : Int) - (↑(St.acked s) : Int)) + 8)) 8 > (↑(List.length (St.out s)) : Int)))) (WpOps.nil ?_) (hop := fun _ => o_pickF g23)) (hw := wants_ff g23)) (hw := wants_ff g23)) (hw := wants_ff g23)) (hw := wants_ff g23)) (hw := wants_ff g23)) (hw := wants_ff g23)) (hw := wants_ff g23)
        exact ⟨rfl, (.upd rfl (.upd rfl (.upd rfl (.upd rfl (.upd rfl (.upd rfl (.upd rfl (.upd rfl .refl)))))))), (by kernel_rfl)⟩
      refine WpOps.nil (thenK_at ?_)
      obtain rfl : b23 = false := by
        rw [hb23, wn, show ((n : Int) == 0) = false from beq_false_of_ne (by omega), show decide ((n : Int) > s.out.length) = false from decide_eq_false (by omega)]
        rfl
      refine off' (Wp.skip (thenK_at ?_))
      rw [wn]
      refine Wp.seq (Wp.text (kp 24 (vP 0 0) (md 25 (.slice (some ⟨1, 0, none⟩) 0 0) (Blk.mk 9 true []) (kp 26 (vP 0 0) (kp 27 (vP 0 0) (kp 28 (vP 0 13) (kp 29 (sv (St.out s)) (kp 30 (vI n) (kp 31 (.iface 9 (Value.iface (List.length (St.out s) - Int.toNat (↑n : Int)) (Value.iface (if 3 = 2 then 2 else (if 3 = 3 then 3 else 0)) (Value.agg (List.toArray (List.take ((List.length (St.out s) - Int.toNat (↑n : Int)) * 1) (List.drop (Int.toNat (↑n : Int) * 1) (Array.toList (List.toArray (ss (St.out s))))))))))) ?_ (hop := fun _ => o_cutF_lo (size := 1) g1))))))))))
      refine ra 32 (.slice (some ⟨2, 0, none⟩) (0 + (List.length (St.out s) - Int.toNat (↑n : Int))) (0 + (List.length (St.out s) - Int.toNat (↑n : Int)))) (1) (Blk.mk 9 true ([] ++ Array.toList (List.toArray (List.take ((List.length (St.out s) - Int.toNat (↑n : Int)) * 1) (List.drop (Int.toNat (↑n : Int) * 1) (Array.toList (List.toArray (ss (St.out s))))))))) ?_ (hop := fun _ => o_append (e := 9) (1) (0) (0) _ (0) q1 q2)
      refine kp 33 (vP 0 0) (kp 34 (vP 0 13) (ld (.tuple #[]) (0) (Blk.mk 92 true [vT, Value.bool (St.first s), vI (St.win s), vI (St.wait s), vI (St.tries s), vI (St.state s), vI (St.gen s), vI (St.sent s), vI (St.acked s), vI (St.wanted s), Value.bool (St.rej s), Value.bool (St.ren s), Value.iface 9 (Value.iface (List.length (St.queue s)) (Value.iface 3 (Value.agg (List.toArray (ss (St.queue s)))))), Value.slice (some ⟨2, 0, none⟩) (0 + (List.length (St.out s) - Int.toNat (↑n : Int))) (0 + (List.length (St.out s) - Int.toNat (↑n : Int))), vI (St.left s), vI (St.tried s)]) (WpOps.nil (thenK_at (Wp.seq (Wp.text (kp 35 (vP 0 0) (kp 36 (vI r) (kp 37 (vP 0 0) (kp 38 (vP 0 8) (ld (.tuple #[]) (0) (Blk.mk 92 true [vT, Value.bool (St.first s), vI (St.win s), vI (St.wait s), vI (St.tries s), vI (St.state s), vI (St.gen s), vI (St.sent s), vI r, vI (St.wanted s), Value.bool (St.rej s), Value.bool (St.ren s), Value.iface 9 (Value.iface (List.length (St.queue s)) (Value.iface 3 (Value.agg (List.toArray (ss (St.queue s)))))), Value.slice (some ⟨2, 0, none⟩) (0 + (List.length (St.out s) - Int.toNat (↑n : Int))) (0 + (List.length (St.out s) - Int.toNat (↑n : Int))), vI (St.left s), vI (St.tried s)]) ?_)))))))))))
      refine WpOps.nil (thenK_at (Wp.seq (Wp.text (kp 39 (vP 0 0) (kp 40 (vP 0 0) (kp 41 (vP 0 15) (ld (.tuple #[]) (0) (Blk.mk 92 true [vT, Value.bool (St.first s), vI (St.win s), vI (St.wait s), vI (St.tries s), vI (St.state s), vI (St.gen s), vI (St.sent s), vI r, vI (St.wanted s), Value.bool (St.rej s), Value.bool (St.ren s), Value.iface 9 (Value.iface (List.length (St.queue s)) (Value.iface 3 (Value.agg (List.toArray (ss (St.queue s)))))), Value.slice (some ⟨2, 0, none⟩) (0 + (List.length (St.out s) - Int.toNat (↑n : Int))) (0 + (List.length (St.out s) - Int.toNat (↑n : Int))), vI (St.left s), vI 0]) (WpOps.nil (thenK_at (Wp.seq (Wp.text (kp 42 (vP 0 0) (kp 43 (vP 0 0) (kp 44 (vP 0 14) (ld (.tuple #[]) (0) (Blk.mk 92 true [vT, Value.bool (St.first s), vI (St.win s), vI (St.wait s), vI (St.tries s), vI (St.state s), vI (St.gen s), vI (St.sent s), vI r, vI (St.wanted s), Value.bool (St.rej s), Value.bool (St.ren s), Value.iface 9 (Value.iface (List.length (St.queue s)) (Value.iface 3 (Value.agg (List.toArray (ss (St.queue s)))))), Value.slice (some ⟨2, 0, none⟩) (0 + (List.length (St.out s) - Int.toNat (↑n : Int))) (0 + (List.length (St.out s) - Int.toNat (↑n : Int))), vI 0, vI 0]) ?_)))))))))))))))
      refine WpOps.nil (thenK_at (Wp.seq (Wp.text (kp 45 (vP 0 0) (kp 46 (vP 0 0) (kp 47 (vP 0 13) (kp 48 (.slice (some ⟨2, 0, none⟩) (0 + (List.length (St.out s) - Int.toNat (↑n : Int))) (0 + (List.length (St.out s) - Int.toNat (↑n : Int)))) (kp 49 (vI (↑(0 + (List.length (St.out s) - Int.toNat (↑n : Int))) : Int)) (kp 50 vT (WpOps.nil (thenK_at (on' (Wp.text (kp 51 (vP 0 0) (kp 52 (vP 0 0) (kp 53 (vP 0 0) (kp 54 (vP 0 3) (kp 55 (vI (St.wait s)) (kp 56 (vP 0 0) (kp 57 (vP 0 14) (ld (.tuple #[]) (0) (Blk.mk 92 true [vT, Value.bool (St.first s), vI (St.win s), vI (St.wait s), vI (St.tries s), vI (St.state s), vI (St.gen s), vI (St.sent s), vI r, vI (St.wanted s), Value.bool (St.rej s), Value.bool (St.ren s), Value.iface 9 (Value.iface (List.length (St.queue s)) (Value.iface 3 (Value.agg (List.toArray (ss (St.queue s)))))), Value.slice (some ⟨2, 0, none⟩) (0 + (List.length (St.out s) - Int.toNat (↑n : Int))) (0 + (List.length (St.out s) - Int.toNat (↑n : Int))), vI (St.wait s), vI 0]) (WpOps.nil (endK_norm [] (Value.tuple #[]) (by kernel_rfl) (by kernel_rfl) ?_)))))))))))))) (hop := fun _ => by_fact d1))))))))))
      exact endR (by kernel_rfl) rfl (.same rfl) (.own 2 (0 + (s.out.length - (n : Int).toNat)) (0 + (s.out.length - (n : Int).toNat)) (((ss s.out).drop ((n : Int).toNat * 1)).take ((s.out.length - (n : Int).toNat) * 1)) rfl (by kernel_rfl) (by dsimp only; rw [hle]; omega) (ss_cut _ _) (by decide)) (.w (.un rfl rfl))
theorem f51 : E.funcs 51 = some Try.f51 := by kernel_rfl
theorem tick51 (s : St) (ha : s.ans = []) (hok : s.Ok) : Lent E 51 [.pointer (some ⟨0, 0, none⟩)] [rB s] (lv (s.tic true).ans) [rB (s.tic true)] := by
  have o1 := hok.wait
  have o2 := hok.left
  have o3 := hok.tries
  have o4 := hok.tried
  have o5 := hok.win
  have o6 := hok.out
  have o7 := hok.acked
  have hA : s.ans.length = 0 := by rw [ha]; rfl
  unfold St.tic
  by_cases h0 : s.left = 0
  · rw [if_pos h0, ha]
    have d1 : ((s.left : Int) == 0) = true := by rw [h0]; rfl
    refine Lent.of f51 rfl (of_decide_eq_true (by kernel_rfl)) rfl rfl (Nat.le_refl _) rfl (rB_ok _) rfl ?_
    unfold rB rC sv
    try unfold lv
    refine Wp.seq (Wp.text (kp 2 vN (WpOps.nil (thenK_at (Wp.seq (Wp.seq (Wp.text (kp 3 (vP 0 0) (kp 4 (vP 0 0) (kp 5 (vP 0 14) (kp 6 (vI (St.left s)) (kp 7 vT (WpOps.nil (thenK_at (on' (Wp.seq (Wp.text (kp 2 vN (WpOps.nil (thenK_at (Wp.ret (thenK_ret (endK_retn [vN] vN (by kernel_rfl) (by kernel_rfl) ?_))))))))))) (hop := fun _ => by_fact d1)))))))))))))
    exact endR (by kernel_rfl) rfl (.same rfl) (.same rfl) (.w (AnsR.nil rfl rfl).toldW)
  rw [if_neg h0]
  have d1 : ((s.left : Int) == 0) = false := beq_false_of_ne (by omega)
  have wl : IntKind.i64.wrap ((s.left : Int) - 1) = ((s.left - 1 : Nat) : Int) := by rw [wr _ (by omega) (by omega)]; omega
  by_cases h1 : s.left - 1 > 0
  · rw [if_pos h1]
    have d2 : decide (((s.left - 1 : Nat) : Int) > 0) = true := decide_eq_true (by omega)
    refine Lent.of f51 rfl (of_decide_eq_true (by kernel_rfl)) rfl rfl (Nat.le_refl _) rfl (rB_ok _) rfl ?_
    unfold rB rC sv
    try unfold lv
    refine Wp.seq (Wp.text (kp 2 vN (WpOps.nil (thenK_at (Wp.seq (Wp.seq (Wp.text (kp 3 (vP 0 0) (kp 4 (vP 0 0) (kp 5 (vP 0 14) (kp 6 (vI (St.left s)) (kp 7 vF (WpOps.nil (thenK_at (off' (Wp.skip (thenK_at (Wp.seq (Wp.text (kp 8 (vP 0 0) (kp 9 (vP 0 0) (kp 10 (vP 0 0) (kp 11 (vP 0 14) (kp 12 (vI (St.left s)) (kp 13 (vI (IntKind.wrap .i64 ((↑(St.left s) : Int) - 1))) (kp 14 (vP 0 0) (kp 15 (vP 0 14) (ld (.tuple #[]) (0) (Blk.mk 92 true [vT, Value.bool (St.first s), vI (St.win s), vI (St.wait s), vI (St.tries s), vI (St.state s), vI (St.gen s), vI (St.sent s), vI (St.acked s), vI (St.wanted s), Value.bool (St.rej s), Value.bool (St.ren s), Value.iface 9 (Value.iface (List.length (St.queue s)) (Value.iface 3 (Value.agg (List.toArray (ss (St.queue s)))))), Value.iface 9 (Value.iface (List.length (St.out s)) (Value.iface 3 (Value.agg (List.toArray (ss (St.out s)))))), vI (IntKind.wrap .i64 ((↑(St.left s) : Int) - 1)), vI (St.tried s)]) (WpOps.nil (thenK_at (Wp.seq (Wp.seq (Wp.text (kp 16 (vP 0 0) (kp 17 (vP 0 0) ?_))))))))))))))))))))))) (hop := fun _ => by_fact d1)))))))))))))
    refine kp 18 (vP 0 14) (kp 19 (vI (IntKind.wrap .i64 ((↑(St.left s) : Int) - 1))) (kp 20 (.bool (decide (IntKind.wrap .i64 ((↑(St.left s) : Int) - 1) > 0))) (WpOps.nil (thenK_at ?_))))
    rw [wl]
    refine on' (Wp.seq (Wp.text (kp 2 vN (WpOps.nil (thenK_at (Wp.ret (thenK_ret (endK_retn [vN] vN (by kernel_rfl) (by kernel_rfl) ?_)))))))) (hc := ev_fact d2)
    exact endR (by kernel_rfl) rfl (.same rfl) (.same rfl) (.w (AnsR.nil rfl ha).toldW)
  rw [if_neg h1]
  have e1 : s.left - 1 = 0 := by omega
  have d2 : decide (((s.left - 1 : Nat) : Int) > 0) = false := decide_eq_false (by omega)
  by_cases h2 : s.tried ≥ s.tries
  · rw [if_pos h2]
    have d3 : ((s.tried : Int) == (s.tries : Int)) = true := by rw [show s.tried = s.tries by omega]; exact beq_self_eq_true _
    obtain ⟨s1, hs1⟩ : ∃ s1, s1 = ({ s with left := 0 } : St) := ⟨_, rfl⟩
    have ea : s1.ans = [] := by rw [hs1]; exact ha
    have c1 := quit78 s1 (by rw [ea]; exact Nat.zero_le _)
    rw [ea] at c1
    rw [← hs1]
    refine Lent.of f51 rfl (of_decide_eq_true (by kernel_rfl)) rfl rfl (Nat.le_refl _) rfl (rB_ok _) rfl ?_
    unfold rB rC sv
    try unfold lv
    refine Wp.seq (Wp.text (kp 2 vN (WpOps.nil (thenK_at (Wp.seq (Wp.seq (Wp.text (kp 3 (vP 0 0) (kp 4 (vP 0 0) (kp 5 (vP 0 14) (kp 6 (vI (St.left s)) (kp 7 vF (WpOps.nil (thenK_at (off' (Wp.skip (thenK_at (Wp.seq (Wp.text (kp 8 (vP 0 0) (kp 9 (vP 0 0) (kp 10 (vP 0 0) (kp 11 (vP 0 14) (kp 12 (vI (St.left s)) (kp 13 (vI (IntKind.wrap .i64 ((↑(St.left s) : Int) - 1))) (kp 14 (vP 0 0) (kp 15 (vP 0 14) (ld (.tuple #[]) (0) (Blk.mk 92 true [vT, Value.bool (St.first s), vI (St.win s), vI (St.wait s), vI (St.tries s), vI (St.state s), vI (St.gen s), vI (St.sent s), vI (St.acked s), vI (St.wanted s), Value.bool (St.rej s), Value.bool (St.ren s), Value.iface 9 (Value.iface (List.length (St.queue s)) (Value.iface 3 (Value.agg (List.toArray (ss (St.queue s)))))), Value.iface 9 (Value.iface (List.length (St.out s)) (Value.iface 3 (Value.agg (List.toArray (ss (St.out s)))))), vI (IntKind.wrap .i64 ((↑(St.left s) : Int) - 1)), vI (St.tried s)]) (WpOps.nil (thenK_at (Wp.seq (Wp.seq (Wp.text (kp 16 (vP 0 0) (kp 17 (vP 0 0) ?_))))))))))))))))))))))) (hop := fun _ => by_fact d1)))))))))))))
    refine kp 18 (vP 0 14) (kp 19 (vI (IntKind.wrap .i64 ((↑(St.left s) : Int) - 1))) (kp 20 (.bool (decide (IntKind.wrap .i64 ((↑(St.left s) : Int) - 1) > 0))) (WpOps.nil (thenK_at ?_))))
    rw [wl]
    refine off' (Wp.skip (thenK_at (Wp.seq (Wp.seq (Wp.region (by kernel_rfl) (kp 21 (vP 0 0) (kp 22 (vP 0 0) (kp 23 (vP 0 15) (kp 24 (vI (St.tried s)) (kp 25 (vP 0 0) (kp 26 (vP 0 0) (kp 27 (vP 0 4) (kp 28 (vI (St.tries s)) (kp 29 vT (WpOps.nil (thenK_at (on' (Wp.seq (Wp.text (kp 30 (vP 0 0) (cl 31 78 [vP 0 0, vN] ?_))))))) (hop := fun _ => by_fact d3))))))))))))))) (hc := ev_fact d2)
    rw [e1]
    refine WpCall.nil1 ?_
    refine WpCall.rf c1 (by kernel_rfl) (by subst hs1; rfl) (by subst hs1; rfl) rfl ?_
    unfold rB rC sv
    try unfold lv
    refine kp 2 (lv (St.ans (St.giv true s1))) (WpOps.nil (thenK_at (Wp.ret (thenK_ret (endK_retn [Value.iface 61 (Value.iface (List.length (St.ans (St.giv true s1))) (Value.iface 3 (Value.agg (List.toArray (evl (St.ans (St.giv true s1)))))))] (lv (St.ans (St.giv true s1))) (by kernel_rfl) (by kernel_rfl) ?_)))))
    exact endR (by kernel_rfl) rfl (.same rfl) (.same rfl) (.w (.un rfl rfl))
  rw [if_neg h2]
  have d3 : ((s.tried : Int) == (s.tries : Int)) = false := beq_false_of_ne (by omega)
  have wt : IntKind.i64.wrap ((s.tried : Int) + 1) = ((s.tried + 1 : Nat) : Int) := by rw [wr _ (by omega) (by omega)]; omega
  dsimp only
  obtain ⟨s1, hs1⟩ : ∃ s1, s1 = ({ s with tried := s.tried + 1, left := s.wait } : St) := ⟨_, rfl⟩
  have ea : s1.ans = [] := by rw [hs1]; exact ha
  rw [← hs1]
  refine Lent.of f51 rfl (of_decide_eq_true (by kernel_rfl)) rfl rfl (Nat.le_refl _) rfl (rB_ok _) rfl ?_
  unfold rB rC sv
  try unfold lv
  refine Wp.seq (Wp.text (kp 2 vN (WpOps.nil (thenK_at (Wp.seq (Wp.seq (Wp.text (kp 3 (vP 0 0) (kp 4 (vP 0 0) (kp 5 (vP 0 14) (kp 6 (vI (St.left s)) (kp 7 vF (WpOps.nil (thenK_at (off' (Wp.skip (thenK_at (Wp.seq (Wp.text (kp 8 (vP 0 0) (kp 9 (vP 0 0) (kp 10 (vP 0 0) (kp 11 (vP 0 14) (kp 12 (vI (St.left s)) (kp 13 (vI (IntKind.wrap .i64 ((↑(St.left s) : Int) - 1))) (kp 14 (vP 0 0) (kp 15 (vP 0 14) (ld (.tuple #[]) (0) (Blk.mk 92 true [vT, Value.bool (St.first s), vI (St.win s), vI (St.wait s), vI (St.tries s), vI (St.state s), vI (St.gen s), vI (St.sent s), vI (St.acked s), vI (St.wanted s), Value.bool (St.rej s), Value.bool (St.ren s), Value.iface 9 (Value.iface (List.length (St.queue s)) (Value.iface 3 (Value.agg (List.toArray (ss (St.queue s)))))), Value.iface 9 (Value.iface (List.length (St.out s)) (Value.iface 3 (Value.agg (List.toArray (ss (St.out s)))))), vI (IntKind.wrap .i64 ((↑(St.left s) : Int) - 1)), vI (St.tried s)]) (WpOps.nil (thenK_at (Wp.seq (Wp.seq (Wp.text (kp 16 (vP 0 0) (kp 17 (vP 0 0) ?_))))))))))))))))))))))) (hop := fun _ => by_fact d1)))))))))))))
  refine kp 18 (vP 0 14) (kp 19 (vI (IntKind.wrap .i64 ((↑(St.left s) : Int) - 1))) (kp 20 (.bool (decide (IntKind.wrap .i64 ((↑(St.left s) : Int) - 1) > 0))) (WpOps.nil (thenK_at ?_))))
  rw [wl]
  refine off' (Wp.skip (thenK_at (Wp.seq (Wp.seq (Wp.region (by kernel_rfl) (kp 21 (vP 0 0) (kp 22 (vP 0 0) (kp 23 (vP 0 15) (kp 24 (vI (St.tried s)) (kp 25 (vP 0 0) (kp 26 (vP 0 0) (kp 27 (vP 0 4) (kp 28 (vI (St.tries s)) (kp 29 vF (WpOps.nil (thenK_at (off' (Wp.skip (thenK_at (Wp.seq (Wp.text (kp 32 (vP 0 0) (kp 33 (vP 0 0) (kp 34 (vP 0 0) (kp 35 (vP 0 15) (kp 36 (vI (St.tried s)) (kp 37 (vI (IntKind.wrap .i64 ((↑(St.tried s) : Int) + 1))) (kp 38 (vP 0 0) (kp 39 (vP 0 15) (ld (.tuple #[]) (0) (Blk.mk 92 true [vT, Value.bool (St.first s), vI (St.win s), vI (St.wait s), vI (St.tries s), vI (St.state s), vI (St.gen s), vI (St.sent s), vI (St.acked s), vI (St.wanted s), Value.bool (St.rej s), Value.bool (St.ren s), Value.iface 9 (Value.iface (List.length (St.queue s)) (Value.iface 3 (Value.agg (List.toArray (ss (St.queue s)))))), Value.iface 9 (Value.iface (List.length (St.out s)) (Value.iface 3 (Value.agg (List.toArray (ss (St.out s)))))), vI (↑(St.left s - 1) : Int), vI (IntKind.wrap .i64 ((↑(St.tried s) : Int) + 1))]) ?_)))))))))))))))) (hop := fun _ => by_fact d3))))))))))))))) (hc := ev_fact d2)
  refine WpOps.nil (thenK_at (Wp.seq (Wp.text (kp 40 (vP 0 0) (kp 41 (vP 0 0) (kp 42 (vP 0 0) (kp 43 (vP 0 3) (kp 44 (vI (St.wait s)) (kp 45 (vP 0 0) (kp 46 (vP 0 14) (ld (.tuple #[]) (0) (Blk.mk 92 true [vT, Value.bool (St.first s), vI (St.win s), vI (St.wait s), vI (St.tries s), vI (St.state s), vI (St.gen s), vI (St.sent s), vI (St.acked s), vI (St.wanted s), Value.bool (St.rej s), Value.bool (St.ren s), Value.iface 9 (Value.iface (List.length (St.queue s)) (Value.iface 3 (Value.agg (List.toArray (ss (St.queue s)))))), Value.iface 9 (Value.iface (List.length (St.out s)) (Value.iface 3 (Value.agg (List.toArray (ss (St.out s)))))), vI (St.wait s), vI (IntKind.wrap .i64 ((↑(St.tried s) : Int) + 1))]) (WpOps.nil (thenK_at (Wp.seq (Wp.seq (Wp.text (kp 47 (vP 0 0) (kp 48 (vP 0 0) (kp 49 (vP 0 5) (kp 50 (vI (St.state s)) (WpOps.nil (thenK_at (Wp.block (Wp.seq (Wp.text (kp 52 (.bool ((↑(St.state s) : Int) == 1)) (kp 51 (.bool ((↑(St.state s) : Int) == 1)) (WpOps.nil (thenK_at ?_)))))))))))))))))))))))))))))
  rw [wt]
  skip
  by_cases h3 : s.state = 1
  · have d4 : ((s.state : Int) == 1) = true := by rw [h3]; rfl
    rw [if_pos h3]
    have hff : s.first = true ∨ s.first = false := by cases s.first <;> simp
    rcases hff with hf | hf
    ·
      rw [show s1.ask = s1.snd 1 0 0 nob from if_pos (by rw [hs1]; exact hf)]
      have c1 := put73 s1 1 0 0 nob (by rw [ea]; exact Nat.zero_le _)
      rw [ea] at c1
      refine on' (Wp.seq (Wp.seq (Wp.text (kp 53 (vP 0 0) (kp 54 (vP 0 0) (kp 55 (vP 0 1) (kp 56 vT (WpOps.nil (thenK_at (on' (Wp.seq (Wp.text (kp 57 (vP 0 0) (cl 58 73 [vP 0 0, vN, vI 1, vI 0, vI 0, Value.string (ByteArray.mk #[])] (WpCall.nil1 ?_)))))))) (hop := fun _ => by_fact hf)))))))) (hc := ev_fact d4)
      refine WpCall.rf c1 (by kernel_rfl) (by subst hs1; rfl) (by subst hs1; rfl) rfl ?_
      unfold rB rC sv
      try unfold lv
      refine kp 2 (lv (St.ans (St.snd 1 0 0 nob s1))) (WpOps.nil (thenK_at (Wp.ret (thenK_ret (blockK_ret (thenK_ret (endK_retn [Value.iface 61 (Value.iface (List.length (St.ans (St.snd 1 0 0 nob s1))) (Value.iface 3 (Value.agg (List.toArray (evl (St.ans (St.snd 1 0 0 nob s1)))))))] (lv (St.ans (St.snd 1 0 0 nob s1))) (by kernel_rfl) (by kernel_rfl) ?_)))))))
      exact endR (by kernel_rfl) rfl (.same rfl) (.same rfl) (.w (.un rfl rfl))
    ·
      rw [show s1.ask = s1.snd 8 0 0 nob from if_neg (by rw [hs1]; show ¬ s.first = true; rw [hf]; decide)]
      have c1 := put73 s1 8 0 0 nob (by rw [ea]; exact Nat.zero_le _)
      rw [ea] at c1
      refine on' (Wp.seq (Wp.seq (Wp.text (kp 53 (vP 0 0) (kp 54 (vP 0 0) (kp 55 (vP 0 1) (kp 56 vF (WpOps.nil (thenK_at (off' (Wp.skip (thenK_at (Wp.seq (Wp.text (kp 59 (vP 0 0) (cl 60 73 [vP 0 0, vN, vI 8, vI 0, vI 0, Value.string (ByteArray.mk #[])] (WpCall.nil1 ?_)))))))))) (hop := fun _ => by_fact hf)))))))) (hc := ev_fact d4)
      refine WpCall.rf c1 (by kernel_rfl) (by subst hs1; rfl) (by subst hs1; rfl) rfl ?_
      unfold rB rC sv
      try unfold lv
      refine kp 2 (lv (St.ans (St.snd 8 0 0 nob s1))) (WpOps.nil (thenK_at (Wp.ret (blockK_ret (thenK_ret (endK_retn [Value.iface 61 (Value.iface (List.length (St.ans (St.snd 8 0 0 nob s1))) (Value.iface 3 (Value.agg (List.toArray (evl (St.ans (St.snd 8 0 0 nob s1)))))))] (lv (St.ans (St.snd 8 0 0 nob s1))) (by kernel_rfl) (by kernel_rfl) ?_))))))
      exact endR (by kernel_rfl) rfl (.same rfl) (.same rfl) (.w (.un rfl rfl))
  rw [if_neg h3]
  have d4 : ((s.state : Int) == 1) = false := beq_false_of_ne (by omega)
  by_cases h4 : s.state = 3
  · have d5 : ((s.state : Int) == 3) = true := by rw [h4]; rfl
    have c1 := put73 s1 6 0 0 nob (by rw [ea]; exact Nat.zero_le _)
    rw [ea] at c1
    rw [if_pos h4]
    refine off' (Wp.seq (Wp.text (kp 62 vT (kp 61 vT (WpOps.nil (thenK_at (on' (Wp.seq (Wp.text (kp 63 (vP 0 0) (cl 64 73 [vP 0 0, vN, vI 6, vI 0, vI 0, Value.string (ByteArray.mk #[])] (WpCall.nil1 ?_))))))))) (hop := fun _ => by_fact d5)))) (hc := ev_fact d4)
    refine WpCall.rf c1 (by kernel_rfl) (by subst hs1; rfl) (by subst hs1; rfl) rfl ?_
    unfold rB rC sv
    try unfold lv
    refine kp 2 (lv (St.ans (St.snd 6 0 0 nob s1))) (WpOps.nil (thenK_at (Wp.ret (blockK_ret (thenK_ret (endK_retn [Value.iface 61 (Value.iface (List.length (St.ans (St.snd 6 0 0 nob s1))) (Value.iface 3 (Value.agg (List.toArray (evl (St.ans (St.snd 6 0 0 nob s1)))))))] (lv (St.ans (St.snd 6 0 0 nob s1))) (by kernel_rfl) (by kernel_rfl) ?_))))))
    exact endR (by kernel_rfl) rfl (.same rfl) (.same rfl) (.w (.un rfl rfl))
  rw [if_neg h4]
  have d5 : ((s.state : Int) == 3) = false := beq_false_of_ne (by omega)
  have h5 : s.state = 2 := by
    have := hok.state
    have := hok.down
    omega
  rw [if_pos h5]
  have c1 := resend80 s1 (by rw [hs1]; exact o7) (by rw [hs1]; show s.out.length ≤ 7; omega) (by rw [ea]; exact Nat.zero_le _)
  rw [ea] at c1
  refine off' (Wp.seq (Wp.text (kp 62 vF (kp 61 vF (WpOps.nil (thenK_at (off' (Wp.skip (blockK_norm (thenK_at (Wp.seq (Wp.text (kp 65 (vP 0 0) (cl 66 80 [vP 0 0, vN] (WpCall.nil1 ?_)))))))))))) (hop := fun _ => by_fact d5)))) (hc := ev_fact d4)
  refine WpCall.rf c1 (by kernel_rfl) (by subst hs1; rfl) (by subst hs1; rfl) rfl ?_
  unfold rB rC sv
  try unfold lv
  refine kp 2 (lv (St.ans (St.agn s1))) (WpOps.nil (thenK_at (Wp.ret (endK_retn [Value.iface 61 (Value.iface (List.length (St.ans (St.agn s1))) (Value.iface 3 (Value.agg (List.toArray (evl (St.ans (St.agn s1)))))))] (lv (St.ans (St.agn s1))) (by kernel_rfl) (by kernel_rfl) ?_))))
  exact endR (by kernel_rfl) rfl (.same rfl) (.same rfl) (.w (.un rfl rfl))
end Go.Proofs.Ytgefohjickhldaa.D
