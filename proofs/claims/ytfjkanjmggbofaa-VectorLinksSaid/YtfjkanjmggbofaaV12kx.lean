/- Cut of the program, whose function holds pointers; Cut of the document; nets compared. -/
import Derived.Test.YtfjkanjmggbofaaFwLem
import Derived.Test.YtfjkanjmggbofaaFwCons
import Derived.Test.YtfjkanjmggbofaaFwEnter
import Derived.Test.YtfjkanjmggbofaaV12np

import Derived.Test.YtfjkanjmggbofaaV12np
namespace Go.Proofs.Ytfjkanjmggbofaa.D
open Go.Fw Go.RowKit

theorem f67 : E.funcs 67 = some Try.f67 := by kernel_rfl
theorem hit67 (l : Lk) (a b : Int) : Lent E 67 [.agg #[.int .i64 l.1, .int .i64 l.2.1, .int .i64 l.2.2], .pointer (some ⟨0, 0, none⟩), .pointer (some ⟨1, 0, none⟩)] [⟨3, true, [.int .i64 a]⟩, ⟨3, true, [.int .i64 b]⟩] (.bool (hit a b l)) [⟨3, true, [.int .i64 a]⟩, ⟨3, true, [.int .i64 b]⟩] := by
  refine Lent.of f67 rfl (of_decide_eq_true (by kernel_rfl)) rfl rfl (Nat.le_refl _) (by kernel_rfl) (by kernel_rfl) rfl ?_
  refine Wp.seq (Wp.text ?_)
  refine md 3 (.pointer (some ⟨2, 0, none⟩)) (Blk.mk 48 true [Value.int .i64 (Prod.fst l), Value.int .i64 (Prod.fst (Prod.snd l)), Value.int .i64 (Prod.snd (Prod.snd l))]) ?_
  refine kp 4 (.bool false) ?_
  refine WpOps.nil (thenK_at (Wp.seq (Wp.text ?_)))
  refine kp 5 (.pointer (some ⟨2, 0, none⟩)) ?_
  refine kp 6 (.int IntKind.i64 (Prod.fst l)) ?_
  refine kp 7 (.int IntKind.i64 a) ?_
  refine kp 8 (.int IntKind.i64 b) ?_
  refine kp 9 (.int IntKind.i64 (if b < a then b else a)) ?_
  refine kp 10 (.bool (Prod.fst l == if b < a then b else a)) ?_
  refine kp 11 (.bool (Prod.fst l == if b < a then b else a)) ?_
  refine WpOps.fork 7 (Prod.fst l == if b < a then b else a) [12, 13, 14, 15, 16, 17, 18] 18 (Prod.fst (Prod.snd l) == if b > a then b else a) (false) (by kernel_rfl) (fun g18 => ?_) (fun g18 => ?_) (fun f_18 b18 hb18 => ?_)
  · refine kp 12 (.pointer (some ⟨2, 1, none⟩)) ?_ (hw := wants_tt g18)
    refine kp 13 (.int IntKind.i64 (Prod.fst (Prod.snd l))) ?_ (hw := wants_tt g18)
    refine kp 14 (.int IntKind.i64 a) ?_ (hw := wants_tt g18)
    refine kp 15 (.int IntKind.i64 b) ?_ (hw := wants_tt g18)
    refine kp 16 (.int IntKind.i64 (if b > a then b else a)) ?_ (hw := wants_tt g18)
    refine kp 17 (.bool (Prod.fst (Prod.snd l) == if b > a then b else a)) ?_ (hw := wants_tt g18)
    refine kp 18 (.bool (Prod.fst (Prod.snd l) == if b > a then b else a)) ?_ (hop := fun _ => o_pickT g18)
    refine WpOps.nil ?_
    exact ⟨rfl, (.upd rfl (.upd rfl (.upd rfl (.upd rfl (.upd rfl (.upd rfl (.upd rfl .refl))))))), (by kernel_rfl)⟩
  · refine um 12 ?_ (hw := wants_ft g18)
    refine um 13 ?_ (hw := wants_ft g18)
    refine um 14 ?_ (hw := wants_ft g18)
    refine um 15 ?_ (hw := wants_ft g18)
    refine um 16 ?_ (hw := wants_ft g18)
    refine um 17 ?_ (hw := wants_ft g18)
    refine kp 18 (.bool false) ?_ (hop := fun _ => o_pickF g18)
    refine WpOps.nil ?_
    exact ⟨rfl, (.upd rfl (.upd rfl (.upd rfl (.upd rfl (.upd rfl (.upd rfl (.upd rfl .refl))))))), (by kernel_rfl)⟩
  refine kp 4 (.bool b18) ?_
  refine WpOps.nil (thenK_at (Wp.ret ?_))
  refine endK_retn [Value.bool b18] (Value.bool b18) (by kernel_rfl) (by kernel_rfl) ?_
  rw [hb18]
  exact ⟨[0, 1], by decide, by kernel_rfl, ⟨⟨[.int .i64 a], by kernel_rfl, toldC_flat rfl⟩, ⟨[.int .i64 b], by kernel_rfl, toldC_flat rfl⟩, trivial⟩, .w (.un rfl rfl)⟩
/-- A link is that of two ends. -/
def hitP (p q : Int) (l : Lk) : Bool := bif l.1 == p then l.2.1 == q else false
theorem f61 : E.funcs 61 = some Try.f61 := by kernel_rfl
theorem hit61 (l : Lk) (p q r : Int) : Lent E 61 [.agg #[.int .i64 l.1, .int .i64 l.2.1, .int .i64 l.2.2], .pointer (some ⟨0, 0, none⟩)] [⟨48, true, [.int .i64 p, .int .i64 q, .int .i64 r]⟩] (.bool (hitP p q l)) [⟨48, true, [.int .i64 p, .int .i64 q, .int .i64 r]⟩] := by
  refine Lent.of f61 rfl (of_decide_eq_true (by kernel_rfl)) rfl rfl (Nat.le_refl _) (by kernel_rfl) (by kernel_rfl) rfl ?_
  refine Wp.seq (Wp.text ?_)
  refine md 2 (.pointer (some ⟨1, 0, none⟩)) (Blk.mk 48 true [Value.int .i64 (Prod.fst l), Value.int .i64 (Prod.fst (Prod.snd l)), Value.int .i64 (Prod.snd (Prod.snd l))]) ?_
  refine kp 3 (.bool false) ?_
  refine WpOps.nil (thenK_at (Wp.seq (Wp.text ?_)))
  refine kp 4 (.pointer (some ⟨1, 0, none⟩)) ?_
  refine kp 5 (.int IntKind.i64 (Prod.fst l)) ?_
  refine kp 6 (.pointer (some ⟨0, 0, none⟩)) ?_
  refine kp 7 (.int IntKind.i64 p) ?_
  refine kp 8 (.bool (Prod.fst l == p)) ?_
  refine kp 9 (.bool (Prod.fst l == p)) ?_
  refine WpOps.fork 6 (Prod.fst l == p) [10, 11, 12, 13, 14, 15] 15 (Prod.fst (Prod.snd l) == q) (false) (by kernel_rfl) (fun g15 => ?_) (fun g15 => ?_) (fun f_15 b15 hb15 => ?_)
  · refine kp 10 (.pointer (some ⟨1, 1, none⟩)) ?_ (hw := wants_tt g15)
    refine kp 11 (.int IntKind.i64 (Prod.fst (Prod.snd l))) ?_ (hw := wants_tt g15)
    refine kp 12 (.pointer (some ⟨0, 1, none⟩)) ?_ (hw := wants_tt g15)
    refine kp 13 (.int IntKind.i64 q) ?_ (hw := wants_tt g15)
    refine kp 14 (.bool (Prod.fst (Prod.snd l) == q)) ?_ (hw := wants_tt g15)
    refine kp 15 (.bool (Prod.fst (Prod.snd l) == q)) ?_ (hop := fun _ => o_pickT g15)
    refine WpOps.nil ?_
    exact ⟨rfl, (.upd rfl (.upd rfl (.upd rfl (.upd rfl (.upd rfl (.upd rfl .refl)))))), (by kernel_rfl)⟩
  · refine um 10 ?_ (hw := wants_ft g15)
    refine um 11 ?_ (hw := wants_ft g15)
    refine um 12 ?_ (hw := wants_ft g15)
    refine um 13 ?_ (hw := wants_ft g15)
    refine um 14 ?_ (hw := wants_ft g15)
    refine kp 15 (.bool false) ?_ (hop := fun _ => o_pickF g15)
    refine WpOps.nil ?_
    exact ⟨rfl, (.upd rfl (.upd rfl (.upd rfl (.upd rfl (.upd rfl (.upd rfl .refl)))))), (by kernel_rfl)⟩
  refine kp 3 (.bool b15) ?_
  refine WpOps.nil (thenK_at (Wp.ret ?_))
  refine endK_retn [Value.bool b15] (Value.bool b15) (by kernel_rfl) (by kernel_rfl) ?_
  rw [hb15]
  exact ⟨[0], by decide, by kernel_rfl, ⟨⟨[.int .i64 p, .int .i64 q, .int .i64 r], by kernel_rfl, toldC_flat rfl⟩, trivial⟩, .w (.un rfl rfl)⟩
open Go.Fw Go.RowKit

theorem f60 : E.funcs 60 = some Try.f60 := by kernel_rfl
set_option maxHeartbeats 4000000 in
theorem idx60c (N : Int) (x : Nat) (ls : List Lk) (a b : Int) (fi : Nat) (hn : ls.length ≤ 17592186044416) (hn0 : 0 < ls.length) (h1 : fi ≤ ls.length) (h2 : ∀ j, j < fi → hit a b (ls.getD j (0, 0, 0)) = false) (h3 : fi < ls.length → hit a b (ls.getD fi (0, 0, 0)) = true) :
    SCall E 60 [.slice (some ⟨4, 0, none⟩) ls.length ls.length, .func (.func 67) #[] #[.pointer (some ⟨1, 0, none⟩), .pointer (some ⟨2, 0, none⟩)]] (heapOf [⟨24, true, [.int .i64 N, lks x ls]⟩, ⟨3, true, [.int .i64 a]⟩, ⟨3, true, [.int .i64 b]⟩, ⟨24, true, [.int .i64 0, .slice none 0 0]⟩, ⟨48, true, lcs ls⟩]) (.int .i64 (if fi < ls.length then (fi : Int) else -1)) (heapOf [⟨24, true, [.int .i64 N, lks x ls]⟩, ⟨3, true, [.int .i64 a]⟩, ⟨3, true, [.int .i64 b]⟩, ⟨24, true, [.int .i64 0, .slice none 0 0]⟩, ⟨48, true, lcs ls⟩]) := by
  refine SCall.enterL f60 rfl (of_decide_eq_true (by kernel_rfl)) (by kernel_rfl) (by kernel_rfl) (Nat.le_refl _) ?_
  have hb1 : ls.length ≠ 0 := by omega
  refine Wp.seq (Wp.text ?_)
  refine kp 4 (.int IntKind.i64 0) ?_
  refine WpOps.nil (thenK_at (Wp.seq (Wp.seq (Wp.text ?_))))
  refine kp 6 (.slice (some ⟨4, 0, none⟩) (List.length ls) (List.length ls)) ?_
  refine kp 7 (.int IntKind.i64 (↑(List.length ls) : Int)) ?_
  refine kp 8 (.int IntKind.i64 0) ?_
  refine WpOps.nil (thenK_at (Wp.block ?_))
  refine Wp.loop (G := Nat) (fun k => layj [(0, .slice (some ⟨4, 0, none⟩) ls.length ls.length), (1, .func (.func 67) #[] #[.pointer (some ⟨1, 0, none⟩), .pointer (some ⟨2, 0, none⟩)]), (7, .int .i64 ls.length), (8, .int .i64 k)]) (fun _ => heapOf [⟨24, true, [.int .i64 N, lks x ls]⟩, ⟨3, true, [.int .i64 a]⟩, ⟨3, true, [.int .i64 b]⟩, ⟨24, true, [.int .i64 0, .slice none 0 0]⟩, ⟨48, true, lcs ls⟩]) (fun k => ls.length - k) (fun k => k ≤ fi) 0
    (View.of [0, 1, 2, 3, 4] [⟨24, true, [.int .i64 N, lks x ls]⟩, ⟨3, true, [.int .i64 a]⟩, ⟨3, true, [.int .i64 b]⟩, ⟨24, true, [.int .i64 0, .slice none 0 0]⟩, ⟨48, true, lcs ls⟩] _ (by decide) rfl ⟨⟨_, rfl, CellsOk.eq rfl (by kernel_rfl)⟩, ⟨_, rfl, CellsOk.eq rfl (by kernel_rfl)⟩, ⟨_, rfl, CellsOk.eq rfl (by kernel_rfl)⟩, ⟨_, rfl, CellsOk.eq rfl (by kernel_rfl)⟩, ⟨_, rfl, CellsOk.eq rfl (lcs_flat _)⟩, trivial⟩ ⟨⟨by kernel_rfl, rfl⟩, ⟨by kernel_rfl, rfl⟩, ⟨by kernel_rfl, rfl⟩, ⟨by kernel_rfl, rfl⟩, trivial⟩) (Nat.zero_le _) ?_
  intro k hk
  by_cases hlt : k < ls.length
  · have d1 : decide ((k : Int) < ls.length) = true := decide_eq_true (by omega)
    have g1 : 0 ≤ (k : Int) ∧ (k : Int) < ls.length := by omega
    have v1 : cellsAt (lcs ls) (0 + (k : Int).toNat * 3) 3 = some [.int .i64 (ls.getD k (0, 0, 0)).1, .int .i64 (ls.getD k (0, 0, 0)).2.1, .int .i64 (ls.getD k (0, 0, 0)).2.2] := by
      rw [Nat.zero_add]
      exact lcs_cells ls k (0, 0, 0) hlt
    have c1 := hit67 (ls.getD k (0, 0, 0)) a b
    by_cases hkf : k = fi
    · have hP := h3 (by omega)
      rw [← hkf] at hP
      rw [hP] at c1
      rw [if_pos (by omega), ← hkf]
      refine Wp.seq (Wp.text ?_)
      refine kp 9 (.bool true) ?_ (hop := fun _ => by_fact d1)
      refine WpOps.nil (thenK_at (Wp.seq (on' (Wp.skip (thenK_at (Wp.seq (Wp.block (Wp.seq (Wp.text ?_)))))))))
      refine kp 10 (.int IntKind.i64 (↑k : Int)) ?_
      refine kp 5 (.int IntKind.i64 (↑k : Int)) ?_
      refine WpOps.nil (thenK_at (Wp.seq (Wp.text ?_)))
      refine kp 11 (.func (Fn.func 67) #[] #[Value.pointer (some ⟨1, 0, none⟩), Value.pointer (some ⟨2, 0, none⟩)]) ?_
      refine kp 12 (.slice (some ⟨4, 0, none⟩) (List.length ls) (List.length ls)) ?_
      refine kp 13 (.int IntKind.i64 (↑k : Int)) ?_
      refine kp 14 (.pointer (some (Addr.mk 4 (0 + Int.toNat (↑k : Int) * 3) none))) ?_ (hop := fun _ => o_indexAddr (a := (↑k : Int)) (bl := 4) (off := 0) (size := 3) 48 (List.length ls) g1)
      refine kp 15 (.agg #[Value.int .i64 (Prod.fst (List.getD ls k (0, 0, 0))), Value.int .i64 (Prod.fst (Prod.snd (List.getD ls k (0, 0, 0)))), Value.int .i64 (Prod.snd (Prod.snd (List.getD ls k (0, 0, 0))))]) ?_ (hop := fun _ => o_loadA (4) (0 + Int.toNat (↑k : Int) * 3) v1)
      refine cl 16 67 [Value.agg #[Value.int .i64 (Prod.fst (List.getD ls k (0, 0, 0))), Value.int .i64 (Prod.fst (Prod.snd (List.getD ls k (0, 0, 0)))), Value.int .i64 (Prod.snd (Prod.snd (List.getD ls k (0, 0, 0))))], Value.pointer (some ⟨1, 0, none⟩), Value.pointer (some ⟨2, 0, none⟩)] ?_
      refine WpCall.lent [1, 2] (c1) (by decide) ⟨⟨[Value.int IntKind.i64 a], (by kernel_rfl), (by kernel_rfl), (by kernel_rfl)⟩, ⟨⟨[Value.int IntKind.i64 b], (by kernel_rfl), (by kernel_rfl), (by kernel_rfl)⟩, trivial⟩⟩ (by kernel_rfl) (Value.bool true) ([Blk.mk 3 true [Value.int IntKind.i64 a], Blk.mk 3 true [Value.int IntKind.i64 b]]) (.cons (by kernel_rfl) (.cons (by kernel_rfl) .nil)) (by kernel_rfl) (Heap.set (Heap.set (heapOf [Blk.mk 24 true [Value.int IntKind.i64 N, lks x ls], Blk.mk 3 true [Value.int IntKind.i64 a], Blk.mk 3 true [Value.int IntKind.i64 b], Blk.mk 24 true [Value.int IntKind.i64 0, Value.slice none 0 0], Blk.mk 48 true (lcs ls)]) 1 (some (Blk.mk 3 true [Value.int IntKind.i64 a]))) 2 (some (Blk.mk 3 true [Value.int IntKind.i64 b]))) (by kernel_rfl) ?_
      refine WpOps.nil (thenK_at (on' (Wp.seq (Wp.text ?_))))
      refine kp 17 (.int IntKind.i64 (↑k : Int)) ?_
      refine kp 4 (.int IntKind.i64 (↑k : Int)) ?_
      refine WpOps.nil (thenK_at (Wp.ret (blockK_ret (thenK_ret (thenK_ret (blockK_ret (thenK_ret ?_)))))))
      refine endK_retn [Value.int IntKind.i64 (↑k : Int)] (Value.int IntKind.i64 (↑k : Int)) (by kernel_rfl) (by kernel_rfl) ?_
      exact ⟨[0, 1, 2, 3, 4], by decide, by kernel_rfl, ⟨⟨_, rfl, toldC_flat (by kernel_rfl)⟩, ⟨_, rfl, toldC_flat (by kernel_rfl)⟩, ⟨_, rfl, toldC_flat (by kernel_rfl)⟩, ⟨_, rfl, toldC_flat (by kernel_rfl)⟩, ⟨_, rfl, toldC_flat (lcs_flat _)⟩, trivial⟩, .w (.un rfl rfl)⟩
    · rw [h2 k (by omega)] at c1
      refine Wp.seq (Wp.text ?_)
      refine kp 9 (.bool true) ?_ (hop := fun _ => by_fact d1)
      refine WpOps.nil (thenK_at (Wp.seq (on' (Wp.skip (thenK_at (Wp.seq (Wp.block (Wp.seq (Wp.text ?_)))))))))
      refine kp 10 (.int IntKind.i64 (↑k : Int)) ?_
      refine kp 5 (.int IntKind.i64 (↑k : Int)) ?_
      refine WpOps.nil (thenK_at (Wp.seq (Wp.text ?_)))
      refine kp 11 (.func (Fn.func 67) #[] #[Value.pointer (some ⟨1, 0, none⟩), Value.pointer (some ⟨2, 0, none⟩)]) ?_
      refine kp 12 (.slice (some ⟨4, 0, none⟩) (List.length ls) (List.length ls)) ?_
      refine kp 13 (.int IntKind.i64 (↑k : Int)) ?_
      refine kp 14 (.pointer (some (Addr.mk 4 (0 + Int.toNat (↑k : Int) * 3) none))) ?_ (hop := fun _ => o_indexAddr (a := (↑k : Int)) (bl := 4) (off := 0) (size := 3) 48 (List.length ls) g1)
      refine kp 15 (.agg #[Value.int .i64 (Prod.fst (List.getD ls k (0, 0, 0))), Value.int .i64 (Prod.fst (Prod.snd (List.getD ls k (0, 0, 0)))), Value.int .i64 (Prod.snd (Prod.snd (List.getD ls k (0, 0, 0))))]) ?_ (hop := fun _ => o_loadA (4) (0 + Int.toNat (↑k : Int) * 3) v1)
      refine cl 16 67 [Value.agg #[Value.int .i64 (Prod.fst (List.getD ls k (0, 0, 0))), Value.int .i64 (Prod.fst (Prod.snd (List.getD ls k (0, 0, 0)))), Value.int .i64 (Prod.snd (Prod.snd (List.getD ls k (0, 0, 0))))], Value.pointer (some ⟨1, 0, none⟩), Value.pointer (some ⟨2, 0, none⟩)] ?_
      refine WpCall.lent [1, 2] (c1) (by decide) ⟨⟨[Value.int IntKind.i64 a], (by kernel_rfl), (by kernel_rfl), (by kernel_rfl)⟩, ⟨⟨[Value.int IntKind.i64 b], (by kernel_rfl), (by kernel_rfl), (by kernel_rfl)⟩, trivial⟩⟩ (by kernel_rfl) (Value.bool false) ([Blk.mk 3 true [Value.int IntKind.i64 a], Blk.mk 3 true [Value.int IntKind.i64 b]]) (.cons (by kernel_rfl) (.cons (by kernel_rfl) .nil)) (by kernel_rfl) (Heap.set (Heap.set (heapOf [Blk.mk 24 true [Value.int IntKind.i64 N, lks x ls], Blk.mk 3 true [Value.int IntKind.i64 a], Blk.mk 3 true [Value.int IntKind.i64 b], Blk.mk 24 true [Value.int IntKind.i64 0, Value.slice none 0 0], Blk.mk 48 true (lcs ls)]) 1 (some (Blk.mk 3 true [Value.int IntKind.i64 a]))) 2 (some (Blk.mk 3 true [Value.int IntKind.i64 b]))) (by kernel_rfl) ?_
      refine WpOps.nil (thenK_at (off' (Wp.skip (blockK_norm (thenK_at (Wp.text ?_))))))
      refine kp 18 (.int IntKind.i64 (IntKind.wrap .i64 ((↑k : Int) + 1))) ?_
      refine kp 8 (.int IntKind.i64 (IntKind.wrap .i64 ((↑k : Int) + 1))) ?_
      refine WpOps.nil (thenK_at ?_)
      exact ⟨k + 1, by omega, by omega, View.of [0, 1, 2, 3, 4] [⟨24, true, [.int .i64 N, lks x ls]⟩, ⟨3, true, [.int .i64 a]⟩, ⟨3, true, [.int .i64 b]⟩, ⟨24, true, [.int .i64 0, .slice none 0 0]⟩, ⟨48, true, lcs ls⟩] _ (by decide) rfl ⟨⟨_, rfl, CellsOk.eq rfl (by kernel_rfl)⟩, ⟨_, rfl, CellsOk.eq rfl (by kernel_rfl)⟩, ⟨_, rfl, CellsOk.eq rfl (by kernel_rfl)⟩, ⟨_, rfl, CellsOk.eq rfl (by kernel_rfl)⟩, ⟨_, rfl, CellsOk.eq rfl (lcs_flat _)⟩, trivial⟩ ⟨⟨by kernel_rfl, rfl⟩, ⟨by kernel_rfl, rfl⟩, ⟨by kernel_rfl, rfl⟩, ⟨congrArg (Value.int .i64) (wr _ (by omega) (by omega)), rfl⟩, trivial⟩⟩
  · obtain rfl : fi = k := by omega
    have d1 : decide ((fi : Int) < ls.length) = false := decide_eq_false (by omega)
    rw [if_neg (by omega)]
    refine Wp.seq (Wp.text ?_)
    refine kp 9 (.bool false) ?_ (hop := fun _ => by_fact d1)
    refine WpOps.nil (thenK_at (Wp.seq (off' (Wp.exit (thenK_exit (thenK_exit (blockK_hit (thenK_at (Wp.seq (Wp.text ?_))))))))))
    refine kp 4 (.int IntKind.i64 (-1)) ?_
    refine WpOps.nil (thenK_at (Wp.ret ?_))
    refine endK_retn [Value.int IntKind.i64 (-1)] (Value.int IntKind.i64 (-1)) (by kernel_rfl) (by kernel_rfl) ?_
    exact ⟨[0, 1, 2, 3, 4], by decide, by kernel_rfl, ⟨⟨_, rfl, toldC_flat (by kernel_rfl)⟩, ⟨_, rfl, toldC_flat (by kernel_rfl)⟩, ⟨_, rfl, toldC_flat (by kernel_rfl)⟩, ⟨_, rfl, toldC_flat (by kernel_rfl)⟩, ⟨_, rfl, toldC_flat (lcs_flat _)⟩, trivial⟩, .w (.un rfl rfl)⟩
set_option maxHeartbeats 4000000 in
theorem idx60j (N : Int) (x : Nat) (ls : List Lk) (p q r : Int) (fi : Nat) (hn : ls.length ≤ 17592186044416) (hn0 : 0 < ls.length) (h1 : fi ≤ ls.length) (h2 : ∀ j, j < fi → hitP p q (ls.getD j (0, 0, 0)) = false) (h3 : fi < ls.length → hitP p q (ls.getD fi (0, 0, 0)) = true) :
    SCall E 60 [.slice (some ⟨3, 0, none⟩) ls.length ls.length, .func (.func 61) #[] #[.pointer (some ⟨2, 0, none⟩)]] (heapOf [⟨24, true, [.int .i64 N, lks x ls]⟩, ⟨24, true, [.int .i64 0, .slice none 0 0]⟩, ⟨48, true, [.int .i64 p, .int .i64 q, .int .i64 r]⟩, ⟨48, true, lcs ls⟩, ⟨24, true, [.int .i64 N, .slice (some ⟨3, 0, none⟩) ls.length ls.length]⟩]) (.int .i64 (if fi < ls.length then (fi : Int) else -1)) (heapOf [⟨24, true, [.int .i64 N, lks x ls]⟩, ⟨24, true, [.int .i64 0, .slice none 0 0]⟩, ⟨48, true, [.int .i64 p, .int .i64 q, .int .i64 r]⟩, ⟨48, true, lcs ls⟩, ⟨24, true, [.int .i64 N, .slice (some ⟨3, 0, none⟩) ls.length ls.length]⟩]) := by
  refine SCall.enterL f60 rfl (of_decide_eq_true (by kernel_rfl)) (by kernel_rfl) (by kernel_rfl) (Nat.le_refl _) ?_
  have hb1 : ls.length ≠ 0 := by omega
  refine Wp.seq (Wp.text ?_)
  refine kp 4 (.int IntKind.i64 0) ?_
  refine WpOps.nil (thenK_at (Wp.seq (Wp.seq (Wp.text ?_))))
  refine kp 6 (.slice (some ⟨3, 0, none⟩) (List.length ls) (List.length ls)) ?_
  refine kp 7 (.int IntKind.i64 (↑(List.length ls) : Int)) ?_
  refine kp 8 (.int IntKind.i64 0) ?_
  refine WpOps.nil (thenK_at (Wp.block ?_))
  refine Wp.loop (G := Nat) (fun k => layj [(0, .slice (some ⟨3, 0, none⟩) ls.length ls.length), (1, .func (.func 61) #[] #[.pointer (some ⟨2, 0, none⟩)]), (7, .int .i64 ls.length), (8, .int .i64 k)]) (fun _ => heapOf [⟨24, true, [.int .i64 N, lks x ls]⟩, ⟨24, true, [.int .i64 0, .slice none 0 0]⟩, ⟨48, true, [.int .i64 p, .int .i64 q, .int .i64 r]⟩, ⟨48, true, lcs ls⟩, ⟨24, true, [.int .i64 N, .slice (some ⟨3, 0, none⟩) ls.length ls.length]⟩]) (fun k => ls.length - k) (fun k => k ≤ fi) 0
    (View.of [0, 1, 2, 3, 4] [⟨24, true, [.int .i64 N, lks x ls]⟩, ⟨24, true, [.int .i64 0, .slice none 0 0]⟩, ⟨48, true, [.int .i64 p, .int .i64 q, .int .i64 r]⟩, ⟨48, true, lcs ls⟩, ⟨24, true, [.int .i64 N, .slice (some ⟨3, 0, none⟩) ls.length ls.length]⟩] _ (by decide) rfl ⟨⟨_, rfl, CellsOk.eq rfl (by kernel_rfl)⟩, ⟨_, rfl, CellsOk.eq rfl (by kernel_rfl)⟩, ⟨_, rfl, CellsOk.eq rfl (by kernel_rfl)⟩, ⟨_, rfl, CellsOk.eq rfl (lcs_flat _)⟩, ⟨[.int .i64 N, .slice (some ⟨3, 0, none⟩) ls.length ls.length], by kernel_rfl, by kernel_rfl, by kernel_rfl⟩, trivial⟩ ⟨⟨by kernel_rfl, rfl⟩, ⟨by kernel_rfl, rfl⟩, ⟨by kernel_rfl, rfl⟩, ⟨by kernel_rfl, rfl⟩, trivial⟩) (Nat.zero_le _) ?_
  intro k hk
  by_cases hlt : k < ls.length
  · have d1 : decide ((k : Int) < ls.length) = true := decide_eq_true (by omega)
    have g1 : 0 ≤ (k : Int) ∧ (k : Int) < ls.length := by omega
    have v1 : cellsAt (lcs ls) (0 + (k : Int).toNat * 3) 3 = some [.int .i64 (ls.getD k (0, 0, 0)).1, .int .i64 (ls.getD k (0, 0, 0)).2.1, .int .i64 (ls.getD k (0, 0, 0)).2.2] := by
      rw [Nat.zero_add]
      exact lcs_cells ls k (0, 0, 0) hlt
    have c1 := hit61 (ls.getD k (0, 0, 0)) p q r
    by_cases hkf : k = fi
    · have hP := h3 (by omega)
      rw [← hkf] at hP
      rw [hP] at c1
      rw [if_pos (by omega), ← hkf]
      refine Wp.seq (Wp.text ?_)
      refine kp 9 (.bool true) ?_ (hop := fun _ => by_fact d1)
      refine WpOps.nil (thenK_at (Wp.seq (on' (Wp.skip (thenK_at (Wp.seq (Wp.block (Wp.seq (Wp.text ?_)))))))))
      refine kp 10 (.int IntKind.i64 (↑k : Int)) ?_
      refine kp 5 (.int IntKind.i64 (↑k : Int)) ?_
      refine WpOps.nil (thenK_at (Wp.seq (Wp.text ?_)))
      refine kp 11 (.func (Fn.func 61) #[] #[Value.pointer (some ⟨2, 0, none⟩)]) ?_
      refine kp 12 (.slice (some ⟨3, 0, none⟩) (List.length ls) (List.length ls)) ?_
      refine kp 13 (.int IntKind.i64 (↑k : Int)) ?_
      refine kp 14 (.pointer (some (Addr.mk 3 (0 + Int.toNat (↑k : Int) * 3) none))) ?_ (hop := fun _ => o_indexAddr (a := (↑k : Int)) (bl := 3) (off := 0) (size := 3) 48 (List.length ls) g1)
      refine kp 15 (.agg #[Value.int .i64 (Prod.fst (List.getD ls k (0, 0, 0))), Value.int .i64 (Prod.fst (Prod.snd (List.getD ls k (0, 0, 0)))), Value.int .i64 (Prod.snd (Prod.snd (List.getD ls k (0, 0, 0))))]) ?_ (hop := fun _ => o_loadA (3) (0 + Int.toNat (↑k : Int) * 3) v1)
      refine cl 16 61 [Value.agg #[Value.int .i64 (Prod.fst (List.getD ls k (0, 0, 0))), Value.int .i64 (Prod.fst (Prod.snd (List.getD ls k (0, 0, 0)))), Value.int .i64 (Prod.snd (Prod.snd (List.getD ls k (0, 0, 0))))], Value.pointer (some ⟨2, 0, none⟩)] ?_
      refine WpCall.lent [2] (c1) (by decide) ⟨⟨[Value.int IntKind.i64 p, Value.int IntKind.i64 q, Value.int IntKind.i64 r], (by kernel_rfl), (by kernel_rfl), (by kernel_rfl)⟩, trivial⟩ (by kernel_rfl) (Value.bool true) ([Blk.mk 48 true [Value.int IntKind.i64 p, Value.int IntKind.i64 q, Value.int IntKind.i64 r]]) (.cons (by kernel_rfl) .nil) (by kernel_rfl) (Heap.set (heapOf [Blk.mk 24 true [Value.int IntKind.i64 N, lks x ls], Blk.mk 24 true [Value.int IntKind.i64 0, Value.slice none 0 0], Blk.mk 48 true [Value.int IntKind.i64 p, Value.int IntKind.i64 q, Value.int IntKind.i64 r], Blk.mk 48 true (lcs ls), Blk.mk 24 true [Value.int IntKind.i64 N, Value.slice (some (Addr.mk 3 0 none)) (List.length ls) (List.length ls)]]) 2 (some (Blk.mk 48 true [Value.int IntKind.i64 p, Value.int IntKind.i64 q, Value.int IntKind.i64 r]))) (by kernel_rfl) ?_
      refine WpOps.nil (thenK_at (on' (Wp.seq (Wp.text ?_))))
      refine kp 17 (.int IntKind.i64 (↑k : Int)) ?_
      refine kp 4 (.int IntKind.i64 (↑k : Int)) ?_
      refine WpOps.nil (thenK_at (Wp.ret (blockK_ret (thenK_ret (thenK_ret (blockK_ret (thenK_ret ?_)))))))
      refine endK_retn [Value.int IntKind.i64 (↑k : Int)] (Value.int IntKind.i64 (↑k : Int)) (by kernel_rfl) (by kernel_rfl) ?_
      exact ⟨[0, 1, 2, 3, 4], by decide, by kernel_rfl, ⟨⟨_, rfl, toldC_flat (by kernel_rfl)⟩, ⟨_, rfl, toldC_flat (by kernel_rfl)⟩, ⟨_, rfl, toldC_flat (by kernel_rfl)⟩, ⟨_, rfl, toldC_flat (lcs_flat _)⟩, ⟨[.int .i64 N, .slice (some ⟨3, 0, none⟩) ls.length ls.length], rfl, .cons (.inl ⟨rfl, rfl⟩) (.cons (.inl ⟨rfl, rfl⟩) .nil)⟩, trivial⟩, .w (.un rfl rfl)⟩
    · rw [h2 k (by omega)] at c1
      refine Wp.seq (Wp.text ?_)
      refine kp 9 (.bool true) ?_ (hop := fun _ => by_fact d1)
      refine WpOps.nil (thenK_at (Wp.seq (on' (Wp.skip (thenK_at (Wp.seq (Wp.block (Wp.seq (Wp.text ?_)))))))))
      refine kp 10 (.int IntKind.i64 (↑k : Int)) ?_
      refine kp 5 (.int IntKind.i64 (↑k : Int)) ?_
      refine WpOps.nil (thenK_at (Wp.seq (Wp.text ?_)))
      refine kp 11 (.func (Fn.func 61) #[] #[Value.pointer (some ⟨2, 0, none⟩)]) ?_
      refine kp 12 (.slice (some ⟨3, 0, none⟩) (List.length ls) (List.length ls)) ?_
      refine kp 13 (.int IntKind.i64 (↑k : Int)) ?_
      refine kp 14 (.pointer (some (Addr.mk 3 (0 + Int.toNat (↑k : Int) * 3) none))) ?_ (hop := fun _ => o_indexAddr (a := (↑k : Int)) (bl := 3) (off := 0) (size := 3) 48 (List.length ls) g1)
      refine kp 15 (.agg #[Value.int .i64 (Prod.fst (List.getD ls k (0, 0, 0))), Value.int .i64 (Prod.fst (Prod.snd (List.getD ls k (0, 0, 0)))), Value.int .i64 (Prod.snd (Prod.snd (List.getD ls k (0, 0, 0))))]) ?_ (hop := fun _ => o_loadA (3) (0 + Int.toNat (↑k : Int) * 3) v1)
      refine cl 16 61 [Value.agg #[Value.int .i64 (Prod.fst (List.getD ls k (0, 0, 0))), Value.int .i64 (Prod.fst (Prod.snd (List.getD ls k (0, 0, 0)))), Value.int .i64 (Prod.snd (Prod.snd (List.getD ls k (0, 0, 0))))], Value.pointer (some ⟨2, 0, none⟩)] ?_
      refine WpCall.lent [2] (c1) (by decide) ⟨⟨[Value.int IntKind.i64 p, Value.int IntKind.i64 q, Value.int IntKind.i64 r], (by kernel_rfl), (by kernel_rfl), (by kernel_rfl)⟩, trivial⟩ (by kernel_rfl) (Value.bool false) ([Blk.mk 48 true [Value.int IntKind.i64 p, Value.int IntKind.i64 q, Value.int IntKind.i64 r]]) (.cons (by kernel_rfl) .nil) (by kernel_rfl) (Heap.set (heapOf [Blk.mk 24 true [Value.int IntKind.i64 N, lks x ls], Blk.mk 24 true [Value.int IntKind.i64 0, Value.slice none 0 0], Blk.mk 48 true [Value.int IntKind.i64 p, Value.int IntKind.i64 q, Value.int IntKind.i64 r], Blk.mk 48 true (lcs ls), Blk.mk 24 true [Value.int IntKind.i64 N, Value.slice (some (Addr.mk 3 0 none)) (List.length ls) (List.length ls)]]) 2 (some (Blk.mk 48 true [Value.int IntKind.i64 p, Value.int IntKind.i64 q, Value.int IntKind.i64 r]))) (by kernel_rfl) ?_
      refine WpOps.nil (thenK_at (off' (Wp.skip (blockK_norm (thenK_at (Wp.text ?_))))))
      refine kp 18 (.int IntKind.i64 (IntKind.wrap .i64 ((↑k : Int) + 1))) ?_
      refine kp 8 (.int IntKind.i64 (IntKind.wrap .i64 ((↑k : Int) + 1))) ?_
      refine WpOps.nil (thenK_at ?_)
      exact ⟨k + 1, by omega, by omega, View.of [0, 1, 2, 3, 4] [⟨24, true, [.int .i64 N, lks x ls]⟩, ⟨24, true, [.int .i64 0, .slice none 0 0]⟩, ⟨48, true, [.int .i64 p, .int .i64 q, .int .i64 r]⟩, ⟨48, true, lcs ls⟩, ⟨24, true, [.int .i64 N, .slice (some ⟨3, 0, none⟩) ls.length ls.length]⟩] _ (by decide) rfl ⟨⟨_, rfl, CellsOk.eq rfl (by kernel_rfl)⟩, ⟨_, rfl, CellsOk.eq rfl (by kernel_rfl)⟩, ⟨_, rfl, CellsOk.eq rfl (by kernel_rfl)⟩, ⟨_, rfl, CellsOk.eq rfl (lcs_flat _)⟩, ⟨[.int .i64 N, .slice (some ⟨3, 0, none⟩) ls.length ls.length], by kernel_rfl, by kernel_rfl, by kernel_rfl⟩, trivial⟩ ⟨⟨by kernel_rfl, rfl⟩, ⟨by kernel_rfl, rfl⟩, ⟨by kernel_rfl, rfl⟩, ⟨congrArg (Value.int .i64) (wr _ (by omega) (by omega)), rfl⟩, trivial⟩⟩
  · obtain rfl : fi = k := by omega
    have d1 : decide ((fi : Int) < ls.length) = false := decide_eq_false (by omega)
    rw [if_neg (by omega)]
    refine Wp.seq (Wp.text ?_)
    refine kp 9 (.bool false) ?_ (hop := fun _ => by_fact d1)
    refine WpOps.nil (thenK_at (Wp.seq (off' (Wp.exit (thenK_exit (thenK_exit (blockK_hit (thenK_at (Wp.seq (Wp.text ?_))))))))))
    refine kp 4 (.int IntKind.i64 (-1)) ?_
    refine WpOps.nil (thenK_at (Wp.ret ?_))
    refine endK_retn [Value.int IntKind.i64 (-1)] (Value.int IntKind.i64 (-1)) (by kernel_rfl) (by kernel_rfl) ?_
    exact ⟨[0, 1, 2, 3, 4], by decide, by kernel_rfl, ⟨⟨_, rfl, toldC_flat (by kernel_rfl)⟩, ⟨_, rfl, toldC_flat (by kernel_rfl)⟩, ⟨_, rfl, toldC_flat (by kernel_rfl)⟩, ⟨_, rfl, toldC_flat (lcs_flat _)⟩, ⟨[.int .i64 N, .slice (some ⟨3, 0, none⟩) ls.length ls.length], rfl, .cons (.inl ⟨rfl, rfl⟩) (.cons (.inl ⟨rfl, rfl⟩) .nil)⟩, trivial⟩, .w (.un rfl rfl)⟩
open Go.Fw Go.RowKit

/-- The links that are not meant. -/
def cutL (P : Lk → Bool) (ls : List Lk) : List Lk := ls.filter fun l => !P l
theorem take_snoc (ls : List Lk) (j : Nat) (h : j < ls.length) : ls.take (j + 1) = ls.take j ++ [ls.getD j (0, 0, 0)] := by
  rw [List.take_add_one, List.getElem?_eq_getElem h]
  simp [List.getD_eq_getElem?_getD, List.getElem?_eq_getElem h]
theorem cutL_hit {P : Lk → Bool} {ls : List Lk} {j : Nat} (h : j < ls.length) (hp : P (ls.getD j (0, 0, 0)) = true) : cutL P (ls.take (j + 1)) = cutL P (ls.take j) := by
  rw [take_snoc ls j h]
  unfold cutL
  rw [List.filter_append, List.filter_cons_of_neg (by simp only [hp]; decide)]
  simp
theorem cutL_miss {P : Lk → Bool} {ls : List Lk} {j : Nat} (h : j < ls.length) (hp : P (ls.getD j (0, 0, 0)) = false) : cutL P (ls.take (j + 1)) = cutL P (ls.take j) ++ [ls.getD j (0, 0, 0)] := by
  rw [take_snoc ls j h]
  unfold cutL
  rw [List.filter_append, List.filter_cons_of_pos (by simp only [hp]; decide)]
  simp
theorem cutL_all {P : Lk → Bool} {ls : List Lk} (h : ∀ j, j < ls.length → P (ls.getD j (0, 0, 0)) = false) : cutL P ls = ls := by
  unfold cutL
  rw [List.filter_eq_self]
  intro l hl
  obtain ⟨k, hk, rfl⟩ := List.getElem_of_mem hl
  have := h k hk
  rw [List.getD_eq_getElem?_getD, List.getElem?_eq_getElem hk] at this
  have h2 : P ls[k] = false := this
  simp only [h2, Bool.not_false]
theorem cutL_take_len (P : Lk → Bool) (ls : List Lk) (j : Nat) : (cutL P (ls.take j)).length ≤ j := by
  unfold cutL
  have h1 := List.length_filter_le (fun l => !P l) (ls.take j)
  have h2 : (ls.take j).length ≤ j := by rw [List.length_take]; omega
  omega
theorem cutL_first {P : Lk → Bool} {ls : List Lk} : ∀ fi, fi ≤ ls.length → (∀ j, j < fi → P (ls.getD j (0, 0, 0)) = false) → cutL P (ls.take fi) = ls.take fi
  | 0, _, _ => rfl
  | k + 1, h, hp => by
    rw [cutL_miss (by omega) (hp k (by omega)), cutL_first k (by omega) (fun j hj => hp j (by omega)), ← take_snoc ls k (by omega)]
theorem lcs_set : ∀ (l : List Lk) (k : Nat) (a b c : Int), (((lcs l).set (k * 3) (.int .i64 a)).set (k * 3 + 1) (.int .i64 b)).set (k * 3 + 2) (.int .i64 c) = lcs (l.set k (a, b, c))
  | [], _, _, _, _ => rfl
  | r :: l, 0, a, b, c => rfl
  | r :: l, k + 1, a, b, c => by
    have ih := lcs_set l k a b c
    unfold lcs at ih ⊢
    rw [List.set_cons_succ, List.flatMap_cons, List.flatMap_cons, ← ih]
    have e : (k + 1) * 3 = k * 3 + 3 := by omega
    rw [e]
    rfl
theorem lcs_append (l m : List Lk) : lcs (l ++ m) = lcs l ++ lcs m := by
  unfold lcs
  rw [List.flatMap_append]
theorem lcs_take (l : List Lk) (m : Nat) : (lcs l).take (m * 3) = lcs (l.take m) := by
  by_cases h : m ≤ l.length
  · have e : lcs l = lcs (l.take m) ++ lcs (l.drop m) := by rw [← lcs_append, List.take_append_drop]
    have hl : (lcs (l.take m)).length = m * 3 := by rw [lcs_len, List.length_take]; omega
    rw [e, ← hl, List.take_left]
  · rw [List.take_of_length_le (by rw [lcs_len]; omega), List.take_of_length_le (by omega)]
theorem setAll_eq : ∀ (xs l : List Value) (off : Nat), off + xs.length ≤ l.length → setAll l off xs = l.take off ++ xs ++ l.drop (off + xs.length)
  | [], l, off, _ => by simp [setAll]
  | x :: xs, l, off, h => by
    rw [List.length_cons] at h
    rw [setAll, setAll_eq xs (l.set off x) (off + 1) (by rw [List.length_set]; omega)]
    have h1 : (l.set off x).take (off + 1) = l.take off ++ [x] := by
      rw [List.take_add_one, List.take_set_of_le (Nat.le_refl _), List.getElem?_set_self (by omega)]
      rfl
    have h2 : (l.set off x).drop (off + 1 + xs.length) = l.drop (off + (x :: xs).length) := by
      rw [List.drop_set_of_lt (by omega), List.length_cons]
      congr 1
      omega
    rw [h1, h2]
    simp
theorem zeros_lcs (n : Nat) : zeros [.int .i64 0, .int .i64 0, .int .i64 0] n = lcs (List.replicate n (0, 0, 0)) := by
  induction n with
  | zero => rfl
  | succ n ih =>
    rw [zeros, ih, List.replicate_succ]
    rfl
/-- What is cleared. -/
theorem clear_lcs {S : List Lk} {n m : Nat} (hS : S.length = n) (hm : m ≤ n) : setAll (lcs S) (0 + m * 3) (zeros [.int .i64 0, .int .i64 0, .int .i64 0] (n - m)) = lcs (S.take m ++ List.replicate (n - m) (0, 0, 0)) := by
  have hz : (zeros [.int .i64 0, .int .i64 0, .int .i64 0] (n - m)).length = (n - m) * 3 := zeros_len _ _
  have hl : (lcs S).length = n * 3 := by rw [lcs_len, hS]
  rw [setAll_eq _ _ _ (by rw [hz, hl]; omega), Nat.zero_add, hz, List.drop_of_length_le (by rw [hl]; omega), List.append_nil, zeros_lcs, lcs_append, lcs_take]
theorem f66 : E.funcs 66 = some Try.f66 := by kernel_rfl
theorem del66_no (N : Int) (x : Nat) (ls : List Lk) (a b : Int) (hn : ls.length ≤ 17592186044416) (hn0 : 0 < ls.length) (h2 : ∀ j, j < ls.length → hit a b (ls.getD j (0, 0, 0)) = false) :
    SCall E 66 [.slice (some ⟨4, 0, none⟩) ls.length ls.length, .func (.func 67) #[] #[.pointer (some ⟨1, 0, none⟩), .pointer (some ⟨2, 0, none⟩)]] (heapOf [⟨24, true, [.int .i64 N, lks x ls]⟩, ⟨3, true, [.int .i64 a]⟩, ⟨3, true, [.int .i64 b]⟩, ⟨24, true, [.int .i64 0, .slice none 0 0]⟩, ⟨48, true, lcs ls⟩]) (.slice (some ⟨4, 0, none⟩) ls.length ls.length)
      (heapOf [⟨24, true, [.int .i64 N, lks x ls]⟩, ⟨3, true, [.int .i64 a]⟩, ⟨3, true, [.int .i64 b]⟩, ⟨24, true, [.int .i64 0, .slice none 0 0]⟩, ⟨48, true, lcs ls⟩]) := by
  refine SCall.enterL f66 rfl (of_decide_eq_true (by kernel_rfl)) (by kernel_rfl) (by kernel_rfl) (Nat.le_refl _) ?_
  have c := idx60c N x ls a b ls.length hn hn0 (Nat.le_refl _) h2 (fun h => absurd h (Nat.lt_irrefl _))
  rw [if_neg (Nat.lt_irrefl _)] at c
  refine Wp.seq (Wp.text ?_)
  refine kp 4 (.slice none 0 0) ?_
  refine WpOps.nil (thenK_at (Wp.seq (Wp.text ?_)))
  refine kp 8 (.slice (some ⟨4, 0, none⟩) (List.length ls) (List.length ls)) ?_
  refine kp 9 (.func (Fn.func 67) #[] #[Value.pointer (some ⟨1, 0, none⟩), Value.pointer (some ⟨2, 0, none⟩)]) ?_
  refine cl 10 60 [Value.slice (some ⟨4, 0, none⟩) (List.length ls) (List.length ls), Value.func (Fn.func 67) #[] #[Value.pointer (some ⟨1, 0, none⟩), Value.pointer (some ⟨2, 0, none⟩)]] ?_
  refine WpCall.enterL c rfl ?_
  refine kp 5 (.int IntKind.i64 (-1)) ?_
  refine WpOps.nil (thenK_at (Wp.seq (Wp.seq (Wp.text ?_))))
  refine kp 11 (.int IntKind.i64 (-1)) ?_
  refine kp 12 (.bool true) ?_
  refine WpOps.nil (thenK_at (on' (Wp.seq (Wp.text ?_))))
  refine kp 13 (.slice (some ⟨4, 0, none⟩) (List.length ls) (List.length ls)) ?_
  refine kp 4 (.slice (some ⟨4, 0, none⟩) (List.length ls) (List.length ls)) ?_
  refine WpOps.nil (thenK_at (Wp.ret (thenK_ret ?_)))
  refine endK_retn [Value.slice (some (Addr.mk 4 0 none)) (List.length ls) (List.length ls)] (Value.slice (some (Addr.mk 4 0 none)) (List.length ls) (List.length ls)) (by kernel_rfl) (by kernel_rfl) ?_
  exact ⟨[0, 1, 2, 3, 4], by decide, by kernel_rfl, ⟨⟨_, by kernel_rfl, toldC_flat (by kernel_rfl)⟩, ⟨_, by kernel_rfl, toldC_flat (by kernel_rfl)⟩, ⟨_, by kernel_rfl, toldC_flat (by kernel_rfl)⟩, ⟨_, by kernel_rfl, toldC_flat (by kernel_rfl)⟩, ⟨_, by kernel_rfl, toldC_flat (lcs_flat _)⟩, trivial⟩, .w (.un rfl rfl)⟩
set_option maxHeartbeats 4000000 in
theorem del66 (N : Int) (x : Nat) (ls : List Lk) (a b : Int) (fi : Nat) (hn : ls.length ≤ 17592186044416) (hfi : fi < ls.length) (h2 : ∀ j, j < fi → hit a b (ls.getD j (0, 0, 0)) = false) (h3 : hit a b (ls.getD fi (0, 0, 0)) = true) :
    SCall E 66 [.slice (some ⟨4, 0, none⟩) ls.length ls.length, .func (.func 67) #[] #[.pointer (some ⟨1, 0, none⟩), .pointer (some ⟨2, 0, none⟩)]] (heapOf [⟨24, true, [.int .i64 N, lks x ls]⟩, ⟨3, true, [.int .i64 a]⟩, ⟨3, true, [.int .i64 b]⟩, ⟨24, true, [.int .i64 0, .slice none 0 0]⟩, ⟨48, true, lcs ls⟩]) (.slice (some ⟨4, 0, none⟩) (cutL (hit a b) ls).length ls.length)
      (heapOf [⟨24, true, [.int .i64 N, lks x ls]⟩, ⟨3, true, [.int .i64 a]⟩, ⟨3, true, [.int .i64 b]⟩, ⟨24, true, [.int .i64 0, .slice none 0 0]⟩, ⟨48, true, lcs (cutL (hit a b) ls ++ List.replicate (ls.length - (cutL (hit a b) ls).length) (0, 0, 0))⟩]) := by
  refine SCall.enterL f66 rfl (of_decide_eq_true (by kernel_rfl)) (by kernel_rfl) (by kernel_rfl) (Nat.le_refl _) ?_
  have c := idx60c N x ls a b fi hn (by omega) (by omega) h2 (fun _ => h3)
  rw [if_pos hfi] at c
  have e0 : ((fi : Int) == -1) = false := beq_eq_false_iff_ne.2 (by omega)
  have hf0 := cutL_first (P := hit a b) fi (by omega) h2
  have hf1 : cutL (hit a b) (ls.take (fi + 1)) = ls.take fi := by rw [cutL_hit hfi h3, hf0]
  have hlt1 : ∀ j, fi + 1 ≤ j → j ≤ ls.length → (cutL (hit a b) (ls.take j)).length < j := fun j => by
    induction j with
    | zero => omega
    | succ j ih =>
      intro h1 h4
      by_cases e : j = fi
      · subst e
        rw [hf1, List.length_take]
        omega
      · have := ih (by omega) (by omega)
        cases hp : hit a b (ls.getD j (0, 0, 0)) with
        | true => rw [cutL_hit (by omega) hp]; omega
        | false => rw [cutL_miss (by omega) hp, List.length_append, List.length_singleton]; omega
  refine Wp.seq (Wp.text ?_)
  refine kp 4 (.slice none 0 0) ?_
  refine WpOps.nil (thenK_at (Wp.seq (Wp.text ?_)))
  refine kp 8 (.slice (some ⟨4, 0, none⟩) (List.length ls) (List.length ls)) ?_
  refine kp 9 (.func (Fn.func 67) #[] #[Value.pointer (some ⟨1, 0, none⟩), Value.pointer (some ⟨2, 0, none⟩)]) ?_
  refine cl 10 60 [Value.slice (some ⟨4, 0, none⟩) (List.length ls) (List.length ls), Value.func (Fn.func 67) #[] #[Value.pointer (some ⟨1, 0, none⟩), Value.pointer (some ⟨2, 0, none⟩)]] ?_
  refine WpCall.enterL c rfl ?_
  refine kp 5 (.int IntKind.i64 (↑fi : Int)) ?_
  refine WpOps.nil (thenK_at (Wp.seq (Wp.seq (Wp.text ?_))))
  refine kp 11 (.int IntKind.i64 (↑fi : Int)) ?_
  refine kp 12 (.bool ((↑fi : Int) == -1)) ?_
  refine WpOps.nil (thenK_at (off' (Wp.skip (thenK_at (Wp.seq (Wp.seq (Wp.text ?_)))))))
  refine kp 14 (.int IntKind.i64 (↑fi : Int)) ?_
  refine kp 15 (.int IntKind.i64 (IntKind.wrap .i64 ((↑fi : Int) + 1))) ?_
  refine kp 6 (.int IntKind.i64 (IntKind.wrap .i64 ((↑fi : Int) + 1))) ?_
  refine WpOps.nil (thenK_at (Wp.block ?_))
  refine Wp.loop (G := Nat × List Lk) (fun g => layj [(0, .slice (some ⟨4, 0, none⟩) ls.length ls.length), (1, .func (.func 67) #[] #[.pointer (some ⟨1, 0, none⟩), .pointer (some ⟨2, 0, none⟩)]), (5, .int .i64 (cutL (hit a b) (ls.take g.1)).length), (6, .int .i64 g.1)])
    (fun g => heapOf [⟨24, true, [.int .i64 N, lks x ls]⟩, ⟨3, true, [.int .i64 a]⟩, ⟨3, true, [.int .i64 b]⟩, ⟨24, true, [.int .i64 0, .slice none 0 0]⟩, ⟨48, true, lcs g.2⟩]) (fun g => ls.length - g.1) (fun g => fi + 1 ≤ g.1 ∧ g.1 ≤ ls.length ∧ g.2.length = ls.length ∧ g.2.take (cutL (hit a b) (ls.take g.1)).length = cutL (hit a b) (ls.take g.1) ∧ g.2.drop g.1 = ls.drop g.1) (fi + 1, ls)
    (View.of [0, 1, 2, 3, 4] [⟨24, true, [.int .i64 N, lks x ls]⟩, ⟨3, true, [.int .i64 a]⟩, ⟨3, true, [.int .i64 b]⟩, ⟨24, true, [.int .i64 0, .slice none 0 0]⟩, ⟨48, true, lcs ls⟩] _ (by decide) rfl ⟨⟨_, by kernel_rfl, CellsOk.eq rfl (by kernel_rfl)⟩, ⟨_, by kernel_rfl, CellsOk.eq rfl (by kernel_rfl)⟩, ⟨_, by kernel_rfl, CellsOk.eq rfl (by kernel_rfl)⟩, ⟨_, by kernel_rfl, CellsOk.eq rfl (by kernel_rfl)⟩, ⟨_, by kernel_rfl, CellsOk.eq rfl (lcs_flat _)⟩, trivial⟩
      ⟨⟨by kernel_rfl, rfl⟩, ⟨by kernel_rfl, rfl⟩, ⟨congrArg (fun z : Nat => Value.int .i64 z) (by rw [hf1, List.length_take]; omega), rfl⟩, ⟨congrArg (Value.int .i64) (wr _ (by omega) (by omega)), rfl⟩, trivial⟩) ⟨Nat.le_refl _, hfi, rfl, by rw [hf1, List.length_take, Nat.min_eq_left (by omega)], rfl⟩ ?_
  rintro ⟨j, S⟩ ⟨hj1, hj2, hS, hS1, hS2⟩
  dsimp only at hj1 hj2 hS hS1 hS2 ⊢
  have hij := hlt1 j hj1 hj2
  have hget : S.getD j (0, 0, 0) = ls.getD j (0, 0, 0) := by
    have e1 : S[j]? = (S.drop j)[0]? := by rw [List.getElem?_drop, Nat.add_zero]
    have e2 : ls[j]? = (ls.drop j)[0]? := by rw [List.getElem?_drop, Nat.add_zero]
    rw [List.getD_eq_getElem?_getD, List.getD_eq_getElem?_getD, e1, e2, hS2]
  by_cases hlt : j < ls.length
  · have d1 : decide ((j : Int) < ls.length) = true := decide_eq_true (by omega)
    have g1 : 0 ≤ (j : Int) ∧ (j : Int) < ls.length := by omega
    have v1 : cellsAt (lcs S) (0 + (j : Int).toNat * 3) 3 = some [.int .i64 (ls.getD j (0, 0, 0)).1, .int .i64 (ls.getD j (0, 0, 0)).2.1, .int .i64 (ls.getD j (0, 0, 0)).2.2] := by
      rw [Nat.zero_add, ← hget]
      exact lcs_cells S j (0, 0, 0) (by omega)
    have c1 := hit67 (ls.getD j (0, 0, 0)) a b
    have hdr : S.drop (j + 1) = ls.drop (j + 1) := by rw [← List.drop_drop, ← List.drop_drop, hS2]
    cases hp : hit a b (ls.getD j (0, 0, 0)) with
    | true =>
      have hc := cutL_hit hlt hp
      rw [hp] at c1
      refine Wp.seq (Wp.seq (Wp.text ?_))
      refine kp 16 (.int IntKind.i64 (↑j : Int)) ?_
      refine kp 17 (.slice (some ⟨4, 0, none⟩) (List.length ls) (List.length ls)) ?_
      refine kp 18 (.int IntKind.i64 (↑(List.length ls) : Int)) ?_
      refine kp 19 (.bool true) ?_ (hop := fun _ => by_fact d1)
      refine WpOps.nil (thenK_at (on' (Wp.skip (thenK_at (Wp.seq (Wp.block (Wp.seq (Wp.text ?_))))))))
      refine kp 22 (.slice (some ⟨4, 0, none⟩) (List.length ls) (List.length ls)) ?_
      refine kp 23 (.int IntKind.i64 (↑j : Int)) ?_
      refine kp 24 (.pointer (some (Addr.mk 4 (0 + Int.toNat (↑j : Int) * 3) none))) ?_ (hop := fun _ => o_indexAddr (a := (↑j : Int)) (bl := 4) (off := 0) (size := 3) 48 (List.length ls) g1)
      refine kp 25 (.agg #[Value.int .i64 (Prod.fst (List.getD ls j (0, 0, 0))), Value.int .i64 (Prod.fst (Prod.snd (List.getD ls j (0, 0, 0)))), Value.int .i64 (Prod.snd (Prod.snd (List.getD ls j (0, 0, 0))))]) ?_ (hop := fun _ => o_loadA (4) (0 + Int.toNat (↑j : Int) * 3) v1)
      refine md 7 (.pointer (some ⟨5, 0, none⟩)) (Blk.mk 48 true [Value.int .i64 0, Value.int .i64 0, Value.int .i64 0]) ?_
      refine ld (.tuple #[]) (5) (Blk.mk 48 true [Value.int .i64 (Prod.fst (List.getD ls j (0, 0, 0))), Value.int .i64 (Prod.fst (Prod.snd (List.getD ls j (0, 0, 0)))), Value.int .i64 (Prod.snd (Prod.snd (List.getD ls j (0, 0, 0))))]) ?_
      refine WpOps.nil (thenK_at (Wp.seq (Wp.text ?_)))
      refine kp 26 (.func (Fn.func 67) #[] #[Value.pointer (some ⟨1, 0, none⟩), Value.pointer (some ⟨2, 0, none⟩)]) ?_
      refine kp 27 (.agg #[Value.int .i64 (Prod.fst (List.getD ls j (0, 0, 0))), Value.int .i64 (Prod.fst (Prod.snd (List.getD ls j (0, 0, 0)))), Value.int .i64 (Prod.snd (Prod.snd (List.getD ls j (0, 0, 0))))]) ?_
      refine cl 28 67 [Value.agg #[Value.int .i64 (Prod.fst (List.getD ls j (0, 0, 0))), Value.int .i64 (Prod.fst (Prod.snd (List.getD ls j (0, 0, 0)))), Value.int .i64 (Prod.snd (Prod.snd (List.getD ls j (0, 0, 0))))], Value.pointer (some ⟨1, 0, none⟩), Value.pointer (some ⟨2, 0, none⟩)] ?_
      refine WpCall.lent [1, 2] (c1) (by decide) ⟨⟨[Value.int IntKind.i64 a], (by kernel_rfl), (by kernel_rfl), (by kernel_rfl)⟩, ⟨⟨[Value.int IntKind.i64 b], (by kernel_rfl), (by kernel_rfl), (by kernel_rfl)⟩, trivial⟩⟩ (by kernel_rfl) (Value.bool true) ([Blk.mk 3 true [Value.int IntKind.i64 a], Blk.mk 3 true [Value.int IntKind.i64 b]]) (.cons (by kernel_rfl) (.cons (by kernel_rfl) .nil)) (by kernel_rfl) (Heap.set (Heap.set (Heap.set (Heap.alloc (heapOf [Blk.mk 24 true [Value.int IntKind.i64 N, lks x ls], Blk.mk 3 true [Value.int IntKind.i64 a], Blk.mk 3 true [Value.int IntKind.i64 b], Blk.mk 24 true [Value.int IntKind.i64 0, Value.slice none 0 0], Blk.mk 48 true (lcs S)]) (Blk.mk 48 true [Value.int IntKind.i64 0, Value.int IntKind.i64 0, Value.int IntKind.i64 0])) 5 (some (Blk.mk 48 true [Value.int IntKind.i64 (Prod.fst (List.getD ls j (0, 0, 0))), Value.int IntKind.i64 (Prod.fst (Prod.snd (List.getD ls j (0, 0, 0)))), Value.int IntKind.i64 (Prod.snd (Prod.snd (List.getD ls j (0, 0, 0))))]))) 1 (some (Blk.mk 3 true [Value.int IntKind.i64 a]))) 2 (some (Blk.mk 3 true [Value.int IntKind.i64 b]))) (by kernel_rfl) ?_
      refine kp 29 (.bool false) ?_
      refine WpOps.nil (thenK_at (off' (Wp.skip (blockK_norm (thenK_at (Wp.text ?_))))))
      refine kp 20 (.int IntKind.i64 (↑j : Int)) ?_
      refine kp 21 (.int IntKind.i64 (IntKind.wrap .i64 ((↑j : Int) + 1))) ?_
      refine kp 6 (.int IntKind.i64 (IntKind.wrap .i64 ((↑j : Int) + 1))) ?_
      refine WpOps.nil (thenK_at ?_)
      exact ⟨(j + 1, S), by dsimp only; omega, ⟨by dsimp only; omega, by dsimp only; omega, hS, by dsimp only; rw [hc]; exact hS1, hdr⟩, View.of [0, 1, 2, 3, 4] [⟨24, true, [.int .i64 N, lks x ls]⟩, ⟨3, true, [.int .i64 a]⟩, ⟨3, true, [.int .i64 b]⟩, ⟨24, true, [.int .i64 0, .slice none 0 0]⟩, ⟨48, true, lcs S⟩] _ (by decide) rfl ⟨⟨_, by kernel_rfl, CellsOk.eq rfl (by kernel_rfl)⟩, ⟨_, by kernel_rfl, CellsOk.eq rfl (by kernel_rfl)⟩, ⟨_, by kernel_rfl, CellsOk.eq rfl (by kernel_rfl)⟩, ⟨_, by kernel_rfl, CellsOk.eq rfl (by kernel_rfl)⟩, ⟨_, by kernel_rfl, CellsOk.eq rfl (lcs_flat _)⟩, trivial⟩ ⟨⟨by kernel_rfl, rfl⟩, ⟨by kernel_rfl, rfl⟩, ⟨congrArg (fun z : Nat => Value.int .i64 z) (by rw [hc]), rfl⟩, ⟨congrArg (Value.int .i64) (wr _ (by omega) (by omega)), rfl⟩, trivial⟩⟩
    | false =>
      have hc := cutL_miss hlt hp
      rw [hp] at c1
      generalize hm : (cutL (hit a b) (ls.take j)).length = m at *
      have g2 : 0 ≤ (m : Int) ∧ (m : Int) < ls.length := by omega
      have q1 : true = true ∧ 0 + (m : Int).toNat * 3 + [Value.int .i64 (ls.getD j (0, 0, 0)).1, .int .i64 (ls.getD j (0, 0, 0)).2.1, .int .i64 (ls.getD j (0, 0, 0)).2.2].length ≤ (lcs S).length := ⟨rfl, by rw [lcs_len, hS]; simp; omega⟩
      have e4 : setAll (lcs S) (0 + (m : Int).toNat * 3) [.int .i64 (ls.getD j (0, 0, 0)).1, .int .i64 (ls.getD j (0, 0, 0)).2.1, .int .i64 (ls.getD j (0, 0, 0)).2.2] = lcs (S.set m (ls.getD j (0, 0, 0))) := by
        rw [Int.toNat_natCast, Nat.zero_add]
        exact lcs_set _ _ _ _ _
      have hm2 : (cutL (hit a b) (ls.take (j + 1))).length = m + 1 := by rw [hc, List.length_append, hm]; rfl
      refine Wp.seq (Wp.seq (Wp.text ?_))
      refine kp 16 (.int IntKind.i64 (↑j : Int)) ?_
      refine kp 17 (.slice (some ⟨4, 0, none⟩) (List.length ls) (List.length ls)) ?_
      refine kp 18 (.int IntKind.i64 (↑(List.length ls) : Int)) ?_
      refine kp 19 (.bool true) ?_ (hop := fun _ => by_fact d1)
      refine WpOps.nil (thenK_at (on' (Wp.skip (thenK_at (Wp.seq (Wp.block (Wp.seq (Wp.text ?_))))))))
      refine kp 22 (.slice (some ⟨4, 0, none⟩) (List.length ls) (List.length ls)) ?_
      refine kp 23 (.int IntKind.i64 (↑j : Int)) ?_
      refine kp 24 (.pointer (some (Addr.mk 4 (0 + Int.toNat (↑j : Int) * 3) none))) ?_ (hop := fun _ => o_indexAddr (a := (↑j : Int)) (bl := 4) (off := 0) (size := 3) 48 (List.length ls) g1)
      refine kp 25 (.agg #[Value.int .i64 (Prod.fst (List.getD ls j (0, 0, 0))), Value.int .i64 (Prod.fst (Prod.snd (List.getD ls j (0, 0, 0)))), Value.int .i64 (Prod.snd (Prod.snd (List.getD ls j (0, 0, 0))))]) ?_ (hop := fun _ => o_loadA (4) (0 + Int.toNat (↑j : Int) * 3) v1)
      refine md 7 (.pointer (some ⟨5, 0, none⟩)) (Blk.mk 48 true [Value.int .i64 0, Value.int .i64 0, Value.int .i64 0]) ?_
      refine ld (.tuple #[]) (5) (Blk.mk 48 true [Value.int .i64 (Prod.fst (List.getD ls j (0, 0, 0))), Value.int .i64 (Prod.fst (Prod.snd (List.getD ls j (0, 0, 0)))), Value.int .i64 (Prod.snd (Prod.snd (List.getD ls j (0, 0, 0))))]) ?_
      refine WpOps.nil (thenK_at (Wp.seq (Wp.text ?_)))
      refine kp 26 (.func (Fn.func 67) #[] #[Value.pointer (some ⟨1, 0, none⟩), Value.pointer (some ⟨2, 0, none⟩)]) ?_
      refine kp 27 (.agg #[Value.int .i64 (Prod.fst (List.getD ls j (0, 0, 0))), Value.int .i64 (Prod.fst (Prod.snd (List.getD ls j (0, 0, 0)))), Value.int .i64 (Prod.snd (Prod.snd (List.getD ls j (0, 0, 0))))]) ?_
      refine cl 28 67 [Value.agg #[Value.int .i64 (Prod.fst (List.getD ls j (0, 0, 0))), Value.int .i64 (Prod.fst (Prod.snd (List.getD ls j (0, 0, 0)))), Value.int .i64 (Prod.snd (Prod.snd (List.getD ls j (0, 0, 0))))], Value.pointer (some ⟨1, 0, none⟩), Value.pointer (some ⟨2, 0, none⟩)] ?_
      refine WpCall.lent [1, 2] (c1) (by decide) ⟨⟨[Value.int IntKind.i64 a], (by kernel_rfl), (by kernel_rfl), (by kernel_rfl)⟩, ⟨⟨[Value.int IntKind.i64 b], (by kernel_rfl), (by kernel_rfl), (by kernel_rfl)⟩, trivial⟩⟩ (by kernel_rfl) (Value.bool false) ([Blk.mk 3 true [Value.int IntKind.i64 a], Blk.mk 3 true [Value.int IntKind.i64 b]]) (.cons (by kernel_rfl) (.cons (by kernel_rfl) .nil)) (by kernel_rfl) (Heap.set (Heap.set (Heap.set (Heap.alloc (heapOf [Blk.mk 24 true [Value.int IntKind.i64 N, lks x ls], Blk.mk 3 true [Value.int IntKind.i64 a], Blk.mk 3 true [Value.int IntKind.i64 b], Blk.mk 24 true [Value.int IntKind.i64 0, Value.slice none 0 0], Blk.mk 48 true (lcs S)]) (Blk.mk 48 true [Value.int IntKind.i64 0, Value.int IntKind.i64 0, Value.int IntKind.i64 0])) 5 (some (Blk.mk 48 true [Value.int IntKind.i64 (Prod.fst (List.getD ls j (0, 0, 0))), Value.int IntKind.i64 (Prod.fst (Prod.snd (List.getD ls j (0, 0, 0)))), Value.int IntKind.i64 (Prod.snd (Prod.snd (List.getD ls j (0, 0, 0))))]))) 1 (some (Blk.mk 3 true [Value.int IntKind.i64 a]))) 2 (some (Blk.mk 3 true [Value.int IntKind.i64 b]))) (by kernel_rfl) ?_
      refine kp 29 (.bool true) ?_
      refine WpOps.nil (thenK_at (on' (Wp.seq (Wp.text ?_))))
      refine kp 30 (.slice (some ⟨4, 0, none⟩) (List.length ls) (List.length ls)) ?_
      refine kp 31 (.int IntKind.i64 (↑m : Int)) ?_
      refine kp 32 (.agg #[Value.int .i64 (Prod.fst (List.getD ls j (0, 0, 0))), Value.int .i64 (Prod.fst (Prod.snd (List.getD ls j (0, 0, 0)))), Value.int .i64 (Prod.snd (Prod.snd (List.getD ls j (0, 0, 0))))]) ?_
      refine kp 33 (.pointer (some (Addr.mk 4 (0 + Int.toNat (↑m : Int) * 3) none))) ?_ (hop := fun _ => o_indexAddr (a := (↑m : Int)) (bl := 4) (off := 0) (size := 3) 48 (List.length ls) g2)
      refine ld (.tuple #[]) (4) (Blk.mk 48 true (List.set (List.set (List.set (lcs S) (0 + Int.toNat (↑m : Int) * 3) (Value.int .i64 (Prod.fst (List.getD ls j (0, 0, 0))))) (0 + Int.toNat (↑m : Int) * 3 + 1) (Value.int .i64 (Prod.fst (Prod.snd (List.getD ls j (0, 0, 0)))))) (0 + Int.toNat (↑m : Int) * 3 + 1 + 1) (Value.int .i64 (Prod.snd (Prod.snd (List.getD ls j (0, 0, 0))))))) ?_ (hop := fun _ => o_storeH (v := Value.agg #[Value.int IntKind.i64 (Prod.fst (List.getD ls j (0, 0, 0))), Value.int IntKind.i64 (Prod.fst (Prod.snd (List.getD ls j (0, 0, 0)))), Value.int IntKind.i64 (Prod.snd (Prod.snd (List.getD ls j (0, 0, 0))))]) (xs := [Value.int IntKind.i64 (Prod.fst (List.getD ls j (0, 0, 0))), Value.int IntKind.i64 (Prod.fst (Prod.snd (List.getD ls j (0, 0, 0)))), Value.int IntKind.i64 (Prod.snd (Prod.snd (List.getD ls j (0, 0, 0))))]) (cells := lcs S) (el := 48) (4) (0 + Int.toNat (↑m : Int) * 3) (by kernel_rfl) q1)
      refine WpOps.nil (thenK_at (Wp.text ?_))
      refine kp 34 (.int IntKind.i64 (↑m : Int)) ?_
      refine kp 35 (.int IntKind.i64 (IntKind.wrap .i64 ((↑m : Int) + 1))) ?_
      refine kp 5 (.int IntKind.i64 (IntKind.wrap .i64 ((↑m : Int) + 1))) ?_
      refine WpOps.nil (blockK_norm (thenK_at (Wp.text ?_)))
      refine kp 20 (.int IntKind.i64 (↑j : Int)) ?_
      refine kp 21 (.int IntKind.i64 (IntKind.wrap .i64 ((↑j : Int) + 1))) ?_
      refine kp 6 (.int IntKind.i64 (IntKind.wrap .i64 ((↑j : Int) + 1))) ?_
      refine WpOps.nil (thenK_at ?_)
      refine ⟨(j + 1, S.set m (ls.getD j (0, 0, 0))), by dsimp only; omega, ⟨by dsimp only; omega, by dsimp only; omega, by dsimp only; rw [List.length_set]; exact hS, ?_, ?_⟩, View.of [0, 1, 2, 3, 4] [⟨24, true, [.int .i64 N, lks x ls]⟩, ⟨3, true, [.int .i64 a]⟩, ⟨3, true, [.int .i64 b]⟩, ⟨24, true, [.int .i64 0, .slice none 0 0]⟩, ⟨48, true, lcs (S.set m (ls.getD j (0, 0, 0)))⟩] _ (by decide) rfl ⟨⟨_, by kernel_rfl, CellsOk.eq rfl (by kernel_rfl)⟩, ⟨_, by kernel_rfl, CellsOk.eq rfl (by kernel_rfl)⟩, ⟨_, by kernel_rfl, CellsOk.eq rfl (by kernel_rfl)⟩, ⟨_, by kernel_rfl, CellsOk.eq rfl (by kernel_rfl)⟩, ⟨_, by kernel_rfl, CellsOk.eq e4 (lcs_flat _)⟩, trivial⟩ ⟨⟨by kernel_rfl, rfl⟩, ⟨by kernel_rfl, rfl⟩, ⟨congrArg (Value.int .i64) ((wr _ (by omega) (by omega)).trans (by rw [hm2]; omega)), rfl⟩, ⟨congrArg (Value.int .i64) (wr _ (by omega) (by omega)), rfl⟩, trivial⟩⟩
      · dsimp only
        rw [hm2, hc, List.take_add_one, List.take_set_of_le (Nat.le_refl _), List.getElem?_set_self (by omega), hS1]
        rfl
      · dsimp only
        rw [List.drop_set_of_lt (by omega)]
        exact hdr
  · obtain rfl : j = ls.length := by omega
    have d1 : decide (((ls.length : Nat) : Int) < ls.length) = false := decide_eq_false (by omega)
    rw [List.take_length] at hS1 hij ⊢
    have hcl := clear_lcs hS (show (cutL (hit a b) ls).length ≤ ls.length by omega)
    rw [hS1] at hcl
    generalize hm : (cutL (hit a b) ls).length = m at *
    have g2 : 0 ≤ (m : Int) ∧ (m : Int) ≤ ls.length := by omega
    have hcl2 : setAll (lcs S) (0 + (m : Int).toNat * 3) (zeros [.int .i64 0, .int .i64 0, .int .i64 0] (ls.length - (m : Int).toNat)) = lcs (cutL (hit a b) ls ++ List.replicate (ls.length - m) (0, 0, 0)) := by
      rw [Int.toNat_natCast]
      exact hcl
    have hz : ls.length - (m : Int).toNat ≠ 0 := by omega
    have hl : true = true ∧ 0 + (m : Int).toNat * 3 + (zeros [.int .i64 0, .int .i64 0, .int .i64 0] (ls.length - (m : Int).toNat)).length ≤ (lcs S).length := ⟨rfl, by
      rw [zeros_len, lcs_len, hS]
      simp
      omega⟩
    refine Wp.seq (Wp.seq (Wp.text ?_))
    refine kp 16 (.int IntKind.i64 (↑(List.length ls) : Int)) ?_
    refine kp 17 (.slice (some ⟨4, 0, none⟩) (List.length ls) (List.length ls)) ?_
    refine kp 18 (.int IntKind.i64 (↑(List.length ls) : Int)) ?_
    refine kp 19 (.bool false) ?_ (hop := fun _ => by_fact d1)
    refine WpOps.nil (thenK_at (off' (Wp.exit (thenK_exit (thenK_exit (blockK_hit (thenK_at (Wp.seq (Wp.text ?_)))))))))
    refine kp 36 (.slice (some ⟨4, 0, none⟩) (List.length ls) (List.length ls)) ?_
    refine kp 37 (.int IntKind.i64 (↑m : Int)) ?_
    refine kp 38 (.slice (some (Addr.mk 4 (0 + Int.toNat (↑m : Int) * 3) none)) (List.length ls - Int.toNat (↑m : Int)) (List.length ls - Int.toNat (↑m : Int))) ?_ (hop := fun _ => o_cutS_lo (a := (↑m : Int)) (bl := 4) (off := 0) (e := 48) (size := 3) g2)
    refine ld (.tuple #[]) (4) (Blk.mk 48 true (setAll (lcs S) (0 + Int.toNat (↑m : Int) * 3) (zeros [Value.int .i64 0, Value.int .i64 0, Value.int .i64 0] (List.length ls - Int.toNat (↑m : Int))))) ?_ (hop := fun _ => o_clear hz hl)
    refine WpOps.nil (thenK_at (Wp.seq (Wp.text ?_)))
    refine kp 39 (.slice (some ⟨4, 0, none⟩) (List.length ls) (List.length ls)) ?_
    refine kp 40 (.int IntKind.i64 (↑m : Int)) ?_
    refine kp 41 (.slice (some ⟨4, 0, none⟩) (Int.toNat (↑m : Int) - 0) (List.length ls - 0)) ?_ (hop := fun _ => o_cutS_hi (n := List.length ls) (c := List.length ls) (a := (↑m : Int)) (bl := 4) (off := 0) (e := 48) (size := 3) g2)
    refine kp 4 (.slice (some ⟨4, 0, none⟩) (Int.toNat (↑m : Int) - 0) (List.length ls - 0)) ?_
    refine WpOps.nil (thenK_at (Wp.ret ?_))
    refine endK_retn [Value.slice (some (Addr.mk 4 0 none)) (Int.toNat (↑m : Int) - 0) (List.length ls - 0)] (Value.slice (some (Addr.mk 4 0 none)) (Int.toNat (↑m : Int) - 0) (List.length ls - 0)) (by kernel_rfl) (by kernel_rfl) ?_
    exact ⟨[0, 1, 2, 3, 4], by decide, by kernel_rfl, ⟨⟨_, by kernel_rfl, toldC_flat (by kernel_rfl)⟩, ⟨_, by kernel_rfl, toldC_flat (by kernel_rfl)⟩, ⟨_, by kernel_rfl, toldC_flat (by kernel_rfl)⟩, ⟨_, by kernel_rfl, toldC_flat (by kernel_rfl)⟩, ⟨setAll (lcs S) (0 + (m : Int).toNat * 3) (zeros [.int .i64 0, .int .i64 0, .int .i64 0] (ls.length - (m : Int).toNat)), by kernel_rfl, by rw [hcl2]; exact toldC_flat (lcs_flat _)⟩, trivial⟩, .w (.un rfl rfl)⟩
open Go.Fw Go.RowKit

theorem f59 : E.funcs 59 = some Try.f59 := by kernel_rfl
theorem clone59 (n : Nat) (cs : List Value) (hn : 1 ≤ n ∧ n * 24 ≤ 140737488351232) (_hl : cs.length = n * 3) (hf : cs.all flat = true) : Lent E 59 [FS 48 n 0 cs.toArray] [] (.slice (some ⟨0, 0, none⟩) n n) [⟨48, true, cs⟩] := by
  have hok : ([⟨48, true, cs⟩] : List Blk).all (fun x => x.cells.all (okC ([⟨48, true, cs⟩] : List Blk).length)) = true := by
    rw [List.all_cons, List.all_nil, Bool.and_true]
    exact okCs_flat hf
  refine Lent.of f59 rfl (of_decide_eq_true (by kernel_rfl)) rfl rfl (Nat.zero_le _) rfl hok rfl ?_
  have h1 : ¬ (0 + n ≤ 0) := by omega
  have h2 : 1 ≤ 24 ∧ (0 + n) * 24 ≤ 140737488355328 ∧ 3 = 3 ∧ 0 + n ≤ 9223372036854775807 := by omega
  have h3 : n ≠ 0 := by omega
  refine Wp.seq (Wp.text ?_)
  refine kp 2 (.slice none 0 0) ?_
  refine WpOps.nil (thenK_at (Wp.seq (Wp.seq (Wp.text ?_))))
  refine kp 3 (.iface 48 (Value.iface n (Value.iface 0 (Value.agg (List.toArray cs))))) ?_
  refine kp 4 (.bool false) ?_
  refine WpOps.nil (thenK_at (off' (Wp.skip (thenK_at (Wp.seq (Wp.text ?_))))))
  refine md 5 (.slice (some ⟨0, 0, none⟩) 0 0) (Blk.mk 48 true []) ?_
  refine kp 6 (.iface 48 (Value.iface n (Value.iface 0 (Value.agg (List.toArray cs))))) ?_
  refine ra 7 (.slice (some ⟨1, 0, none⟩) (0 + n) (0 + n)) (0) (Blk.mk 48 true ([] ++ Array.toList (List.toArray cs))) ?_ (hop := fun _ => o_append (e := 48) (0) (0) (0) _ (0) h1 h2)
  refine kp 2 (.slice (some ⟨1, 0, none⟩) (0 + n) (0 + n)) ?_
  refine WpOps.nil (thenK_at (Wp.ret ?_))
  refine endK_retn [Value.slice (some (Addr.mk 1 0 none)) (0 + n) (0 + n)] (Value.slice (some (Addr.mk 1 0 none)) (0 + n) (0 + n)) (by kernel_rfl) (by kernel_rfl) ?_
  rw [Nat.zero_add]
  exact ⟨[1], by decide, by kernel_rfl, ⟨⟨cs, by kernel_rfl, toldC_flat hf⟩, trivial⟩, .w (.un rfl rfl)⟩
theorem iceC_part {hp : Heap} {b n c : Nat} {cells : List Value} (m : Nat) (hb : hp.get b = some ⟨48, true, cells⟩) (hn : n * 3 ≤ cells.length) (hf : (cells.take (n * 3)).all flat = true) : iceC E hp (m + 1) (.slice (some ⟨b, 0, none⟩) n c) = some (FS 48 n 0 (cells.take (n * 3)).toArray) := by
  have he : (E.types 48).map TI.size = some 3 := by kernel_rfl
  obtain ⟨ti, h1, h2⟩ := Option.map_eq_some_iff.1 he
  have hc : cellsAt cells 0 (n * ti.size) = some (cells.take (n * 3)) := by
    rw [h2]
    simp only [cellsAt, Nat.zero_add, if_pos hn, List.drop_zero]
  unfold iceC
  simp only [hb, h1, hc, mapO_id fun v hv => flat_ice (E := E) (h := hp) (List.all_eq_true.1 hf v hv) m]
theorem net_ice {hp : Heap} {N : Int} {sl v w : Value} (h : iceC E hp 4 sl = some v) (hw : iceW E hp w = some w) : iceV E hp (.tuple #[.agg #[.int .i64 N, sl], w]) = some (.tuple #[.agg #[.int .i64 N, v], w]) := by
  have h2 : mapO (iceC E hp 4) [.int .i64 N, sl] = some [.int .i64 N, v] := by
    simp only [mapO, h]
    rfl
  have h3 : iceW E hp (.agg #[.int .i64 N, sl]) = some (.agg #[.int .i64 N, v]) := by
    show (mapO (iceC E hp 4) [.int .i64 N, sl]).map _ = _
    rw [h2]
    rfl
  have h4 : mapO (iceW E hp) [.agg #[.int .i64 N, sl], w] = some [.agg #[.int .i64 N, v], w] := by
    simp only [mapO, h3, hw]
  show (mapO (iceW E hp) [.agg #[.int .i64 N, sl], w]).map _ = _
  rw [h4]
  rfl
theorem E48 : ∃ ti, E.types 48 = some ti := by
  have : (E.types 48).map TI.size = some 3 := by kernel_rfl
  obtain ⟨ti, h, _⟩ := Option.map_eq_some_iff.1 this
  exact ⟨ti, h⟩
theorem links_ice {hp : Heap} {b c : Nat} {ls z : List Lk} (hb : hp.get b = some ⟨48, true, lcs (ls ++ z)⟩) : iceC E hp 4 (.slice (some ⟨b, 0, none⟩) ls.length c) = some (FS 48 ls.length 0 (lcs ls).toArray) := by
  have ht : (lcs (ls ++ z)).take (ls.length * 3) = lcs ls := by rw [lcs_take, List.take_left]
  have := iceC_part (n := ls.length) (c := c) 3 hb (by rw [lcs_len, List.length_append]; omega) (by rw [ht]; exact lcs_flat _)
  rw [ht] at this
  exact this
theorem f57 : E.funcs 57 = some Try.f57 := by kernel_rfl
theorem wo57_no (N : Int) (ls : List Lk) (a b : Int) (hn : ls.length * 24 ≤ 140737488351232) (hn0 : 0 < ls.length) (h2 : ∀ j, j < ls.length → hit a b (ls.getD j (0, 0, 0)) = false) : Fun E 57 [netV N 0 ls, .int .i64 a, .int .i64 b] (.tuple #[netV N 0 ls, .bool false]) := by
  refine Fun.of f57 rfl (of_decide_eq_true (by kernel_rfl)) rfl ?_
  have c1 := clone59 ls.length (lcs ls) (by omega) (lcs_len ls) (lcs_flat ls)
  have hfl := lcs_flat ls
  have c2 := del66_no N 0 ls a b (by omega) hn0 h2
  have d : decide ((ls.length : Int) < ls.length) = false := decide_eq_false (by omega)
  unfold netV lks
  unfold lks at c2
  refine Wp.seq (Wp.text ?_)
  refine md 3 (.pointer (some ⟨0, 0, none⟩)) (Blk.mk 24 true [Value.int .i64 N, Value.iface 48 (Value.iface (List.length ls) (Value.iface 0 (Value.agg (List.toArray (lcs ls)))))]) ?_
  refine md 4 (.pointer (some ⟨1, 0, none⟩)) (Blk.mk 3 true [Value.int .i64 a]) ?_
  refine md 5 (.pointer (some ⟨2, 0, none⟩)) (Blk.mk 3 true [Value.int .i64 b]) ?_
  refine md 6 (.pointer (some ⟨3, 0, none⟩)) (Blk.mk 24 true [Value.int .i64 0, Value.slice none 0 0]) ?_
  refine kp 7 (.bool false) ?_
  refine WpOps.nil (thenK_at (Wp.seq (Wp.text ?_)))
  refine kp 9 (.pointer (some ⟨0, 1, none⟩)) ?_
  refine kp 10 (.iface 48 (Value.iface (List.length ls) (Value.iface 0 (Value.agg (List.toArray (lcs ls)))))) ?_
  refine cl 11 59 [Value.iface 48 (Value.iface (List.length ls) (Value.iface 0 (Value.agg (List.toArray (lcs ls)))))] ?_
  refine WpCall.lent [] (c1) (by decide) trivial (by kernel_rfl) (Value.slice (some (Addr.mk (List.getD [4] 0 0) 0 none)) (List.length ls) (List.length ls)) ([Blk.mk 48 true (lcs ls)]) (.cons (unB_flat (by assumption)) .nil) (by kernel_rfl) (Heap.alloc (Heap.alloc (Heap.alloc (Heap.alloc (Heap.alloc Heap.none (Blk.mk 24 true [Value.int IntKind.i64 N, Value.iface 48 (Value.iface (List.length ls) (Value.iface 0 (Value.agg (List.toArray (lcs ls)))))])) (Blk.mk 3 true [Value.int IntKind.i64 a])) (Blk.mk 3 true [Value.int IntKind.i64 b])) (Blk.mk 24 true [Value.int IntKind.i64 0, Value.slice none 0 0])) (Blk.mk 48 true (lcs ls))) (by kernel_rfl) ?_
  refine kp 12 (.func (Fn.func 67) #[] #[Value.pointer (some ⟨1, 0, none⟩), Value.pointer (some ⟨2, 0, none⟩)]) ?_
  refine cl 13 66 [Value.slice (some (Addr.mk (List.getD [4] 0 0) 0 none)) (List.length ls) (List.length ls), Value.func (Fn.func 67) #[] #[Value.pointer (some ⟨1, 0, none⟩), Value.pointer (some ⟨2, 0, none⟩)]] ?_
  refine WpCall.enterL c2 (by simp only [none_heapOf, heapOf_alloc]; rfl) ?_
  refine kp 8 (.slice (some ⟨4, 0, none⟩) (List.length ls) (List.length ls)) ?_
  refine WpOps.nil (thenK_at (Wp.seq ?_))
  refine Wp.regionT (by kernel_rfl) (by kernel_rfl) ?_
  refine kp 14 (.pointer (some ⟨0, 0, none⟩)) ?_
  refine kp 15 (.int IntKind.i64 N) ?_
  refine kp 16 (.slice (some ⟨4, 0, none⟩) (List.length ls) (List.length ls)) ?_
  refine kp 17 (.agg #[Value.int .i64 N, Value.slice (some ⟨4, 0, none⟩) (List.length ls) (List.length ls)]) ?_
  refine kp 18 (.slice (some ⟨4, 0, none⟩) (List.length ls) (List.length ls)) ?_
  refine kp 19 (.int IntKind.i64 (↑(List.length ls) : Int)) ?_
  refine kp 20 (.pointer (some ⟨0, 1, none⟩)) ?_
  refine kp 21 (.iface 48 (Value.iface (List.length ls) (Value.iface 0 (Value.agg (List.toArray (lcs ls)))))) ?_
  refine kp 22 (.int IntKind.i64 (↑(List.length ls) : Int)) ?_
  refine kp 23 (.bool false) ?_ (hop := fun _ => by_fact d)
  refine ld (.tuple #[]) (3) (Blk.mk 24 true [Value.int .i64 N, Value.slice (some ⟨4, 0, none⟩) (List.length ls) (List.length ls)]) ?_
  refine kp 7 (.bool false) ?_
  refine WpOps.nil ?_
  refine ⟨by kernel_rfl, ?_⟩
  refine thenK_at (Wp.ret ?_)
  refine endK_retn [Value.agg #[Value.int IntKind.i64 N, Value.slice (some (Addr.mk 4 0 none)) (List.length ls) (List.length ls)], Value.bool false] (Value.tuple #[Value.agg #[Value.int IntKind.i64 N, Value.slice (some (Addr.mk 4 0 none)) (List.length ls) (List.length ls)], Value.bool false]) (by kernel_rfl) (by kernel_rfl) ?_
  refine net_ice (links_ice (ls := ls) (z := []) ?_) rfl
  rw [List.append_nil]
  rfl
theorem wo57 (N : Int) (ls : List Lk) (a b : Int) (fi : Nat) (hn : ls.length * 24 ≤ 140737488351232) (hfi : fi < ls.length) (h2 : ∀ j, j < fi → hit a b (ls.getD j (0, 0, 0)) = false) (h3 : hit a b (ls.getD fi (0, 0, 0)) = true) (hlt : (cutL (hit a b) ls).length < ls.length) : Fun E 57 [netV N 0 ls, .int .i64 a, .int .i64 b] (.tuple #[netV N 0 (cutL (hit a b) ls), .bool true]) := by
  refine Fun.of f57 rfl (of_decide_eq_true (by kernel_rfl)) rfl ?_
  have c1 := clone59 ls.length (lcs ls) (by omega) (lcs_len ls) (lcs_flat ls)
  have hfl := lcs_flat ls
  have c2 := del66 N 0 ls a b fi (by omega) hfi h2 h3
  have d : decide (((cutL (hit a b) ls).length : Int) < ls.length) = true := decide_eq_true (by omega)
  unfold netV lks
  unfold lks at c2
  refine Wp.seq (Wp.text ?_)
  refine md 3 (.pointer (some ⟨0, 0, none⟩)) (Blk.mk 24 true [Value.int .i64 N, Value.iface 48 (Value.iface (List.length ls) (Value.iface 0 (Value.agg (List.toArray (lcs ls)))))]) ?_
  refine md 4 (.pointer (some ⟨1, 0, none⟩)) (Blk.mk 3 true [Value.int .i64 a]) ?_
  refine md 5 (.pointer (some ⟨2, 0, none⟩)) (Blk.mk 3 true [Value.int .i64 b]) ?_
  refine md 6 (.pointer (some ⟨3, 0, none⟩)) (Blk.mk 24 true [Value.int .i64 0, Value.slice none 0 0]) ?_
  refine kp 7 (.bool false) ?_
  refine WpOps.nil (thenK_at (Wp.seq (Wp.text ?_)))
  refine kp 9 (.pointer (some ⟨0, 1, none⟩)) ?_
  refine kp 10 (.iface 48 (Value.iface (List.length ls) (Value.iface 0 (Value.agg (List.toArray (lcs ls)))))) ?_
  refine cl 11 59 [Value.iface 48 (Value.iface (List.length ls) (Value.iface 0 (Value.agg (List.toArray (lcs ls)))))] ?_
  refine WpCall.lent [] (c1) (by decide) trivial (by kernel_rfl) (Value.slice (some (Addr.mk (List.getD [4] 0 0) 0 none)) (List.length ls) (List.length ls)) ([Blk.mk 48 true (lcs ls)]) (.cons (unB_flat (by assumption)) .nil) (by kernel_rfl) (Heap.alloc (Heap.alloc (Heap.alloc (Heap.alloc (Heap.alloc Heap.none (Blk.mk 24 true [Value.int IntKind.i64 N, Value.iface 48 (Value.iface (List.length ls) (Value.iface 0 (Value.agg (List.toArray (lcs ls)))))])) (Blk.mk 3 true [Value.int IntKind.i64 a])) (Blk.mk 3 true [Value.int IntKind.i64 b])) (Blk.mk 24 true [Value.int IntKind.i64 0, Value.slice none 0 0])) (Blk.mk 48 true (lcs ls))) (by kernel_rfl) ?_
  refine kp 12 (.func (Fn.func 67) #[] #[Value.pointer (some ⟨1, 0, none⟩), Value.pointer (some ⟨2, 0, none⟩)]) ?_
  refine cl 13 66 [Value.slice (some (Addr.mk (List.getD [4] 0 0) 0 none)) (List.length ls) (List.length ls), Value.func (Fn.func 67) #[] #[Value.pointer (some ⟨1, 0, none⟩), Value.pointer (some ⟨2, 0, none⟩)]] ?_
  refine WpCall.enterL c2 (by simp only [none_heapOf, heapOf_alloc]; rfl) ?_
  refine kp 8 (.slice (some ⟨4, 0, none⟩) (List.length (cutL (hit a b) ls)) (List.length ls)) ?_
  refine WpOps.nil (thenK_at (Wp.seq ?_))
  refine Wp.regionT (by kernel_rfl) (by kernel_rfl) ?_
  refine kp 14 (.pointer (some ⟨0, 0, none⟩)) ?_
  refine kp 15 (.int IntKind.i64 N) ?_
  refine kp 16 (.slice (some ⟨4, 0, none⟩) (List.length (cutL (hit a b) ls)) (List.length ls)) ?_
  refine kp 17 (.agg #[Value.int .i64 N, Value.slice (some ⟨4, 0, none⟩) (List.length (cutL (hit a b) ls)) (List.length ls)]) ?_
  refine kp 18 (.slice (some ⟨4, 0, none⟩) (List.length (cutL (hit a b) ls)) (List.length ls)) ?_
  refine kp 19 (.int IntKind.i64 (↑(List.length (cutL (hit a b) ls)) : Int)) ?_
  refine kp 20 (.pointer (some ⟨0, 1, none⟩)) ?_
  refine kp 21 (.iface 48 (Value.iface (List.length ls) (Value.iface 0 (Value.agg (List.toArray (lcs ls)))))) ?_
  refine kp 22 (.int IntKind.i64 (↑(List.length ls) : Int)) ?_
  refine kp 23 (.bool true) ?_ (hop := fun _ => by_fact d)
  refine ld (.tuple #[]) (3) (Blk.mk 24 true [Value.int .i64 N, Value.slice (some ⟨4, 0, none⟩) (List.length (cutL (hit a b) ls)) (List.length ls)]) ?_
  refine kp 7 (.bool true) ?_
  refine WpOps.nil ?_
  refine ⟨by kernel_rfl, ?_⟩
  refine thenK_at (Wp.ret ?_)
  refine endK_retn [Value.agg #[Value.int IntKind.i64 N, Value.slice (some (Addr.mk 4 0 none)) (List.length (cutL (hit a b) ls)) (List.length ls)], Value.bool true] (Value.tuple #[Value.agg #[Value.int IntKind.i64 N, Value.slice (some (Addr.mk 4 0 none)) (List.length (cutL (hit a b) ls)) (List.length ls)], Value.bool true]) (by kernel_rfl) (by kernel_rfl) ?_
  exact net_ice (links_ice (ls := cutL (hit a b) ls) rfl) rfl
theorem clone59_nil : Lent E 59 [FS 48 0 2 #[]] [] (.slice none 0 0) [] := by
  refine Lent.of f59 rfl (of_decide_eq_true (by kernel_rfl)) rfl rfl (Nat.zero_le _) rfl rfl rfl ?_
  refine Wp.seq (Wp.text ?_)
  refine kp 2 (.slice none 0 0) ?_
  refine WpOps.nil (thenK_at (Wp.seq (Wp.seq (Wp.text ?_))))
  refine kp 3 (.iface 48 (Value.iface 0 (Value.iface 2 (Value.agg #[])))) ?_
  refine kp 4 (.bool true) ?_
  refine WpOps.nil (thenK_at (on' (Wp.seq (Wp.text ?_))))
  refine kp 2 (.slice none 0 0) ?_
  refine WpOps.nil (thenK_at (Wp.ret (thenK_ret ?_)))
  refine endK_retn [Value.slice none 0 0] (Value.slice none 0 0) (by kernel_rfl) (by kernel_rfl) ?_
  exact ⟨[], by decide, by kernel_rfl, trivial, .w (.un rfl rfl)⟩
theorem clone59_empty : Lent E 59 [FS 48 0 0 #[]] [] (.slice (some ⟨0, 0, none⟩) 0 0) [⟨48, true, []⟩] := by
  refine Lent.of f59 rfl (of_decide_eq_true (by kernel_rfl)) rfl rfl (Nat.zero_le _) rfl rfl rfl ?_
  refine Wp.seq (Wp.text ?_)
  refine kp 2 (.slice none 0 0) ?_
  refine WpOps.nil (thenK_at (Wp.seq (Wp.seq (Wp.text ?_))))
  refine kp 3 (.iface 48 (Value.iface 0 (Value.iface 0 (Value.agg #[])))) ?_
  refine kp 4 (.bool false) ?_
  refine WpOps.nil (thenK_at (off' (Wp.skip (thenK_at (Wp.seq (Wp.text ?_))))))
  refine md 5 (.slice (some ⟨0, 0, none⟩) 0 0) (Blk.mk 48 true []) ?_
  refine kp 6 (.iface 48 (Value.iface 0 (Value.iface 0 (Value.agg #[])))) ?_
  refine kp 7 (.slice (some ⟨0, 0, none⟩) 0 0) ?_
  refine kp 2 (.slice (some ⟨0, 0, none⟩) 0 0) ?_
  refine WpOps.nil (thenK_at (Wp.ret ?_))
  refine endK_retn [Value.slice (some (Addr.mk 0 0 none)) 0 0] (Value.slice (some (Addr.mk 0 0 none)) 0 0) (by kernel_rfl) (by kernel_rfl) ?_
  exact ⟨[0], by decide, by kernel_rfl, ⟨⟨[], by kernel_rfl, .nil⟩, trivial⟩, .w (.un rfl rfl)⟩
theorem wo57_nil (N a b : Int) : Fun E 57 [netV N 2 [], .int .i64 a, .int .i64 b] (.tuple #[netV N 2 [], .bool false]) := by
  refine Fun.ofN f57 rfl (of_decide_eq_true (by kernel_rfl)) (by kernel_rfl) ?_
  have c1 := clone59_nil
  have c2 : SCall E 66 [.slice none 0 0, .func (.func 67) #[] #[.pointer (some ⟨1, 0, none⟩), .pointer (some ⟨2, 0, none⟩)]] (heapOf [⟨24, true, [.int .i64 N, FS 48 0 2 #[]]⟩, ⟨3, true, [.int .i64 a]⟩, ⟨3, true, [.int .i64 b]⟩, ⟨24, true, [.int .i64 0, .slice none 0 0]⟩]) (.slice none 0 0) (heapOf [⟨24, true, [.int .i64 N, FS 48 0 2 #[]]⟩, ⟨3, true, [.int .i64 a]⟩, ⟨3, true, [.int .i64 b]⟩, ⟨24, true, [.int .i64 0, .slice none 0 0]⟩]) := SCall.closed 60 (by kernel_rfl)
  rw [show netV N 2 [] = .agg #[.int .i64 N, FS 48 0 2 #[]] from rfl]
  refine Wp.seq (Wp.text ?_)
  refine md 3 (.pointer (some ⟨0, 0, none⟩)) (Blk.mk 24 true [Value.int .i64 N, Value.iface 48 (Value.iface 0 (Value.iface 2 (Value.agg #[])))]) ?_
  refine md 4 (.pointer (some ⟨1, 0, none⟩)) (Blk.mk 3 true [Value.int .i64 a]) ?_
  refine md 5 (.pointer (some ⟨2, 0, none⟩)) (Blk.mk 3 true [Value.int .i64 b]) ?_
  refine md 6 (.pointer (some ⟨3, 0, none⟩)) (Blk.mk 24 true [Value.int .i64 0, Value.slice none 0 0]) ?_
  refine kp 7 (.bool false) ?_
  refine WpOps.nil (thenK_at (Wp.seq (Wp.text ?_)))
  refine kp 9 (.pointer (some ⟨0, 1, none⟩)) ?_
  refine kp 10 (.iface 48 (Value.iface 0 (Value.iface 2 (Value.agg #[])))) ?_
  refine cl 11 59 [Value.iface 48 (Value.iface 0 (Value.iface 2 (Value.agg #[])))] ?_
  refine WpCall.lent [] (c1) (by decide) trivial (by kernel_rfl) (Value.slice none 0 0) ([]) .nil (by kernel_rfl) (Heap.alloc (Heap.alloc (Heap.alloc (Heap.alloc Heap.none (Blk.mk 24 true [Value.int IntKind.i64 N, Value.iface 48 (Value.iface 0 (Value.iface 2 (Value.agg #[])))])) (Blk.mk 3 true [Value.int IntKind.i64 a])) (Blk.mk 3 true [Value.int IntKind.i64 b])) (Blk.mk 24 true [Value.int IntKind.i64 0, Value.slice none 0 0])) (by kernel_rfl) ?_
  refine kp 12 (.func (Fn.func 67) #[] #[Value.pointer (some ⟨1, 0, none⟩), Value.pointer (some ⟨2, 0, none⟩)]) ?_
  refine cl 13 66 [Value.slice none 0 0, Value.func (Fn.func 67) #[] #[Value.pointer (some ⟨1, 0, none⟩), Value.pointer (some ⟨2, 0, none⟩)]] ?_
  refine WpCall.enterL c2 (by simp only [none_heapOf, heapOf_alloc]; rfl) ?_
  refine kp 8 (.slice none 0 0) ?_
  refine WpOps.nil (thenK_at (Wp.seq ?_))
  refine Wp.regionT (by kernel_rfl) (by kernel_rfl) ?_
  refine kp 14 (.pointer (some ⟨0, 0, none⟩)) ?_
  refine kp 15 (.int IntKind.i64 N) ?_
  refine kp 16 (.slice none 0 0) ?_
  refine kp 17 (.agg #[Value.int .i64 N, Value.slice none 0 0]) ?_
  refine kp 18 (.slice none 0 0) ?_
  refine kp 19 (.int IntKind.i64 (↑0 : Int)) ?_
  refine kp 20 (.pointer (some ⟨0, 1, none⟩)) ?_
  refine kp 21 (.iface 48 (Value.iface 0 (Value.iface 2 (Value.agg #[])))) ?_
  refine kp 22 (.int IntKind.i64 (↑0 : Int)) ?_
  refine kp 23 (.bool false) ?_
  refine cg0 (.tuple #[]) (Heap.set (heapOf [Blk.mk 24 true [Value.int .i64 N, Value.iface 48 (Value.iface 0 (Value.iface 2 (Value.agg #[])))], Blk.mk 3 true [Value.int .i64 a], Blk.mk 3 true [Value.int .i64 b], Blk.mk 24 true [Value.int .i64 0, Value.slice none 0 0]]) 3 (some (Blk.mk 24 true [Value.int .i64 N, Value.slice none 0 0]))) ?_
  refine kp 7 (.bool false) ?_
  refine WpOps.nil ?_
  refine ⟨by kernel_rfl, ?_⟩
  refine thenK_at (Wp.ret ?_)
  refine endK_retn [Value.agg #[Value.int IntKind.i64 N, Value.slice none 0 0], Value.bool false] (Value.tuple #[Value.agg #[Value.int IntKind.i64 N, Value.slice none 0 0], Value.bool false]) (by kernel_rfl) (by kernel_rfl) ?_
  obtain ⟨ti, ht⟩ := E48
  exact ⟨_, by kernel_rfl, .tuple (.cons (.agg (.cons (.inl rfl) (.cons (.inr ⟨rfl, 48, ti, ht, rfl⟩) .nil))) (.cons (.c (.inl rfl)) .nil))⟩
theorem wo57_empty (N a b : Int) : Fun E 57 [netV N 0 [], .int .i64 a, .int .i64 b] (.tuple #[netV N 0 [], .bool false]) := by
  refine Fun.of f57 rfl (of_decide_eq_true (by kernel_rfl)) (by kernel_rfl) ?_
  have c2 : SCall E 66 [.slice (some ⟨4, 0, none⟩) 0 0, .func (.func 67) #[] #[.pointer (some ⟨1, 0, none⟩), .pointer (some ⟨2, 0, none⟩)]] (heapOf [⟨24, true, [.int .i64 N, FS 48 0 0 #[]]⟩, ⟨3, true, [.int .i64 a]⟩, ⟨3, true, [.int .i64 b]⟩, ⟨24, true, [.int .i64 0, .slice none 0 0]⟩, ⟨48, true, []⟩]) (.slice (some ⟨4, 0, none⟩) 0 0) (heapOf [⟨24, true, [.int .i64 N, FS 48 0 0 #[]]⟩, ⟨3, true, [.int .i64 a]⟩, ⟨3, true, [.int .i64 b]⟩, ⟨24, true, [.int .i64 0, .slice none 0 0]⟩, ⟨48, true, []⟩]) := SCall.closed 60 (by kernel_rfl)
  have c1 := clone59_empty
  rw [show netV N 0 [] = .agg #[.int .i64 N, FS 48 0 0 #[]] from rfl]
  refine Wp.seq (Wp.text ?_)
  refine md 3 (.pointer (some ⟨0, 0, none⟩)) (Blk.mk 24 true [Value.int .i64 N, Value.iface 48 (Value.iface 0 (Value.iface 0 (Value.agg #[])))]) ?_
  refine md 4 (.pointer (some ⟨1, 0, none⟩)) (Blk.mk 3 true [Value.int .i64 a]) ?_
  refine md 5 (.pointer (some ⟨2, 0, none⟩)) (Blk.mk 3 true [Value.int .i64 b]) ?_
  refine md 6 (.pointer (some ⟨3, 0, none⟩)) (Blk.mk 24 true [Value.int .i64 0, Value.slice none 0 0]) ?_
  refine kp 7 (.bool false) ?_
  refine WpOps.nil (thenK_at (Wp.seq (Wp.text ?_)))
  refine kp 9 (.pointer (some ⟨0, 1, none⟩)) ?_
  refine kp 10 (.iface 48 (Value.iface 0 (Value.iface 0 (Value.agg #[])))) ?_
  refine cl 11 59 [Value.iface 48 (Value.iface 0 (Value.iface 0 (Value.agg #[])))] ?_
  refine WpCall.lent [] (c1) (by decide) trivial (by kernel_rfl) (Value.slice (some (Addr.mk (List.getD [4] 0 0) 0 none)) 0 0) ([Blk.mk 48 true []]) (.cons (by kernel_rfl) .nil) (by kernel_rfl) (Heap.alloc (Heap.alloc (Heap.alloc (Heap.alloc (Heap.alloc Heap.none (Blk.mk 24 true [Value.int IntKind.i64 N, Value.iface 48 (Value.iface 0 (Value.iface 0 (Value.agg #[])))])) (Blk.mk 3 true [Value.int IntKind.i64 a])) (Blk.mk 3 true [Value.int IntKind.i64 b])) (Blk.mk 24 true [Value.int IntKind.i64 0, Value.slice none 0 0])) (Blk.mk 48 true [])) (by kernel_rfl) ?_
  refine kp 12 (.func (Fn.func 67) #[] #[Value.pointer (some ⟨1, 0, none⟩), Value.pointer (some ⟨2, 0, none⟩)]) ?_
  refine cl 13 66 [Value.slice (some (Addr.mk (List.getD [4] 0 0) 0 none)) 0 0, Value.func (Fn.func 67) #[] #[Value.pointer (some ⟨1, 0, none⟩), Value.pointer (some ⟨2, 0, none⟩)]] ?_
  refine WpCall.enterL c2 (by simp only [none_heapOf, heapOf_alloc]; rfl) ?_
  refine kp 8 (.slice (some ⟨4, 0, none⟩) 0 0) ?_
  refine WpOps.nil (thenK_at (Wp.seq ?_))
  refine Wp.regionT (by kernel_rfl) (by kernel_rfl) ?_
  refine kp 14 (.pointer (some ⟨0, 0, none⟩)) ?_
  refine kp 15 (.int IntKind.i64 N) ?_
  refine kp 16 (.slice (some ⟨4, 0, none⟩) 0 0) ?_
  refine kp 17 (.agg #[Value.int .i64 N, Value.slice (some ⟨4, 0, none⟩) 0 0]) ?_
  refine kp 18 (.slice (some ⟨4, 0, none⟩) 0 0) ?_
  refine kp 19 (.int IntKind.i64 (↑0 : Int)) ?_
  refine kp 20 (.pointer (some ⟨0, 1, none⟩)) ?_
  refine kp 21 (.iface 48 (Value.iface 0 (Value.iface 0 (Value.agg #[])))) ?_
  refine kp 22 (.int IntKind.i64 (↑0 : Int)) ?_
  refine kp 23 (.bool false) ?_
  refine cg0 (.tuple #[]) (Heap.set (heapOf [Blk.mk 24 true [Value.int .i64 N, Value.iface 48 (Value.iface 0 (Value.iface 0 (Value.agg #[])))], Blk.mk 3 true [Value.int .i64 a], Blk.mk 3 true [Value.int .i64 b], Blk.mk 24 true [Value.int .i64 0, Value.slice none 0 0], Blk.mk 48 true []]) 3 (some (Blk.mk 24 true [Value.int .i64 N, Value.slice (some ⟨4, 0, none⟩) 0 0]))) ?_
  refine kp 7 (.bool false) ?_
  refine WpOps.nil ?_
  refine ⟨by kernel_rfl, ?_⟩
  refine thenK_at (Wp.ret ?_)
  refine endK_retn [Value.agg #[Value.int IntKind.i64 N, Value.slice (some (Addr.mk 4 0 none)) 0 0], Value.bool false] (Value.tuple #[Value.agg #[Value.int IntKind.i64 N, Value.slice (some (Addr.mk 4 0 none)) 0 0], Value.bool false]) (by kernel_rfl) (by kernel_rfl) ?_
  kernel_rfl
/-- A call of Cut is as it should be. -/
def okCut (v : Bool) (N a b : Int) : Bool := v && nodeB N a && nodeB N b && !(a == b)
theorem okCut_nest (v x y z : Bool) : (bif (bif (bif !v then true else !x) then true else !y) then true else z) = !(v && x && y && !z) := by
  cases v <;> cases x <;> cases y <;> cases z <;> rfl
theorem f33 : E.funcs 33 = some Try.f33 := by kernel_rfl
theorem cut33_bad (N : Int) (x : Nat) (ls : List Lk) (a b : Int) (ok : Bool) (c1 : Fun E 25 [netV N x ls] (.bool ok)) (hb : okCut ok N a b = false) : Fun E 33 [netV N x ls, .int .i64 a, .int .i64 b] (.tuple #[netV 0 2 [], .int .i64 1]) := by
  refine Fun.ofN f33 rfl (of_decide_eq_true (by kernel_rfl)) (by kernel_rfl) ?_
  have c2 := node53 N x ls a
  have c3 := node53 N x ls b
  have hab : ∃ z, (a == b) = z := ⟨_, rfl⟩
  obtain ⟨z, hz⟩ := hab
  unfold netV lks at c1 c2 c3
  unfold okCut at hb
  rw [hz] at hb
  generalize nodeB N a = p at c2 hb
  generalize nodeB N b = q at c3 hb
  unfold netV lks
  refine Wp.seq (Wp.text ?_)
  refine md 3 (.pointer (some ⟨0, 0, none⟩)) (Blk.mk 24 true [Value.int .i64 N, Value.iface 48 (Value.iface (List.length ls) (Value.iface x (Value.agg (List.toArray (lcs ls)))))]) ?_
  refine md 6 (.pointer (some ⟨1, 0, none⟩)) (Blk.mk 24 true [Value.int .i64 0, Value.slice none 0 0]) ?_
  refine kp 7 (.int IntKind.i64 0) ?_
  refine WpOps.nil (thenK_at (Wp.seq (Wp.seq (Wp.text ?_))))
  refine kp 10 (.agg #[Value.int .i64 N, Value.iface 48 (Value.iface (List.length ls) (Value.iface x (Value.agg (List.toArray (lcs ls)))))]) ?_
  refine fr 11 25 [Value.agg #[Value.int .i64 N, Value.iface 48 (Value.iface (List.length ls) (Value.iface x (Value.agg (List.toArray (lcs ls)))))]] ?_
  refine WpFun.of (c1) ?_
  refine kp 12 (.bool !ok) ?_
  refine kp 13 (.bool !ok) ?_
  refine WpOps.fork 5 (!ok) [14, 15, 16, 17, 18] 18 (true) (!p) (by kernel_rfl) (fun g18 => ?_) (fun g18 => ?_) (fun f_18 b18 hb18 => ?_)
  · refine um 14 ?_ (hw := wants_tf g18)
    refine um 15 ?_ (hw := wants_tf g18)
    refine um 16 ?_ (hw := wants_tf g18)
    refine um 17 ?_ (hw := wants_tf g18)
    refine kp 18 (.bool true) ?_ (hop := fun _ => o_pickT g18)
    refine WpOps.nil ?_
    exact ⟨rfl, (.upd rfl (.upd rfl (.upd rfl (.upd rfl (.upd rfl .refl))))), (by kernel_rfl)⟩
  · refine kp 14 (.agg #[Value.int .i64 N, Value.iface 48 (Value.iface (List.length ls) (Value.iface x (Value.agg (List.toArray (lcs ls)))))]) ?_ (hw := wants_ff g18)
    refine kp 15 (.int IntKind.i64 a) ?_ (hw := wants_ff g18)
    refine fr 16 53 [Value.agg #[Value.int .i64 N, Value.iface 48 (Value.iface (List.length ls) (Value.iface x (Value.agg (List.toArray (lcs ls)))))], Value.int .i64 a] ?_ (hw := wants_ff g18)
    refine WpFun.of (c2) ?_
    refine kp 17 (.bool !p) ?_ (hw := wants_ff g18)
    refine kp 18 (.bool !p) ?_ (hop := fun _ => o_pickF g18)
    refine WpOps.nil ?_
    exact ⟨rfl, (.upd rfl (.upd rfl (.upd rfl (.upd rfl (.upd rfl .refl))))), (by kernel_rfl)⟩
  refine kp 19 (.bool b18) ?_
  refine WpOps.fork 5 (b18) [20, 21, 22, 23, 24] 24 (true) (!q) (by kernel_rfl) (fun g24 => ?_) (fun g24 => ?_) (fun f_24 b24 hb24 => ?_)
  · refine um 20 ?_ (hw := wants_tf g24)
    refine um 21 ?_ (hw := wants_tf g24)
    refine um 22 ?_ (hw := wants_tf g24)
    refine um 23 ?_ (hw := wants_tf g24)
    refine kp 24 (.bool true) ?_ (hop := fun _ => o_pickT g24)
    refine WpOps.nil ?_
    exact ⟨rfl, (.upd rfl (.upd rfl (.upd rfl (.upd rfl (.upd rfl .refl))))), (by kernel_rfl)⟩
  · refine kp 20 (.agg #[Value.int .i64 N, Value.iface 48 (Value.iface (List.length ls) (Value.iface x (Value.agg (List.toArray (lcs ls)))))]) ?_ (hw := wants_ff g24)
    refine kp 21 (.int IntKind.i64 b) ?_ (hw := wants_ff g24)
    refine fr 22 53 [Value.agg #[Value.int .i64 N, Value.iface 48 (Value.iface (List.length ls) (Value.iface x (Value.agg (List.toArray (lcs ls)))))], Value.int .i64 b] ?_ (hw := wants_ff g24)
    refine WpFun.of (c3) ?_
    refine kp 23 (.bool !q) ?_ (hw := wants_ff g24)
    refine kp 24 (.bool !q) ?_ (hop := fun _ => o_pickF g24)
    refine WpOps.nil ?_
    exact ⟨rfl, (.upd rfl (.upd rfl (.upd rfl (.upd rfl (.upd rfl .refl))))), (by kernel_rfl)⟩
  refine kp 25 (.bool b24) ?_
  refine WpOps.fork 4 (b24) [26, 27, 28, 29] 29 (true) (a == b) (by kernel_rfl) (fun g29 => ?_) (fun g29 => ?_) (fun f_29 b29 hb29 => ?_)
  · refine um 26 ?_ (hw := wants_tf g29)
    refine um 27 ?_ (hw := wants_tf g29)
    refine um 28 ?_ (hw := wants_tf g29)
    refine kp 29 (.bool true) ?_ (hop := fun _ => o_pickT g29)
    refine WpOps.nil ?_
    exact ⟨rfl, (.upd rfl (.upd rfl (.upd rfl (.upd rfl .refl)))), (by kernel_rfl)⟩
  · refine kp 26 (.int IntKind.i64 a) ?_ (hw := wants_ff g29)
    refine kp 27 (.int IntKind.i64 b) ?_ (hw := wants_ff g29)
    refine kp 28 (.bool (a == b)) ?_ (hw := wants_ff g29)
    refine kp 29 (.bool (a == b)) ?_ (hop := fun _ => o_pickF g29)
    refine WpOps.nil ?_
    exact ⟨rfl, (.upd rfl (.upd rfl (.upd rfl (.upd rfl .refl)))), (by kernel_rfl)⟩
  refine WpOps.nil (thenK_at ?_)
  obtain rfl : b29 = true := by
    rw [hb29, hb24, hb18, hz, okCut_nest, hb]
    rfl
  refine on' (Wp.seq (Wp.text ?_))
  refine kp 30 (.agg #[Value.int .i64 0, Value.slice none 0 0]) ?_
  refine ld (.tuple #[]) (1) (Blk.mk 24 true [Value.int .i64 0, Value.slice none 0 0]) ?_
  refine kp 7 (.int IntKind.i64 1) ?_
  refine WpOps.nil (thenK_at (Wp.ret (thenK_ret ?_)))
  refine endK_retn [Value.agg #[Value.int IntKind.i64 0, Value.slice none 0 0], Value.int IntKind.i64 1] (Value.tuple #[Value.agg #[Value.int IntKind.i64 0, Value.slice none 0 0], Value.int IntKind.i64 1]) (by kernel_rfl) (by kernel_rfl) ?_
  obtain ⟨ti, ht⟩ := E48
  exact ⟨_, by kernel_rfl, .tuple (.cons (.agg (.cons (.inl rfl) (.cons (.inr ⟨rfl, 48, ti, ht, rfl⟩) .nil))) (.cons (.c (.inl rfl)) .nil))⟩
theorem okCut_parts {ok : Bool} {N a b : Int} (h : okCut ok N a b = true) : ok = true ∧ nodeB N a = true ∧ nodeB N b = true ∧ (a == b) = false := by
  unfold okCut at h
  simp only [Bool.and_eq_true] at h
  exact ⟨h.1.1.1, h.1.1.2, h.1.2, by simpa using h.2⟩
theorem cut33_none (N : Int) (x : Nat) (ls : List Lk) (a b : Int) (c1 : Fun E 25 [netV N x ls] (.bool true)) (hb : okCut true N a b = true) (c4 : Fun E 57 [netV N x ls, .int .i64 a, .int .i64 b] (.tuple #[netV N x ls, .bool false])) : Fun E 33 [netV N x ls, .int .i64 a, .int .i64 b] (.tuple #[netV 0 2 [], .int .i64 3]) := by
  refine Fun.ofN f33 rfl (of_decide_eq_true (by kernel_rfl)) (by kernel_rfl) ?_
  have c2 := node53 N x ls a
  have c3 := node53 N x ls b
  obtain ⟨h0, h1, h2, h3⟩ := okCut_parts hb
  rw [h1] at c2
  rw [h2] at c3
  clear hb h0 h1 h2
  unfold netV lks at *
  refine Wp.seq (Wp.text ?_)
  refine md 3 (.pointer (some ⟨0, 0, none⟩)) (Blk.mk 24 true [Value.int .i64 N, Value.iface 48 (Value.iface (List.length ls) (Value.iface x (Value.agg (List.toArray (lcs ls)))))]) ?_
  refine md 6 (.pointer (some ⟨1, 0, none⟩)) (Blk.mk 24 true [Value.int .i64 0, Value.slice none 0 0]) ?_
  refine kp 7 (.int IntKind.i64 0) ?_
  refine WpOps.nil (thenK_at (Wp.seq (Wp.seq (Wp.text ?_))))
  refine kp 10 (.agg #[Value.int .i64 N, Value.iface 48 (Value.iface (List.length ls) (Value.iface x (Value.agg (List.toArray (lcs ls)))))]) ?_
  refine fr 11 25 [Value.agg #[Value.int .i64 N, Value.iface 48 (Value.iface (List.length ls) (Value.iface x (Value.agg (List.toArray (lcs ls)))))]] ?_
  refine WpFun.of (c1) ?_
  refine kp 12 (.bool false) ?_
  refine kp 13 (.bool false) ?_
  refine kp 14 (.agg #[Value.int .i64 N, Value.iface 48 (Value.iface (List.length ls) (Value.iface x (Value.agg (List.toArray (lcs ls)))))]) ?_
  refine kp 15 (.int IntKind.i64 a) ?_
  refine fr 16 53 [Value.agg #[Value.int .i64 N, Value.iface 48 (Value.iface (List.length ls) (Value.iface x (Value.agg (List.toArray (lcs ls)))))], Value.int .i64 a] ?_
  refine WpFun.of (c2) ?_
  refine kp 17 (.bool false) ?_
  refine kp 18 (.bool false) ?_
  refine kp 19 (.bool false) ?_
  refine kp 20 (.agg #[Value.int .i64 N, Value.iface 48 (Value.iface (List.length ls) (Value.iface x (Value.agg (List.toArray (lcs ls)))))]) ?_
  refine kp 21 (.int IntKind.i64 b) ?_
  refine fr 22 53 [Value.agg #[Value.int .i64 N, Value.iface 48 (Value.iface (List.length ls) (Value.iface x (Value.agg (List.toArray (lcs ls)))))], Value.int .i64 b] ?_
  refine WpFun.of (c3) ?_
  refine kp 23 (.bool false) ?_
  refine kp 24 (.bool false) ?_
  refine kp 25 (.bool false) ?_
  refine kp 26 (.int IntKind.i64 a) ?_
  refine kp 27 (.int IntKind.i64 b) ?_
  refine kp 28 (.bool false) ?_ (hop := fun _ => by_fact h3)
  refine kp 29 (.bool false) ?_
  refine WpOps.nil (thenK_at (off' (Wp.skip (thenK_at (Wp.seq (Wp.text ?_))))))
  refine kp 32 (.agg #[Value.int .i64 N, Value.iface 48 (Value.iface (List.length ls) (Value.iface x (Value.agg (List.toArray (lcs ls)))))]) ?_
  refine kp 33 (.int IntKind.i64 a) ?_
  refine kp 34 (.int IntKind.i64 b) ?_
  refine fr 35 57 [Value.agg #[Value.int .i64 N, Value.iface 48 (Value.iface (List.length ls) (Value.iface x (Value.agg (List.toArray (lcs ls)))))], Value.int .i64 a, Value.int .i64 b] ?_
  refine WpFun.of (c4) ?_
  refine kp 31 (.tuple #[Value.agg #[Value.int .i64 N, FS 48 (List.length ls) x (List.toArray (lcs ls))], Value.bool false]) ?_
  refine kp 36 (.agg #[Value.int .i64 N, FS 48 (List.length ls) x (List.toArray (lcs ls))]) ?_
  refine kp 37 (.bool false) ?_
  refine md 8 (.pointer (some ⟨2, 0, none⟩)) (Blk.mk 24 true [Value.int .i64 0, Value.slice none 0 0]) ?_
  refine ld (.tuple #[]) (2) (Blk.mk 24 true [Value.int .i64 N, Value.iface 48 (Value.iface (List.length ls) (Value.iface x (Value.agg (List.toArray (lcs ls)))))]) ?_
  refine kp 9 (.bool false) ?_
  refine WpOps.nil (thenK_at (Wp.seq (Wp.seq (Wp.text ?_))))
  refine kp 38 (.bool false) ?_
  refine kp 39 (.bool true) ?_
  refine WpOps.nil (thenK_at (on' (Wp.seq (Wp.text ?_))))
  refine kp 40 (.agg #[Value.int .i64 0, Value.slice none 0 0]) ?_
  refine ld (.tuple #[]) (1) (Blk.mk 24 true [Value.int .i64 0, Value.slice none 0 0]) ?_
  refine kp 7 (.int IntKind.i64 3) ?_
  refine WpOps.nil (thenK_at (Wp.ret (thenK_ret ?_)))
  refine endK_retn [Value.agg #[Value.int IntKind.i64 0, Value.slice none 0 0], Value.int IntKind.i64 3] (Value.tuple #[Value.agg #[Value.int IntKind.i64 0, Value.slice none 0 0], Value.int IntKind.i64 3]) (by kernel_rfl) (by kernel_rfl) ?_
  obtain ⟨ti, ht⟩ := E48
  exact ⟨_, by kernel_rfl, .tuple (.cons (.agg (.cons (.inl rfl) (.cons (.inr ⟨rfl, 48, ti, ht, rfl⟩) .nil))) (.cons (.c (.inl rfl)) .nil))⟩
theorem cut33_ok (N : Int) (x : Nat) (ls : List Lk) (a b : Int) (c1 : Fun E 25 [netV N x ls] (.bool true)) (hb : okCut true N a b = true) (l2 : List Lk) (c4 : Fun E 57 [netV N x ls, .int .i64 a, .int .i64 b] (.tuple #[netV N 0 l2, .bool true])) : Fun E 33 [netV N x ls, .int .i64 a, .int .i64 b] (.tuple #[netV N 0 l2, .int .i64 0]) := by
  refine Fun.of f33 rfl (of_decide_eq_true (by kernel_rfl)) rfl ?_
  have c2 := node53 N x ls a
  have c3 := node53 N x ls b
  obtain ⟨h0, h1, h2, h3⟩ := okCut_parts hb
  rw [h1] at c2
  rw [h2] at c3
  clear hb h0 h1 h2
  unfold netV lks at *
  refine Wp.seq (Wp.text ?_)
  refine md 3 (.pointer (some ⟨0, 0, none⟩)) (Blk.mk 24 true [Value.int .i64 N, Value.iface 48 (Value.iface (List.length ls) (Value.iface x (Value.agg (List.toArray (lcs ls)))))]) ?_
  refine md 6 (.pointer (some ⟨1, 0, none⟩)) (Blk.mk 24 true [Value.int .i64 0, Value.slice none 0 0]) ?_
  refine kp 7 (.int IntKind.i64 0) ?_
  refine WpOps.nil (thenK_at (Wp.seq (Wp.seq (Wp.text ?_))))
  refine kp 10 (.agg #[Value.int .i64 N, Value.iface 48 (Value.iface (List.length ls) (Value.iface x (Value.agg (List.toArray (lcs ls)))))]) ?_
  refine fr 11 25 [Value.agg #[Value.int .i64 N, Value.iface 48 (Value.iface (List.length ls) (Value.iface x (Value.agg (List.toArray (lcs ls)))))]] ?_
  refine WpFun.of (c1) ?_
  refine kp 12 (.bool false) ?_
  refine kp 13 (.bool false) ?_
  refine kp 14 (.agg #[Value.int .i64 N, Value.iface 48 (Value.iface (List.length ls) (Value.iface x (Value.agg (List.toArray (lcs ls)))))]) ?_
  refine kp 15 (.int IntKind.i64 a) ?_
  refine fr 16 53 [Value.agg #[Value.int .i64 N, Value.iface 48 (Value.iface (List.length ls) (Value.iface x (Value.agg (List.toArray (lcs ls)))))], Value.int .i64 a] ?_
  refine WpFun.of (c2) ?_
  refine kp 17 (.bool false) ?_
  refine kp 18 (.bool false) ?_
  refine kp 19 (.bool false) ?_
  refine kp 20 (.agg #[Value.int .i64 N, Value.iface 48 (Value.iface (List.length ls) (Value.iface x (Value.agg (List.toArray (lcs ls)))))]) ?_
  refine kp 21 (.int IntKind.i64 b) ?_
  refine fr 22 53 [Value.agg #[Value.int .i64 N, Value.iface 48 (Value.iface (List.length ls) (Value.iface x (Value.agg (List.toArray (lcs ls)))))], Value.int .i64 b] ?_
  refine WpFun.of (c3) ?_
  refine kp 23 (.bool false) ?_
  refine kp 24 (.bool false) ?_
  refine kp 25 (.bool false) ?_
  refine kp 26 (.int IntKind.i64 a) ?_
  refine kp 27 (.int IntKind.i64 b) ?_
  refine kp 28 (.bool false) ?_ (hop := fun _ => by_fact h3)
  refine kp 29 (.bool false) ?_
  refine WpOps.nil (thenK_at (off' (Wp.skip (thenK_at (Wp.seq (Wp.text ?_))))))
  refine kp 32 (.agg #[Value.int .i64 N, Value.iface 48 (Value.iface (List.length ls) (Value.iface x (Value.agg (List.toArray (lcs ls)))))]) ?_
  refine kp 33 (.int IntKind.i64 a) ?_
  refine kp 34 (.int IntKind.i64 b) ?_
  refine fr 35 57 [Value.agg #[Value.int .i64 N, Value.iface 48 (Value.iface (List.length ls) (Value.iface x (Value.agg (List.toArray (lcs ls)))))], Value.int .i64 a, Value.int .i64 b] ?_
  refine WpFun.of (c4) ?_
  refine kp 31 (.tuple #[Value.agg #[Value.int .i64 N, FS 48 (List.length l2) 0 (List.toArray (lcs l2))], Value.bool true]) ?_
  refine kp 36 (.agg #[Value.int .i64 N, FS 48 (List.length l2) 0 (List.toArray (lcs l2))]) ?_
  refine kp 37 (.bool true) ?_
  refine md 8 (.pointer (some ⟨2, 0, none⟩)) (Blk.mk 24 true [Value.int .i64 0, Value.slice none 0 0]) ?_
  refine ld (.tuple #[]) (2) (Blk.mk 24 true [Value.int .i64 N, Value.iface 48 (Value.iface (List.length l2) (Value.iface 0 (Value.agg (List.toArray (lcs l2)))))]) ?_
  refine kp 9 (.bool true) ?_
  refine WpOps.nil (thenK_at (Wp.seq (Wp.seq (Wp.text ?_))))
  refine kp 38 (.bool true) ?_
  refine kp 39 (.bool false) ?_
  refine WpOps.nil (thenK_at (off' (Wp.skip (thenK_at (Wp.seq (Wp.text ?_))))))
  refine kp 41 (.agg #[Value.int .i64 N, Value.iface 48 (Value.iface (List.length l2) (Value.iface 0 (Value.agg (List.toArray (lcs l2)))))]) ?_
  refine ld (.tuple #[]) (1) (Blk.mk 24 true [Value.int .i64 N, Value.iface 48 (Value.iface (List.length l2) (Value.iface 0 (Value.agg (List.toArray (lcs l2)))))]) ?_
  refine kp 7 (.int IntKind.i64 0) ?_
  refine WpOps.nil (thenK_at (Wp.ret ?_))
  refine endK_retn [Value.agg #[Value.int IntKind.i64 N, Value.iface 48 (Value.iface (List.length l2) (Value.iface 0 (Value.agg (List.toArray (lcs l2)))))], Value.int IntKind.i64 0] (Value.tuple #[Value.agg #[Value.int IntKind.i64 N, Value.iface 48 (Value.iface (List.length l2) (Value.iface 0 (Value.agg (List.toArray (lcs l2)))))], Value.int IntKind.i64 0]) (by kernel_rfl) (by kernel_rfl) ?_
  rfl
/-- Cut, of the program. -/
theorem cut33 (N : Int) (x : Nat) (ls : List Lk) (a b : Int) (hx : x = 0 ∨ (x = 2 ∧ ls = [])) (hn : ls.length * 24 ≤ 140737488351232) (c1 : Fun E 25 [netV N x ls] (.bool true)) (hb : okCut true N a b = true) :
    (ls.find? (hit a b) = none ∧ Fun E 33 [netV N x ls, .int .i64 a, .int .i64 b] (.tuple #[netV 0 2 [], .int .i64 3])) ∨ (ls.find? (hit a b) ≠ none ∧ Fun E 33 [netV N x ls, .int .i64 a, .int .i64 b] (.tuple #[netV N 0 (cutL (hit a b) ls), .int .i64 0])) := by
  have hg : ∀ j (h : j < ls.length), ls.getD j (0, 0, 0) = ls[j] := fun j h => by rw [List.getD_eq_getElem?_getD, List.getElem?_eq_getElem h]; rfl
  cases e : ls.find? (hit a b) with
  | none =>
    refine .inl ⟨rfl, ?_⟩
    have h2 : ∀ j, j < ls.length → hit a b (ls.getD j (0, 0, 0)) = false := fun j hj => by
      rw [hg j hj]
      have := List.find?_eq_none.1 e _ (List.getElem_mem hj)
      simpa using this
    rcases Nat.eq_zero_or_pos ls.length with h0 | h0
    · obtain rfl := List.eq_nil_of_length_eq_zero h0
      rcases hx with rfl | ⟨rfl, _⟩
      · exact cut33_none N 0 [] a b c1 hb (wo57_empty N a b)
      · exact cut33_none N 2 [] a b c1 hb (wo57_nil N a b)
    · rcases hx with rfl | ⟨rfl, rfl⟩
      · exact cut33_none N 0 ls a b c1 hb (wo57_no N ls a b hn h0 h2)
      · cases h0
  | some l =>
    refine .inr ⟨by simp, ?_⟩
    have e' := e
    rw [List.find?_eq_some_iff_getElem] at e'
    obtain ⟨hl, k, hk, he, hp⟩ := e'
    rcases hx with rfl | ⟨rfl, rfl⟩
    · refine cut33_ok N 0 ls a b c1 hb _ (wo57 N ls a b k hn hk (fun j hj => ?_) (by rw [hg k hk, he]; exact hl) ?_)
      · rw [hg j (by omega)]
        have := hp j hj
        simpa using this
      · unfold cutL
        have : ls.countP (fun l => !hit a b l) < ls.length := by
          rw [List.countP_eq_length_filter]
          have h1 := List.length_filter_le (fun l => !hit a b l) ls
          rcases Nat.lt_or_ge (ls.filter fun l => !hit a b l).length ls.length with h | h
          · exact h
          · exfalso
            have h5 : (ls.filter fun l => !hit a b l).length = ls.length := by omega
            have h6 := List.length_filter_eq_length_iff.1 h5 l (List.mem_of_find?_eq_some e)
            rw [hl] at h6
            cases h6
        rw [List.countP_eq_length_filter] at this
        exact this
    · cases hk
open Go.Fw Go.RowKit

theorem lcs_snoc (ls : List Lk) (l : Lk) : lcs ls ++ [.int .i64 l.1, .int .i64 l.2.1, .int .i64 l.2.2] = lcs (ls ++ [l]) := by
  rw [lcs_append]
  rfl
theorem nz_len {ls : List Lk} (l : Lk) : ¬ (ls ++ [l]).length = 0 := by simp
theorem net1_ice {hp : Heap} {N : Int} {sl v : Value} (h : iceC E hp 4 sl = some v) : iceV E hp (.agg #[.int .i64 N, sl]) = some (.agg #[.int .i64 N, v]) := by
  have h2 : mapO (iceC E hp 4) [.int .i64 N, sl] = some [.int .i64 N, v] := by
    simp only [mapO, h]
    rfl
  show (mapO (iceC E hp 4) [.int .i64 N, sl]).map _ = _
  rw [h2]
  rfl
def xOf (ls : List Lk) : Nat := if ls.length = 0 then 2 else 0
theorem hit_not (a b : Int) (l : Lk) : (bif l.1 != (if b < a then b else a) then true else l.2.1 != (if b > a then b else a)) = !hit a b l := by
  unfold hit
  cases h1 : (l.1 == (if b < a then b else a)) <;> cases h2 : (l.2.1 == (if b > a then b else a)) <;> simp [bne, h1, h2]
/-- What is built up. -/
def oN (N : Int) (b : Nat) (l : List Lk) : Blk := ⟨34, true, [.int .i64 N, oV b l.length]⟩
theorem f58 : E.funcs 58 = some Try.f58 := by kernel_rfl
set_option maxHeartbeats 8000000 in
theorem wo58 (N : Int) (x : Nat) (ls : List Lk) (a b : Int) (hn : ls.length * 24 ≤ 140737488351232) : Fun E 58 [netV N x ls, .int .i64 a, .int .i64 b] (netV N (xOf (cutL (hit a b) ls)) (cutL (hit a b) ls)) := by
  refine Fun.ofN f58 rfl (of_decide_eq_true (by kernel_rfl)) (by kernel_rfl) ?_
  unfold netV lks
  refine Wp.seq (Wp.text ?_)
  refine md 3 (.pointer (some ⟨0, 0, none⟩)) (Blk.mk 34 true [Value.int .i64 N, Value.iface 48 (Value.iface (List.length ls) (Value.iface x (Value.agg (List.toArray (lcs ls)))))]) ?_
  refine md 6 (.pointer (some ⟨1, 0, none⟩)) (Blk.mk 34 true [Value.int .i64 0, Value.slice none 0 0]) ?_
  refine WpOps.nil (thenK_at (Wp.seq (Wp.text ?_)))
  refine kp 10 (.pointer (some ⟨0, 0, none⟩)) ?_
  refine kp 11 (.int IntKind.i64 N) ?_
  refine kp 12 (.agg #[Value.int .i64 N, Value.slice none 0 0]) ?_
  refine md 7 (.pointer (some ⟨2, 0, none⟩)) (Blk.mk 34 true [Value.int .i64 0, Value.slice none 0 0]) ?_
  refine ld (.tuple #[]) (2) (Blk.mk 34 true [Value.int .i64 N, Value.slice none 0 0]) ?_
  refine WpOps.nil (thenK_at (Wp.seq (Wp.seq (Wp.text ?_))))
  refine kp 8 (.int IntKind.i64 0) ?_
  refine WpOps.nil (thenK_at (Wp.block ?_))
  refine Wp.loop (G := Nat) (fun k => layj [(1, .int .i64 a), (2, .int .i64 b), (3, .pointer (some ⟨0, 0, none⟩)), (6, .pointer (some ⟨1, 0, none⟩)), (7, .pointer (some ⟨2, 0, none⟩)), (8, .int .i64 k)]) (fun k => heapOf ([⟨34, true, [.int .i64 N, lks x ls]⟩, ⟨34, true, [.int .i64 0, .slice none 0 0]⟩, oN N 3 (cutL (hit a b) (ls.take k))] ++ oB 48 (cutL (hit a b) (ls.take k)).length (lcs (cutL (hit a b) (ls.take k))))) (fun k => ls.length - k) (fun k => k ≤ ls.length) 0
    (View.of [0, 1, 2] [⟨34, true, [.int .i64 N, lks x ls]⟩, ⟨34, true, [.int .i64 0, .slice none 0 0]⟩, ⟨34, true, [.int .i64 N, .slice none 0 0]⟩] _ (by decide) rfl ⟨⟨_, by kernel_rfl, CellsOk.eq rfl (by kernel_rfl)⟩, ⟨_, by kernel_rfl, CellsOk.eq rfl (by kernel_rfl)⟩, ⟨_, by kernel_rfl, CellsOk.eq rfl (by kernel_rfl)⟩, trivial⟩ ⟨⟨by kernel_rfl, rfl⟩, ⟨by kernel_rfl, rfl⟩, ⟨by kernel_rfl, rfl⟩, ⟨by kernel_rfl, rfl⟩, ⟨by kernel_rfl, rfl⟩, ⟨by kernel_rfl, rfl⟩, trivial⟩) (Nat.zero_le _) ?_
  intro k hk
  by_cases hlt : k < ls.length
  · have d1 : decide ((k : Int) < ls.length) = true := decide_eq_true (by omega)
    have g1 : 0 ≤ (k : Int) ∧ (k : Int) < ls.length := by omega
    have v1 := lcs_cells ls k (0, 0, 0) hlt
    have hml := cutL_take_len (hit a b) ls k
    have hh := cutL_hit (P := hit a b) hlt
    have hm := cutL_miss (P := hit a b) hlt
    generalize ls.getD k (0, 0, 0) = l at v1 hh hm
    generalize cutL (hit a b) (ls.take k) = K at hml hh hm ⊢
    have hsn := lcs_snoc K l
    unfold lc at v1
    have hno := hit_not a b l
    by_cases h0 : K.length = 0
    · have hK := List.eq_nil_of_length_eq_zero h0
      unfold oN
      rw [oV_z h0, oB_z h0]
      unfold lks
      refine Wp.seq (Wp.seq (Wp.text ?_))
      refine kp 13 (.int IntKind.i64 (↑k : Int)) ?_
      refine kp 14 (.pointer (some ⟨0, 1, none⟩)) ?_
      refine kp 15 (.iface 48 (Value.iface (List.length ls) (Value.iface x (Value.agg (List.toArray (lcs ls)))))) ?_
      refine kp 16 (.int IntKind.i64 (↑(List.length ls) : Int)) ?_
      refine kp 17 (.bool true) ?_ (hop := fun _ => by_fact d1)
      refine WpOps.nil (thenK_at (on' (Wp.skip (thenK_at (Wp.seq (Wp.block (Wp.seq (Wp.text ?_))))))))
      refine kp 20 (.pointer (some ⟨0, 1, none⟩)) ?_
      refine kp 21 (.iface 48 (Value.iface (List.length ls) (Value.iface x (Value.agg (List.toArray (lcs ls)))))) ?_
      refine kp 22 (.int IntKind.i64 (↑k : Int)) ?_
      refine kp 23 (.iface 48 (Value.iface (Int.toNat (↑k : Int) * 3) (Value.agg (List.toArray (lcs ls))))) ?_ (hop := fun _ => o_indexI (e := 48) (size := 3) (a := (↑k : Int)) g1)
      refine kp 24 (.agg #[Value.int .i64 (Prod.fst l), Value.int .i64 (Prod.fst (Prod.snd l)), Value.int .i64 (Prod.snd (Prod.snd l))]) ?_ (hop := fun _ => o_loadIA (Int.toNat (↑k : Int) * 3) v1)
      refine md 9 (.pointer (some ⟨3, 0, none⟩)) (Blk.mk 48 true [Value.int .i64 0, Value.int .i64 0, Value.int .i64 0]) ?_
      refine ld (.tuple #[]) (3) (Blk.mk 48 true [Value.int .i64 (Prod.fst l), Value.int .i64 (Prod.fst (Prod.snd l)), Value.int .i64 (Prod.snd (Prod.snd l))]) ?_
      refine WpOps.nil (thenK_at (Wp.seq (Wp.text ?_)))
      refine kp 25 (.pointer (some ⟨3, 0, none⟩)) ?_
      refine kp 26 (.int IntKind.i64 (Prod.fst l)) ?_
      refine kp 27 (.int IntKind.i64 a) ?_
      refine kp 28 (.int IntKind.i64 b) ?_
      refine kp 29 (.int IntKind.i64 (if b < a then b else a)) ?_
      refine kp 30 (.bool (Prod.fst l != if b < a then b else a)) ?_
      refine kp 31 (.bool (Prod.fst l != if b < a then b else a)) ?_
      refine WpOps.fork 7 (Prod.fst l != if b < a then b else a) [32, 33, 34, 35, 36, 37, 38] 38 (true) (Prod.fst (Prod.snd l) != if b > a then b else a) (by kernel_rfl) (fun g38 => ?_) (fun g38 => ?_) (fun f_38 b38 hb38 => ?_)
      · refine um 32 ?_ (hw := wants_tf g38)
        refine um 33 ?_ (hw := wants_tf g38)
        refine um 34 ?_ (hw := wants_tf g38)
        refine um 35 ?_ (hw := wants_tf g38)
        refine um 36 ?_ (hw := wants_tf g38)
        refine um 37 ?_ (hw := wants_tf g38)
        refine kp 38 (.bool true) ?_ (hop := fun _ => o_pickT g38)
        refine WpOps.nil ?_
        exact ⟨rfl, (.upd rfl (.upd rfl (.upd rfl (.upd rfl (.upd rfl (.upd rfl (.upd rfl .refl))))))), (by kernel_rfl)⟩
      · refine kp 32 (.pointer (some ⟨3, 1, none⟩)) ?_ (hw := wants_ff g38)
        refine kp 33 (.int IntKind.i64 (Prod.fst (Prod.snd l))) ?_ (hw := wants_ff g38)
        refine kp 34 (.int IntKind.i64 a) ?_ (hw := wants_ff g38)
        refine kp 35 (.int IntKind.i64 b) ?_ (hw := wants_ff g38)
        refine kp 36 (.int IntKind.i64 (if b > a then b else a)) ?_ (hw := wants_ff g38)
        refine kp 37 (.bool (Prod.fst (Prod.snd l) != if b > a then b else a)) ?_ (hw := wants_ff g38)
        refine kp 38 (.bool (Prod.fst (Prod.snd l) != if b > a then b else a)) ?_ (hop := fun _ => o_pickF g38)
        refine WpOps.nil ?_
        exact ⟨rfl, (.upd rfl (.upd rfl (.upd rfl (.upd rfl (.upd rfl (.upd rfl (.upd rfl .refl))))))), (by kernel_rfl)⟩
      refine WpOps.nil (thenK_at ?_)
      have hb38' := hb38.trans hno
      cases hp : hit a b l with
      | true =>
        rw [hp] at hb38'
        obtain rfl : b38 = false := hb38'
        refine off' (Wp.skip (blockK_norm (thenK_at (Wp.text ?_))))
        refine kp 18 (.int IntKind.i64 (↑k : Int)) ?_
        refine kp 19 (.int IntKind.i64 (IntKind.wrap .i64 ((↑k : Int) + 1))) ?_
        refine kp 8 (.int IntKind.i64 (IntKind.wrap .i64 ((↑k : Int) + 1))) ?_
        refine WpOps.nil (thenK_at ?_)
        refine ⟨k + 1, by omega, by omega, ?_⟩
        try dsimp only
        rw [hh hp]
        rw [oV_z h0, oB_z h0]
        exact View.of [0, 1, 2] [⟨34, true, [.int .i64 N, lks x ls]⟩, ⟨34, true, [.int .i64 0, .slice none 0 0]⟩, ⟨34, true, [.int .i64 N, .slice none 0 0]⟩] _ (by decide) rfl ⟨⟨_, by kernel_rfl, CellsOk.eq rfl (by kernel_rfl)⟩, ⟨_, by kernel_rfl, CellsOk.eq rfl (by kernel_rfl)⟩, ⟨_, by kernel_rfl, CellsOk.eq rfl (by kernel_rfl)⟩, trivial⟩ ⟨⟨by kernel_rfl, rfl⟩, ⟨by kernel_rfl, rfl⟩, ⟨by kernel_rfl, rfl⟩, ⟨by kernel_rfl, rfl⟩, ⟨by kernel_rfl, rfl⟩, ⟨congrArg (Value.int .i64) (wr _ (by omega) (by omega)), rfl⟩, trivial⟩
      | false =>
        rw [hp] at hb38'
        obtain rfl : b38 = true := hb38'
        have hm' := hm hp
        subst hK
        refine on' (Wp.text ?_)
        refine kp 39 (.pointer (some ⟨2, 1, none⟩)) ?_
        refine kp 40 (.slice none 0 0) ?_
        refine kp 41 (.agg #[Value.int .i64 (Prod.fst l), Value.int .i64 (Prod.fst (Prod.snd l)), Value.int .i64 (Prod.snd (Prod.snd l))]) ?_
        refine md 42 (.slice (some ⟨4, 0, none⟩) 1 1) (Blk.mk 48 true [Value.int .i64 (Prod.fst l), Value.int .i64 (Prod.fst (Prod.snd l)), Value.int .i64 (Prod.snd (Prod.snd l))]) ?_
        refine md 43 (.slice (some ⟨5, 0, none⟩) 1 1) (Blk.mk 48 true [Value.int .i64 (Prod.fst l), Value.int .i64 (Prod.fst (Prod.snd l)), Value.int .i64 (Prod.snd (Prod.snd l))]) ?_
        refine kp 44 (.pointer (some ⟨2, 1, none⟩)) ?_
        refine ld (.tuple #[]) (2) (Blk.mk 34 true [Value.int .i64 N, Value.slice (some ⟨5, 0, none⟩) 1 1]) ?_
        refine WpOps.nil (blockK_norm (thenK_at (Wp.text ?_)))
        refine kp 18 (.int IntKind.i64 (↑k : Int)) ?_
        refine kp 19 (.int IntKind.i64 (IntKind.wrap .i64 ((↑k : Int) + 1))) ?_
        refine kp 8 (.int IntKind.i64 (IntKind.wrap .i64 ((↑k : Int) + 1))) ?_
        refine WpOps.nil (thenK_at ?_)
        refine ⟨k + 1, by omega, by omega, ?_⟩
        try dsimp only
        rw [hm']
        rw [oV_own (by simp), oB_own (by simp)]
        exact View.of [0, 1, 2, 5] [⟨34, true, [.int .i64 N, lks x ls]⟩, ⟨34, true, [.int .i64 0, .slice none 0 0]⟩, ⟨34, true, [.int .i64 N, .slice (some ⟨3, 0, none⟩) (([] : List Lk) ++ [l]).length (([] : List Lk) ++ [l]).length]⟩, ⟨48, true, lcs (([] : List Lk) ++ [l])⟩] _ (by decide) rfl ⟨⟨_, by kernel_rfl, CellsOk.eq rfl (by kernel_rfl)⟩, ⟨_, by kernel_rfl, CellsOk.eq rfl (by kernel_rfl)⟩, ⟨[.int .i64 N, .slice (some ⟨5, 0, none⟩) 1 1], by kernel_rfl, by kernel_rfl, by kernel_rfl⟩, ⟨_, by kernel_rfl, CellsOk.eq hsn (lcs_flat _)⟩, trivial⟩ ⟨⟨by kernel_rfl, rfl⟩, ⟨by kernel_rfl, rfl⟩, ⟨by kernel_rfl, rfl⟩, ⟨by kernel_rfl, rfl⟩, ⟨by kernel_rfl, rfl⟩, ⟨congrArg (Value.int .i64) (wr _ (by omega) (by omega)), rfl⟩, trivial⟩
    · unfold oN
      rw [oV_own h0, oB_own h0]
      unfold lks
      have q1 : ¬ (K.length + 1 ≤ K.length) := by omega
      have q2 : 1 ≤ 24 ∧ (K.length + 1) * 24 ≤ 140737488355328 ∧ 3 = 3 ∧ K.length + 1 ≤ 9223372036854775807 := by omega
      have q3 := cells_whole (lcs K) (K.length * 3) (lcs_len K)
      refine Wp.seq (Wp.seq (Wp.text ?_))
      refine kp 13 (.int IntKind.i64 (↑k : Int)) ?_
      refine kp 14 (.pointer (some ⟨0, 1, none⟩)) ?_
      refine kp 15 (.iface 48 (Value.iface (List.length ls) (Value.iface x (Value.agg (List.toArray (lcs ls)))))) ?_
      refine kp 16 (.int IntKind.i64 (↑(List.length ls) : Int)) ?_
      refine kp 17 (.bool true) ?_ (hop := fun _ => by_fact d1)
      refine WpOps.nil (thenK_at (on' (Wp.skip (thenK_at (Wp.seq (Wp.block (Wp.seq (Wp.text ?_))))))))
      refine kp 20 (.pointer (some ⟨0, 1, none⟩)) ?_
      refine kp 21 (.iface 48 (Value.iface (List.length ls) (Value.iface x (Value.agg (List.toArray (lcs ls)))))) ?_
      refine kp 22 (.int IntKind.i64 (↑k : Int)) ?_
      refine kp 23 (.iface 48 (Value.iface (Int.toNat (↑k : Int) * 3) (Value.agg (List.toArray (lcs ls))))) ?_ (hop := fun _ => o_indexI (e := 48) (size := 3) (a := (↑k : Int)) g1)
      refine kp 24 (.agg #[Value.int .i64 (Prod.fst l), Value.int .i64 (Prod.fst (Prod.snd l)), Value.int .i64 (Prod.snd (Prod.snd l))]) ?_ (hop := fun _ => o_loadIA (Int.toNat (↑k : Int) * 3) v1)
      refine md 9 (.pointer (some ⟨4, 0, none⟩)) (Blk.mk 48 true [Value.int .i64 0, Value.int .i64 0, Value.int .i64 0]) ?_
      refine ld (.tuple #[]) (4) (Blk.mk 48 true [Value.int .i64 (Prod.fst l), Value.int .i64 (Prod.fst (Prod.snd l)), Value.int .i64 (Prod.snd (Prod.snd l))]) ?_
      refine WpOps.nil (thenK_at (Wp.seq (Wp.text ?_)))
      refine kp 25 (.pointer (some ⟨4, 0, none⟩)) ?_
      refine kp 26 (.int IntKind.i64 (Prod.fst l)) ?_
      refine kp 27 (.int IntKind.i64 a) ?_
      refine kp 28 (.int IntKind.i64 b) ?_
      refine kp 29 (.int IntKind.i64 (if b < a then b else a)) ?_
      refine kp 30 (.bool (Prod.fst l != if b < a then b else a)) ?_
      refine kp 31 (.bool (Prod.fst l != if b < a then b else a)) ?_
      refine WpOps.fork 7 (Prod.fst l != if b < a then b else a) [32, 33, 34, 35, 36, 37, 38] 38 (true) (Prod.fst (Prod.snd l) != if b > a then b else a) (by kernel_rfl) (fun g38 => ?_) (fun g38 => ?_) (fun f_38 b38 hb38 => ?_)
      · refine um 32 ?_ (hw := wants_tf g38)
        refine um 33 ?_ (hw := wants_tf g38)
        refine um 34 ?_ (hw := wants_tf g38)
        refine um 35 ?_ (hw := wants_tf g38)
        refine um 36 ?_ (hw := wants_tf g38)
        refine um 37 ?_ (hw := wants_tf g38)
        refine kp 38 (.bool true) ?_ (hop := fun _ => o_pickT g38)
        refine WpOps.nil ?_
        exact ⟨rfl, (.upd rfl (.upd rfl (.upd rfl (.upd rfl (.upd rfl (.upd rfl (.upd rfl .refl))))))), (by kernel_rfl)⟩
      · refine kp 32 (.pointer (some ⟨4, 1, none⟩)) ?_ (hw := wants_ff g38)
        refine kp 33 (.int IntKind.i64 (Prod.fst (Prod.snd l))) ?_ (hw := wants_ff g38)
        refine kp 34 (.int IntKind.i64 a) ?_ (hw := wants_ff g38)
        refine kp 35 (.int IntKind.i64 b) ?_ (hw := wants_ff g38)
        refine kp 36 (.int IntKind.i64 (if b > a then b else a)) ?_ (hw := wants_ff g38)
        refine kp 37 (.bool (Prod.fst (Prod.snd l) != if b > a then b else a)) ?_ (hw := wants_ff g38)
        refine kp 38 (.bool (Prod.fst (Prod.snd l) != if b > a then b else a)) ?_ (hop := fun _ => o_pickF g38)
        refine WpOps.nil ?_
        exact ⟨rfl, (.upd rfl (.upd rfl (.upd rfl (.upd rfl (.upd rfl (.upd rfl (.upd rfl .refl))))))), (by kernel_rfl)⟩
      refine WpOps.nil (thenK_at ?_)
      have hb38' := hb38.trans hno
      cases hp : hit a b l with
      | true =>
        rw [hp] at hb38'
        obtain rfl : b38 = false := hb38'
        refine off' (Wp.skip (blockK_norm (thenK_at (Wp.text ?_))))
        refine kp 18 (.int IntKind.i64 (↑k : Int)) ?_
        refine kp 19 (.int IntKind.i64 (IntKind.wrap .i64 ((↑k : Int) + 1))) ?_
        refine kp 8 (.int IntKind.i64 (IntKind.wrap .i64 ((↑k : Int) + 1))) ?_
        refine WpOps.nil (thenK_at ?_)
        refine ⟨k + 1, by omega, by omega, ?_⟩
        try dsimp only
        rw [hh hp]
        rw [oV_own h0, oB_own h0]
        exact View.of [0, 1, 2, 3] [⟨34, true, [.int .i64 N, lks x ls]⟩, ⟨34, true, [.int .i64 0, .slice none 0 0]⟩, ⟨34, true, [.int .i64 N, .slice (some ⟨3, 0, none⟩) (K).length (K).length]⟩, ⟨48, true, lcs (K)⟩] _ (by decide) rfl ⟨⟨_, by kernel_rfl, CellsOk.eq rfl (by kernel_rfl)⟩, ⟨_, by kernel_rfl, CellsOk.eq rfl (by kernel_rfl)⟩, ⟨[.int .i64 N, .slice (some ⟨3, 0, none⟩) K.length K.length], by kernel_rfl, by kernel_rfl, by kernel_rfl⟩, ⟨_, by kernel_rfl, CellsOk.eq rfl (lcs_flat _)⟩, trivial⟩ ⟨⟨by kernel_rfl, rfl⟩, ⟨by kernel_rfl, rfl⟩, ⟨by kernel_rfl, rfl⟩, ⟨by kernel_rfl, rfl⟩, ⟨by kernel_rfl, rfl⟩, ⟨congrArg (Value.int .i64) (wr _ (by omega) (by omega)), rfl⟩, trivial⟩
      | false =>
        rw [hp] at hb38'
        obtain rfl : b38 = true := hb38'
        have hm' := hm hp
        refine on' (Wp.text ?_)
        refine kp 39 (.pointer (some ⟨2, 1, none⟩)) ?_
        refine kp 40 (.slice (some ⟨3, 0, none⟩) (List.length K) (List.length K)) ?_
        refine kp 41 (.agg #[Value.int .i64 (Prod.fst l), Value.int .i64 (Prod.fst (Prod.snd l)), Value.int .i64 (Prod.snd (Prod.snd l))]) ?_
        refine md 42 (.slice (some ⟨5, 0, none⟩) 1 1) (Blk.mk 48 true [Value.int .i64 (Prod.fst l), Value.int .i64 (Prod.fst (Prod.snd l)), Value.int .i64 (Prod.snd (Prod.snd l))]) ?_
        refine ra 43 (.slice (some ⟨6, 0, none⟩) (List.length K + 1) (List.length K + 1)) (3) (Blk.mk 48 true (lcs K ++ [Value.int .i64 (Prod.fst l), Value.int .i64 (Prod.fst (Prod.snd l)), Value.int .i64 (Prod.snd (Prod.snd l))])) ?_ (hop := fun _ => o_append (e := 48) (3) (0) (List.length K) _ (List.length K) q1 q2 q3)
        refine kp 44 (.pointer (some ⟨2, 1, none⟩)) ?_
        refine ld (.tuple #[]) (2) (Blk.mk 34 true [Value.int .i64 N, Value.slice (some ⟨6, 0, none⟩) (List.length K + 1) (List.length K + 1)]) ?_
        refine WpOps.nil (blockK_norm (thenK_at (Wp.text ?_)))
        refine kp 18 (.int IntKind.i64 (↑k : Int)) ?_
        refine kp 19 (.int IntKind.i64 (IntKind.wrap .i64 ((↑k : Int) + 1))) ?_
        refine kp 8 (.int IntKind.i64 (IntKind.wrap .i64 ((↑k : Int) + 1))) ?_
        refine WpOps.nil (thenK_at ?_)
        refine ⟨k + 1, by omega, by omega, ?_⟩
        try dsimp only
        rw [hm']
        rw [oV_own (nz_len _), oB_own (nz_len _)]
        have hlen : (K ++ [l]).length = K.length + 1 := by simp
        exact View.of [0, 1, 2, 6] [⟨34, true, [.int .i64 N, lks x ls]⟩, ⟨34, true, [.int .i64 0, .slice none 0 0]⟩, ⟨34, true, [.int .i64 N, .slice (some ⟨3, 0, none⟩) (K ++ [l]).length (K ++ [l]).length]⟩, ⟨48, true, lcs (K ++ [l])⟩] _ (by decide) rfl ⟨⟨_, by kernel_rfl, CellsOk.eq rfl (by kernel_rfl)⟩, ⟨_, by kernel_rfl, CellsOk.eq rfl (by kernel_rfl)⟩, ⟨[.int .i64 N, .slice (some ⟨6, 0, none⟩) (K.length + 1) (K.length + 1)], by kernel_rfl, by rw [hlen]; rfl, by rw [hlen]; rfl⟩, ⟨_, by kernel_rfl, CellsOk.eq hsn (lcs_flat _)⟩, trivial⟩ ⟨⟨by kernel_rfl, rfl⟩, ⟨by kernel_rfl, rfl⟩, ⟨by kernel_rfl, rfl⟩, ⟨by kernel_rfl, rfl⟩, ⟨by kernel_rfl, rfl⟩, ⟨congrArg (Value.int .i64) (wr _ (by omega) (by omega)), rfl⟩, trivial⟩
  · obtain rfl : k = ls.length := by omega
    have d1 : decide (((ls.length : Nat) : Int) < ls.length) = false := decide_eq_false (by omega)
    rw [List.take_length]
    generalize cutL (hit a b) ls = K
    by_cases h0 : K.length = 0
    · have hK := List.eq_nil_of_length_eq_zero h0
      unfold oN
      rw [oV_z h0, oB_z h0]
      subst hK
      unfold lks
      refine Wp.seq (Wp.seq (Wp.text ?_))
      refine kp 13 (.int IntKind.i64 (↑(List.length ls) : Int)) ?_
      refine kp 14 (.pointer (some ⟨0, 1, none⟩)) ?_
      refine kp 15 (.iface 48 (Value.iface (List.length ls) (Value.iface x (Value.agg (List.toArray (lcs ls)))))) ?_
      refine kp 16 (.int IntKind.i64 (↑(List.length ls) : Int)) ?_
      refine kp 17 (.bool false) ?_ (hop := fun _ => by_fact d1)
      refine WpOps.nil (thenK_at (off' (Wp.exit (thenK_exit (thenK_exit (blockK_hit (thenK_at (Wp.seq (Wp.text ?_)))))))))
      refine kp 45 (.agg #[Value.int .i64 N, Value.slice none 0 0]) ?_
      refine ld (.tuple #[]) (1) (Blk.mk 34 true [Value.int .i64 N, Value.slice none 0 0]) ?_
      refine WpOps.nil (thenK_at (Wp.ret ?_))
      refine endK_retn [Value.agg #[Value.int IntKind.i64 N, Value.slice none 0 0]] (Value.agg #[Value.int IntKind.i64 N, Value.slice none 0 0]) (by kernel_rfl) (by kernel_rfl) ?_
      obtain ⟨ti, ht⟩ := E48
      exact ⟨_, by kernel_rfl, .w (.agg (.cons (.inl rfl) (.cons (.inr ⟨rfl, 48, ti, ht, rfl⟩) .nil)))⟩
    · unfold oN
      rw [oV_own h0, oB_own h0]
      unfold lks
      refine Wp.seq (Wp.seq (Wp.text ?_))
      refine kp 13 (.int IntKind.i64 (↑(List.length ls) : Int)) ?_
      refine kp 14 (.pointer (some ⟨0, 1, none⟩)) ?_
      refine kp 15 (.iface 48 (Value.iface (List.length ls) (Value.iface x (Value.agg (List.toArray (lcs ls)))))) ?_
      refine kp 16 (.int IntKind.i64 (↑(List.length ls) : Int)) ?_
      refine kp 17 (.bool false) ?_ (hop := fun _ => by_fact d1)
      refine WpOps.nil (thenK_at (off' (Wp.exit (thenK_exit (thenK_exit (blockK_hit (thenK_at (Wp.seq (Wp.text ?_)))))))))
      refine kp 45 (.agg #[Value.int .i64 N, Value.slice (some ⟨3, 0, none⟩) (List.length K) (List.length K)]) ?_
      refine ld (.tuple #[]) (1) (Blk.mk 34 true [Value.int .i64 N, Value.slice (some ⟨3, 0, none⟩) (List.length K) (List.length K)]) ?_
      refine WpOps.nil (thenK_at (Wp.ret ?_))
      refine endK_retn [Value.agg #[Value.int IntKind.i64 N, Value.slice (some (Addr.mk 3 0 none)) (List.length K) (List.length K)]] (Value.agg #[Value.int IntKind.i64 N, Value.slice (some (Addr.mk 3 0 none)) (List.length K) (List.length K)]) (by kernel_rfl) (by kernel_rfl) ?_
      refine ⟨_, net1_ice (links_ice (b := 3) (ls := K) (z := []) (by rw [List.append_nil]; rfl)), ?_⟩
      unfold xOf
      rw [if_neg h0]
      exact .w (.c (.inl rfl))
theorem f35 : E.funcs 35 = some Try.f35 := by kernel_rfl
set_option maxHeartbeats 4000000 in
theorem same35 (N : Int) (x y : Nat) (ls : List Lk) (hn : ls.length * 24 ≤ 140737488351232) (hs : ∀ k, k < ls.length → costF ls (ls.getD k (0, 0, 0)).1 (ls.getD k (0, 0, 0)).2.1 = (ls.getD k (0, 0, 0)).2.2) : Fun E 35 [netV N x ls, netV N y ls] (.bool true) := by
  refine Fun.of f35 rfl (of_decide_eq_true (by kernel_rfl)) rfl ?_
  have c0 : ∀ p q : Int, Fun E 52 [netV N y ls, .int .i64 p, .int .i64 q] (.int .i64 (costF ls p q)) := fun p q => cost52 N y ls p q (by omega)
  have d0 : (N != N) = false := by simp
  have d1 : ((ls.length : Int) != ls.length) = false := by simp
  unfold netV lks at *
  refine Wp.seq (Wp.text ?_)
  refine md 2 (.pointer (some ⟨0, 0, none⟩)) (Blk.mk 34 true [Value.int .i64 N, Value.iface 48 (Value.iface (List.length ls) (Value.iface x (Value.agg (List.toArray (lcs ls)))))]) ?_
  refine md 3 (.pointer (some ⟨1, 0, none⟩)) (Blk.mk 34 true [Value.int .i64 N, Value.iface 48 (Value.iface (List.length ls) (Value.iface y (Value.agg (List.toArray (lcs ls)))))]) ?_
  refine kp 4 (.bool false) ?_
  refine WpOps.nil (thenK_at (Wp.seq (Wp.seq (Wp.text ?_))))
  refine kp 7 (.pointer (some ⟨0, 0, none⟩)) ?_
  refine kp 8 (.int IntKind.i64 N) ?_
  refine kp 9 (.pointer (some ⟨1, 0, none⟩)) ?_
  refine kp 10 (.int IntKind.i64 N) ?_
  refine kp 11 (.bool false) ?_ (hop := fun _ => by_fact d0)
  refine kp 12 (.bool false) ?_
  refine kp 13 (.pointer (some ⟨0, 1, none⟩)) ?_
  refine kp 14 (.iface 48 (Value.iface (List.length ls) (Value.iface x (Value.agg (List.toArray (lcs ls)))))) ?_
  refine kp 15 (.int IntKind.i64 (↑(List.length ls) : Int)) ?_
  refine kp 16 (.pointer (some ⟨1, 1, none⟩)) ?_
  refine kp 17 (.iface 48 (Value.iface (List.length ls) (Value.iface y (Value.agg (List.toArray (lcs ls)))))) ?_
  refine kp 18 (.int IntKind.i64 (↑(List.length ls) : Int)) ?_
  refine kp 19 (.bool false) ?_ (hop := fun _ => by_fact d1)
  refine kp 20 (.bool false) ?_
  refine WpOps.nil (thenK_at (off' (Wp.skip (thenK_at (Wp.seq (Wp.seq (Wp.text ?_)))))))
  refine kp 5 (.int IntKind.i64 0) ?_
  refine WpOps.nil (thenK_at (Wp.block ?_))
  refine Wp.loop (G := Nat) (fun k => layj [(2, .pointer (some ⟨0, 0, none⟩)), (3, .pointer (some ⟨1, 0, none⟩)), (5, .int .i64 k)]) (fun k => heapOf [⟨34, true, [.int .i64 N, lks x ls]⟩, ⟨34, true, [.int .i64 N, lks y ls]⟩]) (fun k => ls.length - k) (fun k => k ≤ ls.length) 0
    (View.of [0, 1] [⟨34, true, [.int .i64 N, lks x ls]⟩, ⟨34, true, [.int .i64 N, lks y ls]⟩] _ (by decide) rfl ⟨⟨_, by kernel_rfl, CellsOk.eq rfl (by kernel_rfl)⟩, ⟨_, by kernel_rfl, CellsOk.eq rfl (by kernel_rfl)⟩, trivial⟩ ⟨⟨by kernel_rfl, rfl⟩, ⟨by kernel_rfl, rfl⟩, ⟨by kernel_rfl, rfl⟩, trivial⟩) (Nat.zero_le _) ?_
  intro k hk
  unfold lks
  by_cases hlt : k < ls.length
  · have d2 : decide ((k : Int) < ls.length) = true := decide_eq_true (by omega)
    have g1 : 0 ≤ (k : Int) ∧ (k : Int) < ls.length := by omega
    have v1 := lcs_cells ls k (0, 0, 0) hlt
    have hc := hs k hlt
    generalize ls.getD k (0, 0, 0) = l at v1 hc
    unfold lc at v1
    have c1 := c0 l.1 l.2.1
    rw [hc] at c1
    have d3 : (l.2.2 != l.2.2) = false := by simp
    clear c0
    refine Wp.seq (Wp.seq (Wp.text ?_))
    refine kp 21 (.int IntKind.i64 (↑k : Int)) ?_
    refine kp 22 (.pointer (some ⟨0, 1, none⟩)) ?_
    refine kp 23 (.iface 48 (Value.iface (List.length ls) (Value.iface x (Value.agg (List.toArray (lcs ls)))))) ?_
    refine kp 24 (.int IntKind.i64 (↑(List.length ls) : Int)) ?_
    refine kp 25 (.bool true) ?_ (hop := fun _ => by_fact d2)
    refine WpOps.nil (thenK_at (on' (Wp.skip (thenK_at (Wp.seq (Wp.block (Wp.seq (Wp.text ?_))))))))
    refine kp 28 (.pointer (some ⟨0, 1, none⟩)) ?_
    refine kp 29 (.iface 48 (Value.iface (List.length ls) (Value.iface x (Value.agg (List.toArray (lcs ls)))))) ?_
    refine kp 30 (.int IntKind.i64 (↑k : Int)) ?_
    refine kp 31 (.iface 48 (Value.iface (Int.toNat (↑k : Int) * 3) (Value.agg (List.toArray (lcs ls))))) ?_ (hop := fun _ => o_indexI (e := 48) (size := 3) (a := (↑k : Int)) g1)
    refine kp 32 (.agg #[Value.int .i64 (Prod.fst l), Value.int .i64 (Prod.fst (Prod.snd l)), Value.int .i64 (Prod.snd (Prod.snd l))]) ?_ (hop := fun _ => o_loadIA (Int.toNat (↑k : Int) * 3) v1)
    refine md 6 (.pointer (some ⟨2, 0, none⟩)) (Blk.mk 48 true [Value.int .i64 0, Value.int .i64 0, Value.int .i64 0]) ?_
    refine ld (.tuple #[]) (2) (Blk.mk 48 true [Value.int .i64 (Prod.fst l), Value.int .i64 (Prod.fst (Prod.snd l)), Value.int .i64 (Prod.snd (Prod.snd l))]) ?_
    refine WpOps.nil (thenK_at (Wp.seq ?_))
    refine Wp.region (by kernel_rfl) ?_
    refine kp 33 (.agg #[Value.int .i64 N, Value.iface 48 (Value.iface (List.length ls) (Value.iface y (Value.agg (List.toArray (lcs ls)))))]) ?_
    refine kp 34 (.pointer (some ⟨2, 0, none⟩)) ?_
    refine kp 35 (.int IntKind.i64 (Prod.fst l)) ?_
    refine kp 36 (.pointer (some ⟨2, 1, none⟩)) ?_
    refine kp 37 (.int IntKind.i64 (Prod.fst (Prod.snd l))) ?_
    refine fr 38 52 [Value.agg #[Value.int .i64 N, Value.iface 48 (Value.iface (List.length ls) (Value.iface y (Value.agg (List.toArray (lcs ls)))))], Value.int .i64 (Prod.fst l), Value.int .i64 (Prod.fst (Prod.snd l))] ?_
    refine WpFun.of (c1) ?_
    refine kp 39 (.pointer (some ⟨2, 2, none⟩)) ?_
    refine kp 40 (.int IntKind.i64 (Prod.snd (Prod.snd l))) ?_
    refine kp 41 (.bool false) ?_ (hop := fun _ => by_fact d3)
    refine WpOps.nil (thenK_at (off' (Wp.skip (blockK_norm (thenK_at (Wp.text ?_))))))
    refine kp 26 (.int IntKind.i64 (↑k : Int)) ?_
    refine kp 27 (.int IntKind.i64 (IntKind.wrap .i64 ((↑k : Int) + 1))) ?_
    refine kp 5 (.int IntKind.i64 (IntKind.wrap .i64 ((↑k : Int) + 1))) ?_
    refine WpOps.nil (thenK_at ?_)
    exact ⟨k + 1, by omega, by omega, View.of [0, 1] [⟨34, true, [.int .i64 N, lks x ls]⟩, ⟨34, true, [.int .i64 N, lks y ls]⟩] _ (by decide) rfl ⟨⟨_, by kernel_rfl, CellsOk.eq rfl (by kernel_rfl)⟩, ⟨_, by kernel_rfl, CellsOk.eq rfl (by kernel_rfl)⟩, trivial⟩ ⟨⟨by kernel_rfl, rfl⟩, ⟨by kernel_rfl, rfl⟩, ⟨congrArg (Value.int .i64) (wr _ (by omega) (by omega)), rfl⟩, trivial⟩⟩
  · obtain rfl : k = ls.length := by omega
    have d2 : decide (((ls.length : Nat) : Int) < ls.length) = false := decide_eq_false (by omega)
    refine Wp.seq (Wp.seq (Wp.text ?_))
    refine kp 21 (.int IntKind.i64 (↑(List.length ls) : Int)) ?_
    refine kp 22 (.pointer (some ⟨0, 1, none⟩)) ?_
    refine kp 23 (.iface 48 (Value.iface (List.length ls) (Value.iface x (Value.agg (List.toArray (lcs ls)))))) ?_
    refine kp 24 (.int IntKind.i64 (↑(List.length ls) : Int)) ?_
    refine kp 25 (.bool false) ?_ (hop := fun _ => by_fact d2)
    refine WpOps.nil (thenK_at (off' (Wp.exit (thenK_exit (thenK_exit (blockK_hit (thenK_at (Wp.seq (Wp.text ?_)))))))))
    refine kp 4 (.bool true) ?_
    refine WpOps.nil (thenK_at (Wp.ret ?_))
    refine endK_retn [Value.bool true] (Value.bool true) (by kernel_rfl) (by kernel_rfl) ?_
    rfl
end Go.Proofs.Ytfjkanjmggbofaa.D
