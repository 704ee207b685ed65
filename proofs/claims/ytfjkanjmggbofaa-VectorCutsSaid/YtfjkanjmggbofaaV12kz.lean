/- Cut of the program, whose function holds pointers; the law VectorCuts. -/
import Derived.Test.YtfjkanjmggbofaaFwLem
import Derived.Test.YtfjkanjmggbofaaFwCons
import Derived.Test.YtfjkanjmggbofaaFwEnter
import Derived.Test.YtfjkanjmggbofaaV12n
import Derived.Test.YtfjkanjmggbofaaV12o
import Derived.Test.YtfjkanjmggbofaaV12x
import Derived.Test.YtfjkanjmggbofaaV12za
namespace Go.Proofs.Ytfjkanjmggbofaa.D
open Go.Fw Go.RowKit

theorem f67 : E.funcs 67 = some Try.f67 := by kernel_rfl
theorem hit67 (l : Lk) (a b : Int) : Lent E 67 [.agg #[.int .i64 l.1, .int .i64 l.2.1, .int .i64 l.2.2], .pointer (some ⟨0, 0, none⟩), .pointer (some ⟨1, 0, none⟩)] [⟨3, true, [.int .i64 a]⟩, ⟨3, true, [.int .i64 b]⟩] (.bool (hit a b l)) [⟨3, true, [.int .i64 a]⟩, ⟨3, true, [.int .i64 b]⟩] := by
  refine Lent.of f67 rfl (of_decide_eq_true (by kernel_rfl)) rfl rfl (Nat.le_refl _) (by kernel_rfl) (by kernel_rfl) rfl ?_
  refine Wp.seq (Wp.text ?_)
  refine md 3 (.pointer (some ⟨2, 0, none⟩)) (Blk.mk 48 true [Value.int .i64 (Prod.fst l), Value.int .i64 (Prod.fst (Prod.snd l)), Value.int .i64 (Prod.snd (Prod.snd l))]) ?_
  refine kp 4 (.bool false) ?_
  refine WpOps.nil (thenK_at (Wp.seq (Wp.text ?_)))
  refine kp 5 (.pointer (some ⟨2, 0, none⟩)) ?_
  refine kp 6 (.int IntKind.i64 (Prod.fst l)) ?_
  refine kp 7 (.int IntKind.i64 a) ?_
  refine kp 8 (.int IntKind.i64 b) ?_
  refine kp 9 (.int IntKind.i64 (if b < a then b else a)) ?_
  refine kp 10 (.bool (Prod.fst l == if b < a then b else a)) ?_
  refine kp 11 (.bool (Prod.fst l == if b < a then b else a)) ?_
  refine WpOps.fork 7 (Prod.fst l == if b < a then b else a) [12, 13, 14, 15, 16, 17, 18] 18 (Prod.fst (Prod.snd l) == if b > a then b else a) (false) (by kernel_rfl) (fun g18 => ?_) (fun g18 => ?_) (fun f_18 b18 hb18 => ?_)
  · refine kp 12 (.pointer (some ⟨2, 1, none⟩)) ?_ (hw := wants_tt g18)
    refine kp 13 (.int IntKind.i64 (Prod.fst (Prod.snd l))) ?_ (hw := wants_tt g18)
    refine kp 14 (.int IntKind.i64 a) ?_ (hw := wants_tt g18)
    refine kp 15 (.int IntKind.i64 b) ?_ (hw := wants_tt g18)
    refine kp 16 (.int IntKind.i64 (if b > a then b else a)) ?_ (hw := wants_tt g18)
    refine kp 17 (.bool (Prod.fst (Prod.snd l) == if b > a then b else a)) ?_ (hw := wants_tt g18)
    refine kp 18 (.bool (Prod.fst (Prod.snd l) == if b > a then b else a)) ?_ (hop := fun _ => o_pickT g18)
    refine WpOps.nil ?_
    exact ⟨rfl, (.upd rfl (.upd rfl (.upd rfl (.upd rfl (.upd rfl (.upd rfl (.upd rfl .refl))))))), (by kernel_rfl)⟩
  · refine um 12 ?_ (hw := wants_ft g18)
    refine um 13 ?_ (hw := wants_ft g18)
    refine um 14 ?_ (hw := wants_ft g18)
    refine um 15 ?_ (hw := wants_ft g18)
    refine um 16 ?_ (hw := wants_ft g18)
    refine um 17 ?_ (hw := wants_ft g18)
    refine kp 18 (.bool false) ?_ (hop := fun _ => o_pickF g18)
    refine WpOps.nil ?_
    exact ⟨rfl, (.upd rfl (.upd rfl (.upd rfl (.upd rfl (.upd rfl (.upd rfl (.upd rfl .refl))))))), (by kernel_rfl)⟩
  refine kp 4 (.bool b18) ?_
  refine WpOps.nil (thenK_at (Wp.ret ?_))
  refine endK_retn [Value.bool b18] (Value.bool b18) (by kernel_rfl) (by kernel_rfl) ?_
  rw [hb18]
  exact ⟨[0, 1], by decide, by kernel_rfl, ⟨⟨[.int .i64 a], by kernel_rfl, toldC_flat rfl⟩, ⟨[.int .i64 b], by kernel_rfl, toldC_flat rfl⟩, trivial⟩, .w (.un rfl rfl)⟩
/-- A link is that of two ends. -/
def hitP (p q : Int) (l : Lk) : Bool := bif l.1 == p then l.2.1 == q else false
theorem f61 : E.funcs 61 = some Try.f61 := by kernel_rfl
theorem hit61 (l : Lk) (p q r : Int) : Lent E 61 [.agg #[.int .i64 l.1, .int .i64 l.2.1, .int .i64 l.2.2], .pointer (some ⟨0, 0, none⟩)] [⟨48, true, [.int .i64 p, .int .i64 q, .int .i64 r]⟩] (.bool (hitP p q l)) [⟨48, true, [.int .i64 p, .int .i64 q, .int .i64 r]⟩] := by
  refine Lent.of f61 rfl (of_decide_eq_true (by kernel_rfl)) rfl rfl (Nat.le_refl _) (by kernel_rfl) (by kernel_rfl) rfl ?_
  refine Wp.seq (Wp.text ?_)
  refine md 2 (.pointer (some ⟨1, 0, none⟩)) (Blk.mk 48 true [Value.int .i64 (Prod.fst l), Value.int .i64 (Prod.fst (Prod.snd l)), Value.int .i64 (Prod.snd (Prod.snd l))]) ?_
  refine kp 3 (.bool false) ?_
  refine WpOps.nil (thenK_at (Wp.seq (Wp.text ?_)))
  refine kp 4 (.pointer (some ⟨1, 0, none⟩)) ?_
  refine kp 5 (.int IntKind.i64 (Prod.fst l)) ?_
  refine kp 6 (.pointer (some ⟨0, 0, none⟩)) ?_
  refine kp 7 (.int IntKind.i64 p) ?_
  refine kp 8 (.bool (Prod.fst l == p)) ?_
  refine kp 9 (.bool (Prod.fst l == p)) ?_
  refine WpOps.fork 6 (Prod.fst l == p) [10, 11, 12, 13, 14, 15] 15 (Prod.fst (Prod.snd l) == q) (false) (by kernel_rfl) (fun g15 => ?_) (fun g15 => ?_) (fun f_15 b15 hb15 => ?_)
  · refine kp 10 (.pointer (some ⟨1, 1, none⟩)) ?_ (hw := wants_tt g15)
    refine kp 11 (.int IntKind.i64 (Prod.fst (Prod.snd l))) ?_ (hw := wants_tt g15)
    refine kp 12 (.pointer (some ⟨0, 1, none⟩)) ?_ (hw := wants_tt g15)
    refine kp 13 (.int IntKind.i64 q) ?_ (hw := wants_tt g15)
    refine kp 14 (.bool (Prod.fst (Prod.snd l) == q)) ?_ (hw := wants_tt g15)
    refine kp 15 (.bool (Prod.fst (Prod.snd l) == q)) ?_ (hop := fun _ => o_pickT g15)
    refine WpOps.nil ?_
    exact ⟨rfl, (.upd rfl (.upd rfl (.upd rfl (.upd rfl (.upd rfl (.upd rfl .refl)))))), (by kernel_rfl)⟩
  · refine um 10 ?_ (hw := wants_ft g15)
    refine um 11 ?_ (hw := wants_ft g15)
    refine um 12 ?_ (hw := wants_ft g15)
    refine um 13 ?_ (hw := wants_ft g15)
    refine um 14 ?_ (hw := wants_ft g15)
    refine kp 15 (.bool false) ?_ (hop := fun _ => o_pickF g15)
    refine WpOps.nil ?_
    exact ⟨rfl, (.upd rfl (.upd rfl (.upd rfl (.upd rfl (.upd rfl (.upd rfl .refl)))))), (by kernel_rfl)⟩
  refine kp 3 (.bool b15) ?_
  refine WpOps.nil (thenK_at (Wp.ret ?_))
  refine endK_retn [Value.bool b15] (Value.bool b15) (by kernel_rfl) (by kernel_rfl) ?_
  rw [hb15]
  exact ⟨[0], by decide, by kernel_rfl, ⟨⟨[.int .i64 p, .int .i64 q, .int .i64 r], by kernel_rfl, toldC_flat rfl⟩, trivial⟩, .w (.un rfl rfl)⟩
open Go.Fw Go.RowKit

theorem f60 : E.funcs 60 = some Try.f60 := by kernel_rfl
set_option maxHeartbeats 4000000 in
theorem idx60c (N : Int) (x : Nat) (ls : List Lk) (a b : Int) (fi : Nat) (hn : ls.length ≤ 17592186044416) (hn0 : 0 < ls.length) (h1 : fi ≤ ls.length) (h2 : ∀ j, j < fi → hit a b (ls.getD j (0, 0, 0)) = false) (h3 : fi < ls.length → hit a b (ls.getD fi (0, 0, 0)) = true) :
    SCall E 60 [.slice (some ⟨4, 0, none⟩) ls.length ls.length, .func (.func 67) #[] #[.pointer (some ⟨1, 0, none⟩), .pointer (some ⟨2, 0, none⟩)]] (heapOf [⟨24, true, [.int .i64 N, lks x ls]⟩, ⟨3, true, [.int .i64 a]⟩, ⟨3, true, [.int .i64 b]⟩, ⟨24, true, [.int .i64 0, .slice none 0 0]⟩, ⟨48, true, lcs ls⟩]) (.int .i64 (if fi < ls.length then (fi : Int) else -1)) (heapOf [⟨24, true, [.int .i64 N, lks x ls]⟩, ⟨3, true, [.int .i64 a]⟩, ⟨3, true, [.int .i64 b]⟩, ⟨24, true, [.int .i64 0, .slice none 0 0]⟩, ⟨48, true, lcs ls⟩]) := by
  refine SCall.enterL f60 rfl (of_decide_eq_true (by kernel_rfl)) (by kernel_rfl) (by kernel_rfl) (Nat.le_refl _) ?_
  have hb1 : ls.length ≠ 0 := by omega
  refine Wp.seq (Wp.text ?_)
  refine kp 4 (.int IntKind.i64 0) ?_
  refine WpOps.nil (thenK_at (Wp.seq (Wp.seq (Wp.text ?_))))
  refine kp 6 (.slice (some ⟨4, 0, none⟩) (List.length ls) (List.length ls)) ?_
  refine kp 7 (.int IntKind.i64 (↑(List.length ls) : Int)) ?_
  refine kp 8 (.int IntKind.i64 0) ?_
  refine WpOps.nil (thenK_at (Wp.block ?_))
  refine Wp.loop (G := Nat) (fun k => layj [(0, .slice (some ⟨4, 0, none⟩) ls.length ls.length), (1, .func (.func 67) #[] #[.pointer (some ⟨1, 0, none⟩), .pointer (some ⟨2, 0, none⟩)]), (7, .int .i64 ls.length), (8, .int .i64 k)]) (fun _ => heapOf [⟨24, true, [.int .i64 N, lks x ls]⟩, ⟨3, true, [.int .i64 a]⟩, ⟨3, true, [.int .i64 b]⟩, ⟨24, true, [.int .i64 0, .slice none 0 0]⟩, ⟨48, true, lcs ls⟩]) (fun k => ls.length - k) (fun k => k ≤ fi) 0
    (View.of [0, 1, 2, 3, 4] [⟨24, true, [.int .i64 N, lks x ls]⟩, ⟨3, true, [.int .i64 a]⟩, ⟨3, true, [.int .i64 b]⟩, ⟨24, true, [.int .i64 0, .slice none 0 0]⟩, ⟨48, true, lcs ls⟩] _ (by decide) rfl ⟨⟨_, rfl, CellsOk.eq rfl (by kernel_rfl)⟩, ⟨_, rfl, CellsOk.eq rfl (by kernel_rfl)⟩, ⟨_, rfl, CellsOk.eq rfl (by kernel_rfl)⟩, ⟨_, rfl, CellsOk.eq rfl (by kernel_rfl)⟩, ⟨_, rfl, CellsOk.eq rfl (lcs_flat _)⟩, trivial⟩ ⟨⟨by kernel_rfl, rfl⟩, ⟨by kernel_rfl, rfl⟩, ⟨by kernel_rfl, rfl⟩, ⟨by kernel_rfl, rfl⟩, trivial⟩) (Nat.zero_le _) ?_
  intro k hk
  by_cases hlt : k < ls.length
  · have d1 : decide ((k : Int) < ls.length) = true := decide_eq_true (by omega)
    have g1 : 0 ≤ (k : Int) ∧ (k : Int) < ls.length := by omega
    have v1 : cellsAt (lcs ls) (0 + (k : Int).toNat * 3) 3 = some [.int .i64 (ls.getD k (0, 0, 0)).1, .int .i64 (ls.getD k (0, 0, 0)).2.1, .int .i64 (ls.getD k (0, 0, 0)).2.2] := by
      rw [Nat.zero_add]
      exact lcs_cells ls k (0, 0, 0) hlt
    have c1 := hit67 (ls.getD k (0, 0, 0)) a b
    by_cases hkf : k = fi
    · have hP := h3 (by omega)
      rw [← hkf] at hP
      rw [hP] at c1
      rw [if_pos (by omega), ← hkf]
      refine Wp.seq (Wp.text ?_)
      refine kp 9 (.bool true) ?_ (hop := fun _ => by_fact d1)
      refine WpOps.nil (thenK_at (Wp.seq (on' (Wp.skip (thenK_at (Wp.seq (Wp.block (Wp.seq (Wp.text ?_)))))))))
      refine kp 10 (.int IntKind.i64 (↑k : Int)) ?_
      refine kp 5 (.int IntKind.i64 (↑k : Int)) ?_
      refine WpOps.nil (thenK_at (Wp.seq (Wp.text ?_)))
      refine kp 11 (.func (Fn.func 67) #[] #[Value.pointer (some ⟨1, 0, none⟩), Value.pointer (some ⟨2, 0, none⟩)]) ?_
      refine kp 12 (.slice (some ⟨4, 0, none⟩) (List.length ls) (List.length ls)) ?_
      refine kp 13 (.int IntKind.i64 (↑k : Int)) ?_
      refine kp 14 (.pointer (some (Addr.mk 4 (0 + Int.toNat (↑k : Int) * 3) none))) ?_ (hop := fun _ => o_indexAddr (a := (↑k : Int)) (bl := 4) (off := 0) (size := 3) 48 (List.length ls) g1)
      refine kp 15 (.agg #[Value.int .i64 (Prod.fst (List.getD ls k (0, 0, 0))), Value.int .i64 (Prod.fst (Prod.snd (List.getD ls k (0, 0, 0)))), Value.int .i64 (Prod.snd (Prod.snd (List.getD ls k (0, 0, 0))))]) ?_ (hop := fun _ => o_loadA (4) (0 + Int.toNat (↑k : Int) * 3) v1)
      refine cl 16 67 [Value.agg #[Value.int .i64 (Prod.fst (List.getD ls k (0, 0, 0))), Value.int .i64 (Prod.fst (Prod.snd (List.getD ls k (0, 0, 0)))), Value.int .i64 (Prod.snd (Prod.snd (List.getD ls k (0, 0, 0))))], Value.pointer (some ⟨1, 0, none⟩), Value.pointer (some ⟨2, 0, none⟩)] ?_
      refine WpCall.lent [1, 2] (c1) (by decide) ⟨⟨[Value.int IntKind.i64 a], (by kernel_rfl), (by kernel_rfl), (by kernel_rfl)⟩, ⟨⟨[Value.int IntKind.i64 b], (by kernel_rfl), (by kernel_rfl), (by kernel_rfl)⟩, trivial⟩⟩ (by kernel_rfl) (Value.bool true) ([Blk.mk 3 true [Value.int IntKind.i64 a], Blk.mk 3 true [Value.int IntKind.i64 b]]) (.cons (by kernel_rfl) (.cons (by kernel_rfl) .nil)) (by kernel_rfl) (Heap.set (Heap.set (heapOf [Blk.mk 24 true [Value.int IntKind.i64 N, lks x ls], Blk.mk 3 true [Value.int IntKind.i64 a], Blk.mk 3 true [Value.int IntKind.i64 b], Blk.mk 24 true [Value.int IntKind.i64 0, Value.slice none 0 0], Blk.mk 48 true (lcs ls)]) 1 (some (Blk.mk 3 true [Value.int IntKind.i64 a]))) 2 (some (Blk.mk 3 true [Value.int IntKind.i64 b]))) (by kernel_rfl) ?_
      refine WpOps.nil (thenK_at (on' (Wp.seq (Wp.text ?_))))
      refine kp 17 (.int IntKind.i64 (↑k : Int)) ?_
      refine kp 4 (.int IntKind.i64 (↑k : Int)) ?_
      refine WpOps.nil (thenK_at (Wp.ret (blockK_ret (thenK_ret (thenK_ret (blockK_ret (thenK_ret ?_)))))))
      refine endK_retn [Value.int IntKind.i64 (↑k : Int)] (Value.int IntKind.i64 (↑k : Int)) (by kernel_rfl) (by kernel_rfl) ?_
      exact ⟨[0, 1, 2, 3, 4], by decide, by kernel_rfl, ⟨⟨_, rfl, toldC_flat (by kernel_rfl)⟩, ⟨_, rfl, toldC_flat (by kernel_rfl)⟩, ⟨_, rfl, toldC_flat (by kernel_rfl)⟩, ⟨_, rfl, toldC_flat (by kernel_rfl)⟩, ⟨_, rfl, toldC_flat (lcs_flat _)⟩, trivial⟩, .w (.un rfl rfl)⟩
    · rw [h2 k (by omega)] at c1
      refine Wp.seq (Wp.text ?_)
      refine kp 9 (.bool true) ?_ (hop := fun _ => by_fact d1)
      refine WpOps.nil (thenK_at (Wp.seq (on' (Wp.skip (thenK_at (Wp.seq (Wp.block (Wp.seq (Wp.text ?_)))))))))
      refine kp 10 (.int IntKind.i64 (↑k : Int)) ?_
      refine kp 5 (.int IntKind.i64 (↑k : Int)) ?_
      refine WpOps.nil (thenK_at (Wp.seq (Wp.text ?_)))
      refine kp 11 (.func (Fn.func 67) #[] #[Value.pointer (some ⟨1, 0, none⟩), Value.pointer (some ⟨2, 0, none⟩)]) ?_
      refine kp 12 (.slice (some ⟨4, 0, none⟩) (List.length ls) (List.length ls)) ?_
      refine kp 13 (.int IntKind.i64 (↑k : Int)) ?_
      refine kp 14 (.pointer (some (Addr.mk 4 (0 + Int.toNat (↑k : Int) * 3) none))) ?_ (hop := fun _ => o_indexAddr (a := (↑k : Int)) (bl := 4) (off := 0) (size := 3) 48 (List.length ls) g1)
      refine kp 15 (.agg #[Value.int .i64 (Prod.fst (List.getD ls k (0, 0, 0))), Value.int .i64 (Prod.fst (Prod.snd (List.getD ls k (0, 0, 0)))), Value.int .i64 (Prod.snd (Prod.snd (List.getD ls k (0, 0, 0))))]) ?_ (hop := fun _ => o_loadA (4) (0 + Int.toNat (↑k : Int) * 3) v1)
      refine cl 16 67 [Value.agg #[Value.int .i64 (Prod.fst (List.getD ls k (0, 0, 0))), Value.int .i64 (Prod.fst (Prod.snd (List.getD ls k (0, 0, 0)))), Value.int .i64 (Prod.snd (Prod.snd (List.getD ls k (0, 0, 0))))], Value.pointer (some ⟨1, 0, none⟩), Value.pointer (some ⟨2, 0, none⟩)] ?_
      refine WpCall.lent [1, 2] (c1) (by decide) ⟨⟨[Value.int IntKind.i64 a], (by kernel_rfl), (by kernel_rfl), (by kernel_rfl)⟩, ⟨⟨[Value.int IntKind.i64 b], (by kernel_rfl), (by kernel_rfl), (by kernel_rfl)⟩, trivial⟩⟩ (by kernel_rfl) (Value.bool false) ([Blk.mk 3 true [Value.int IntKind.i64 a], Blk.mk 3 true [Value.int IntKind.i64 b]]) (.cons (by kernel_rfl) (.cons (by kernel_rfl) .nil)) (by kernel_rfl) (Heap.set (Heap.set (heapOf [Blk.mk 24 true [Value.int IntKind.i64 N, lks x ls], Blk.mk 3 true [Value.int IntKind.i64 a], Blk.mk 3 true [Value.int IntKind.i64 b], Blk.mk 24 true [Value.int IntKind.i64 0, Value.slice none 0 0], Blk.mk 48 true (lcs ls)]) 1 (some (Blk.mk 3 true [Value.int IntKind.i64 a]))) 2 (some (Blk.mk 3 true [Value.int IntKind.i64 b]))) (by kernel_rfl) ?_
      refine WpOps.nil (thenK_at (off' (Wp.skip (blockK_norm (thenK_at (Wp.text ?_))))))
      refine kp 18 (.int IntKind.i64 (IntKind.wrap .i64 ((↑k : Int) + 1))) ?_
      refine kp 8 (.int IntKind.i64 (IntKind.wrap .i64 ((↑k : Int) + 1))) ?_
      refine WpOps.nil (thenK_at ?_)
      exact ⟨k + 1, by omega, by omega, View.of [0, 1, 2, 3, 4] [⟨24, true, [.int .i64 N, lks x ls]⟩, ⟨3, true, [.int .i64 a]⟩, ⟨3, true, [.int .i64 b]⟩, ⟨24, true, [.int .i64 0, .slice none 0 0]⟩, ⟨48, true, lcs ls⟩] _ (by decide) rfl ⟨⟨_, rfl, CellsOk.eq rfl (by kernel_rfl)⟩, ⟨_, rfl, CellsOk.eq rfl (by kernel_rfl)⟩, ⟨_, rfl, CellsOk.eq rfl (by kernel_rfl)⟩, ⟨_, rfl, CellsOk.eq rfl (by kernel_rfl)⟩, ⟨_, rfl, CellsOk.eq rfl (lcs_flat _)⟩, trivial⟩ ⟨⟨by kernel_rfl, rfl⟩, ⟨by kernel_rfl, rfl⟩, ⟨by kernel_rfl, rfl⟩, ⟨congrArg (Value.int .i64) (wr _ (by omega) (by omega)), rfl⟩, trivial⟩⟩
  · obtain rfl : fi = k := by omega
    have d1 : decide ((fi : Int) < ls.length) = false := decide_eq_false (by omega)
    rw [if_neg (by omega)]
    refine Wp.seq (Wp.text ?_)
    refine kp 9 (.bool false) ?_ (hop := fun _ => by_fact d1)
    refine WpOps.nil (thenK_at (Wp.seq (off' (Wp.exit (thenK_exit (thenK_exit (blockK_hit (thenK_at (Wp.seq (Wp.text ?_))))))))))
    refine kp 4 (.int IntKind.i64 (-1)) ?_
    refine WpOps.nil (thenK_at (Wp.ret ?_))
    refine endK_retn [Value.int IntKind.i64 (-1)] (Value.int IntKind.i64 (-1)) (by kernel_rfl) (by kernel_rfl) ?_
    exact ⟨[0, 1, 2, 3, 4], by decide, by kernel_rfl, ⟨⟨_, rfl, toldC_flat (by kernel_rfl)⟩, ⟨_, rfl, toldC_flat (by kernel_rfl)⟩, ⟨_, rfl, toldC_flat (by kernel_rfl)⟩, ⟨_, rfl, toldC_flat (by kernel_rfl)⟩, ⟨_, rfl, toldC_flat (lcs_flat _)⟩, trivial⟩, .w (.un rfl rfl)⟩
set_option maxHeartbeats 4000000 in
theorem idx60j (N : Int) (x : Nat) (ls : List Lk) (p q r : Int) (fi : Nat) (hn : ls.length ≤ 17592186044416) (hn0 : 0 < ls.length) (h1 : fi ≤ ls.length) (h2 : ∀ j, j < fi → hitP p q (ls.getD j (0, 0, 0)) = false) (h3 : fi < ls.length → hitP p q (ls.getD fi (0, 0, 0)) = true) :
    SCall E 60 [.slice (some ⟨3, 0, none⟩) ls.length ls.length, .func (.func 61) #[] #[.pointer (some ⟨2, 0, none⟩)]] (heapOf [⟨24, true, [.int .i64 N, lks x ls]⟩, ⟨24, true, [.int .i64 0, .slice none 0 0]⟩, ⟨48, true, [.int .i64 p, .int .i64 q, .int .i64 r]⟩, ⟨48, true, lcs ls⟩, ⟨24, true, [.int .i64 N, .slice (some ⟨3, 0, none⟩) ls.length ls.length]⟩]) (.int .i64 (if fi < ls.length then (fi : Int) else -1)) (heapOf [⟨24, true, [.int .i64 N, lks x ls]⟩, ⟨24, true, [.int .i64 0, .slice none 0 0]⟩, ⟨48, true, [.int .i64 p, .int .i64 q, .int .i64 r]⟩, ⟨48, true, lcs ls⟩, ⟨24, true, [.int .i64 N, .slice (some ⟨3, 0, none⟩) ls.length ls.length]⟩]) := by
  refine SCall.enterL f60 rfl (of_decide_eq_true (by kernel_rfl)) (by kernel_rfl) (by kernel_rfl) (Nat.le_refl _) ?_
  have hb1 : ls.length ≠ 0 := by omega
  refine Wp.seq (Wp.text ?_)
  refine kp 4 (.int IntKind.i64 0) ?_
  refine WpOps.nil (thenK_at (Wp.seq (Wp.seq (Wp.text ?_))))
  refine kp 6 (.slice (some ⟨3, 0, none⟩) (List.length ls) (List.length ls)) ?_
  refine kp 7 (.int IntKind.i64 (↑(List.length ls) : Int)) ?_
  refine kp 8 (.int IntKind.i64 0) ?_
  refine WpOps.nil (thenK_at (Wp.block ?_))
  refine Wp.loop (G := Nat) (fun k => layj [(0, .slice (some ⟨3, 0, none⟩) ls.length ls.length), (1, .func (.func 61) #[] #[.pointer (some ⟨2, 0, none⟩)]), (7, .int .i64 ls.length), (8, .int .i64 k)]) (fun _ => heapOf [⟨24, true, [.int .i64 N, lks x ls]⟩, ⟨24, true, [.int .i64 0, .slice none 0 0]⟩, ⟨48, true, [.int .i64 p, .int .i64 q, .int .i64 r]⟩, ⟨48, true, lcs ls⟩, ⟨24, true, [.int .i64 N, .slice (some ⟨3, 0, none⟩) ls.length ls.length]⟩]) (fun k => ls.length - k) (fun k => k ≤ fi) 0
    (View.of [0, 1, 2, 3, 4] [⟨24, true, [.int .i64 N, lks x ls]⟩, ⟨24, true, [.int .i64 0, .slice none 0 0]⟩, ⟨48, true, [.int .i64 p, .int .i64 q, .int .i64 r]⟩, ⟨48, true, lcs ls⟩, ⟨24, true, [.int .i64 N, .slice (some ⟨3, 0, none⟩) ls.length ls.length]⟩] _ (by decide) rfl ⟨⟨_, rfl, CellsOk.eq rfl (by kernel_rfl)⟩, ⟨_, rfl, CellsOk.eq rfl (by kernel_rfl)⟩, ⟨_, rfl, CellsOk.eq rfl (by kernel_rfl)⟩, ⟨_, rfl, CellsOk.eq rfl (lcs_flat _)⟩, ⟨[.int .i64 N, .slice (some ⟨3, 0, none⟩) ls.length ls.length], by kernel_rfl, by kernel_rfl, by kernel_rfl⟩, trivial⟩ ⟨⟨by kernel_rfl, rfl⟩, ⟨by kernel_rfl, rfl⟩, ⟨by kernel_rfl, rfl⟩, ⟨by kernel_rfl, rfl⟩, trivial⟩) (Nat.zero_le _) ?_
  intro k hk
  by_cases hlt : k < ls.length
  · have d1 : decide ((k : Int) < ls.length) = true := decide_eq_true (by omega)
    have g1 : 0 ≤ (k : Int) ∧ (k : Int) < ls.length := by omega
    have v1 : cellsAt (lcs ls) (0 + (k : Int).toNat * 3) 3 = some [.int .i64 (ls.getD k (0, 0, 0)).1, .int .i64 (ls.getD k (0, 0, 0)).2.1, .int .i64 (ls.getD k (0, 0, 0)).2.2] := by
      rw [Nat.zero_add]
      exact lcs_cells ls k (0, 0, 0) hlt
    have c1 := hit61 (ls.getD k (0, 0, 0)) p q r
    by_cases hkf : k = fi
    · have hP := h3 (by omega)
      rw [← hkf] at hP
      rw [hP] at c1
      rw [if_pos (by omega), ← hkf]
      refine Wp.seq (Wp.text ?_)
      refine kp 9 (.bool true) ?_ (hop := fun _ => by_fact d1)
      refine WpOps.nil (thenK_at (Wp.seq (on' (Wp.skip (thenK_at (Wp.seq (Wp.block (Wp.seq (Wp.text ?_)))))))))
      refine kp 10 (.int IntKind.i64 (↑k : Int)) ?_
      refine kp 5 (.int IntKind.i64 (↑k : Int)) ?_
      refine WpOps.nil (thenK_at (Wp.seq (Wp.text ?_)))
      refine kp 11 (.func (Fn.func 61) #[] #[Value.pointer (some ⟨2, 0, none⟩)]) ?_
      refine kp 12 (.slice (some ⟨3, 0, none⟩) (List.length ls) (List.length ls)) ?_
      refine kp 13 (.int IntKind.i64 (↑k : Int)) ?_
      refine kp 14 (.pointer (some (Addr.mk 3 (0 + Int.toNat (↑k : Int) * 3) none))) ?_ (hop := fun _ => o_indexAddr (a := (↑k : Int)) (bl := 3) (off := 0) (size := 3) 48 (List.length ls) g1)
      refine kp 15 (.agg #[Value.int .i64 (Prod.fst (List.getD ls k (0, 0, 0))), Value.int .i64 (Prod.fst (Prod.snd (List.getD ls k (0, 0, 0)))), Value.int .i64 (Prod.snd (Prod.snd (List.getD ls k (0, 0, 0))))]) ?_ (hop := fun _ => o_loadA (3) (0 + Int.toNat (↑k : Int) * 3) v1)
      refine cl 16 61 [Value.agg #[Value.int .i64 (Prod.fst (List.getD ls k (0, 0, 0))), Value.int .i64 (Prod.fst (Prod.snd (List.getD ls k (0, 0, 0)))), Value.int .i64 (Prod.snd (Prod.snd (List.getD ls k (0, 0, 0))))], Value.pointer (some ⟨2, 0, none⟩)] ?_
      refine WpCall.lent [2] (c1) (by decide) ⟨⟨[Value.int IntKind.i64 p, Value.int IntKind.i64 q, Value.int IntKind.i64 r], (by kernel_rfl), (by kernel_rfl), (by kernel_rfl)⟩, trivial⟩ (by kernel_rfl) (Value.bool true) ([Blk.mk 48 true [Value.int IntKind.i64 p, Value.int IntKind.i64 q, Value.int IntKind.i64 r]]) (.cons (by kernel_rfl) .nil) (by kernel_rfl) (Heap.set (heapOf [Blk.mk 24 true [Value.int IntKind.i64 N, lks x ls], Blk.mk 24 true [Value.int IntKind.i64 0, Value.slice none 0 0], Blk.mk 48 true [Value.int IntKind.i64 p, Value.int IntKind.i64 q, Value.int IntKind.i64 r], Blk.mk 48 true (lcs ls), Blk.mk 24 true [Value.int IntKind.i64 N, Value.slice (some (Addr.mk 3 0 none)) (List.length ls) (List.length ls)]]) 2 (some (Blk.mk 48 true [Value.int IntKind.i64 p, Value.int IntKind.i64 q, Value.int IntKind.i64 r]))) (by kernel_rfl) ?_
      refine WpOps.nil (thenK_at (on' (Wp.seq (Wp.text ?_))))
      refine kp 17 (.int IntKind.i64 (↑k : Int)) ?_
      refine kp 4 (.int IntKind.i64 (↑k : Int)) ?_
      refine WpOps.nil (thenK_at (Wp.ret (blockK_ret (thenK_ret (thenK_ret (blockK_ret (thenK_ret ?_)))))))
      refine endK_retn [Value.int IntKind.i64 (↑k : Int)] (Value.int IntKind.i64 (↑k : Int)) (by kernel_rfl) (by kernel_rfl) ?_
      exact ⟨[0, 1, 2, 3, 4], by decide, by kernel_rfl, ⟨⟨_, rfl, toldC_flat (by kernel_rfl)⟩, ⟨_, rfl, toldC_flat (by kernel_rfl)⟩, ⟨_, rfl, toldC_flat (by kernel_rfl)⟩, ⟨_, rfl, toldC_flat (lcs_flat _)⟩, ⟨[.int .i64 N, .slice (some ⟨3, 0, none⟩) ls.length ls.length], rfl, .cons (.inl ⟨rfl, rfl⟩) (.cons (.inl ⟨rfl, rfl⟩) .nil)⟩, trivial⟩, .w (.un rfl rfl)⟩
    · rw [h2 k (by omega)] at c1
      refine Wp.seq (Wp.text ?_)
      refine kp 9 (.bool true) ?_ (hop := fun _ => by_fact d1)
      refine WpOps.nil (thenK_at (Wp.seq (on' (Wp.skip (thenK_at (Wp.seq (Wp.block (Wp.seq (Wp.text ?_)))))))))
      refine kp 10 (.int IntKind.i64 (↑k : Int)) ?_
      refine kp 5 (.int IntKind.i64 (↑k : Int)) ?_
      refine WpOps.nil (thenK_at (Wp.seq (Wp.text ?_)))
      refine kp 11 (.func (Fn.func 61) #[] #[Value.pointer (some ⟨2, 0, none⟩)]) ?_
      refine kp 12 (.slice (some ⟨3, 0, none⟩) (List.length ls) (List.length ls)) ?_
      refine kp 13 (.int IntKind.i64 (↑k : Int)) ?_
      refine kp 14 (.pointer (some (Addr.mk 3 (0 + Int.toNat (↑k : Int) * 3) none))) ?_ (hop := fun _ => o_indexAddr (a := (↑k : Int)) (bl := 3) (off := 0) (size := 3) 48 (List.length ls) g1)
      refine kp 15 (.agg #[Value.int .i64 (Prod.fst (List.getD ls k (0, 0, 0))), Value.int .i64 (Prod.fst (Prod.snd (List.getD ls k (0, 0, 0)))), Value.int .i64 (Prod.snd (Prod.snd (List.getD ls k (0, 0, 0))))]) ?_ (hop := fun _ => o_loadA (3) (0 + Int.toNat (↑k : Int) * 3) v1)
      refine cl 16 61 [Value.agg #[Value.int .i64 (Prod.fst (List.getD ls k (0, 0, 0))), Value.int .i64 (Prod.fst (Prod.snd (List.getD ls k (0, 0, 0)))), Value.int .i64 (Prod.snd (Prod.snd (List.getD ls k (0, 0, 0))))], Value.pointer (some ⟨2, 0, none⟩)] ?_
      refine WpCall.lent [2] (c1) (by decide) ⟨⟨[Value.int IntKind.i64 p, Value.int IntKind.i64 q, Value.int IntKind.i64 r], (by kernel_rfl), (by kernel_rfl), (by kernel_rfl)⟩, trivial⟩ (by kernel_rfl) (Value.bool false) ([Blk.mk 48 true [Value.int IntKind.i64 p, Value.int IntKind.i64 q, Value.int IntKind.i64 r]]) (.cons (by kernel_rfl) .nil) (by kernel_rfl) (Heap.set (heapOf [Blk.mk 24 true [Value.int IntKind.i64 N, lks x ls], Blk.mk 24 true [Value.int IntKind.i64 0, Value.slice none 0 0], Blk.mk 48 true [Value.int IntKind.i64 p, Value.int IntKind.i64 q, Value.int IntKind.i64 r], Blk.mk 48 true (lcs ls), Blk.mk 24 true [Value.int IntKind.i64 N, Value.slice (some (Addr.mk 3 0 none)) (List.length ls) (List.length ls)]]) 2 (some (Blk.mk 48 true [Value.int IntKind.i64 p, Value.int IntKind.i64 q, Value.int IntKind.i64 r]))) (by kernel_rfl) ?_
      refine WpOps.nil (thenK_at (off' (Wp.skip (blockK_norm (thenK_at (Wp.text ?_))))))
      refine kp 18 (.int IntKind.i64 (IntKind.wrap .i64 ((↑k : Int) + 1))) ?_
      refine kp 8 (.int IntKind.i64 (IntKind.wrap .i64 ((↑k : Int) + 1))) ?_
      refine WpOps.nil (thenK_at ?_)
      exact ⟨k + 1, by omega, by omega, View.of [0, 1, 2, 3, 4] [⟨24, true, [.int .i64 N, lks x ls]⟩, ⟨24, true, [.int .i64 0, .slice none 0 0]⟩, ⟨48, true, [.int .i64 p, .int .i64 q, .int .i64 r]⟩, ⟨48, true, lcs ls⟩, ⟨24, true, [.int .i64 N, .slice (some ⟨3, 0, none⟩) ls.length ls.length]⟩] _ (by decide) rfl ⟨⟨_, rfl, CellsOk.eq rfl (by kernel_rfl)⟩, ⟨_, rfl, CellsOk.eq rfl (by kernel_rfl)⟩, ⟨_, rfl, CellsOk.eq rfl (by kernel_rfl)⟩, ⟨_, rfl, CellsOk.eq rfl (lcs_flat _)⟩, ⟨[.int .i64 N, .slice (some ⟨3, 0, none⟩) ls.length ls.length], by kernel_rfl, by kernel_rfl, by kernel_rfl⟩, trivial⟩ ⟨⟨by kernel_rfl, rfl⟩, ⟨by kernel_rfl, rfl⟩, ⟨by kernel_rfl, rfl⟩, ⟨congrArg (Value.int .i64) (wr _ (by omega) (by omega)), rfl⟩, trivial⟩⟩
  · obtain rfl : fi = k := by omega
    have d1 : decide ((fi : Int) < ls.length) = false := decide_eq_false (by omega)
    rw [if_neg (by omega)]
    refine Wp.seq (Wp.text ?_)
    refine kp 9 (.bool false) ?_ (hop := fun _ => by_fact d1)
    refine WpOps.nil (thenK_at (Wp.seq (off' (Wp.exit (thenK_exit (thenK_exit (blockK_hit (thenK_at (Wp.seq (Wp.text ?_))))))))))
    refine kp 4 (.int IntKind.i64 (-1)) ?_
    refine WpOps.nil (thenK_at (Wp.ret ?_))
    refine endK_retn [Value.int IntKind.i64 (-1)] (Value.int IntKind.i64 (-1)) (by kernel_rfl) (by kernel_rfl) ?_
    exact ⟨[0, 1, 2, 3, 4], by decide, by kernel_rfl, ⟨⟨_, rfl, toldC_flat (by kernel_rfl)⟩, ⟨_, rfl, toldC_flat (by kernel_rfl)⟩, ⟨_, rfl, toldC_flat (by kernel_rfl)⟩, ⟨_, rfl, toldC_flat (lcs_flat _)⟩, ⟨[.int .i64 N, .slice (some ⟨3, 0, none⟩) ls.length ls.length], rfl, .cons (.inl ⟨rfl, rfl⟩) (.cons (.inl ⟨rfl, rfl⟩) .nil)⟩, trivial⟩, .w (.un rfl rfl)⟩
open Go.Fw Go.RowKit

/-- The links that are not meant. -/
def cutL (P : Lk → Bool) (ls : List Lk) : List Lk := ls.filter fun l => !P l
theorem take_snoc (ls : List Lk) (j : Nat) (h : j < ls.length) : ls.take (j + 1) = ls.take j ++ [ls.getD j (0, 0, 0)] := by
  rw [List.take_add_one, List.getElem?_eq_getElem h]
  simp [List.getD_eq_getElem?_getD, List.getElem?_eq_getElem h]
theorem cutL_hit {P : Lk → Bool} {ls : List Lk} {j : Nat} (h : j < ls.length) (hp : P (ls.getD j (0, 0, 0)) = true) : cutL P (ls.take (j + 1)) = cutL P (ls.take j) := by
  rw [take_snoc ls j h]
  unfold cutL
  rw [List.filter_append, List.filter_cons_of_neg (by simp only [hp]; decide)]
  simp
theorem cutL_miss {P : Lk → Bool} {ls : List Lk} {j : Nat} (h : j < ls.length) (hp : P (ls.getD j (0, 0, 0)) = false) : cutL P (ls.take (j + 1)) = cutL P (ls.take j) ++ [ls.getD j (0, 0, 0)] := by
  rw [take_snoc ls j h]
  unfold cutL
  rw [List.filter_append, List.filter_cons_of_pos (by simp only [hp]; decide)]
  simp
theorem cutL_all {P : Lk → Bool} {ls : List Lk} (h : ∀ j, j < ls.length → P (ls.getD j (0, 0, 0)) = false) : cutL P ls = ls := by
  unfold cutL
  rw [List.filter_eq_self]
  intro l hl
  obtain ⟨k, hk, rfl⟩ := List.getElem_of_mem hl
  have := h k hk
  rw [List.getD_eq_getElem?_getD, List.getElem?_eq_getElem hk] at this
  have h2 : P ls[k] = false := this
  simp only [h2, Bool.not_false]
theorem cutL_take_len (P : Lk → Bool) (ls : List Lk) (j : Nat) : (cutL P (ls.take j)).length ≤ j := by
  unfold cutL
  have h1 := List.length_filter_le (fun l => !P l) (ls.take j)
  have h2 : (ls.take j).length ≤ j := by rw [List.length_take]; omega
  omega
theorem cutL_first {P : Lk → Bool} {ls : List Lk} : ∀ fi, fi ≤ ls.length → (∀ j, j < fi → P (ls.getD j (0, 0, 0)) = false) → cutL P (ls.take fi) = ls.take fi
  | 0, _, _ => rfl
  | k + 1, h, hp => by
    rw [cutL_miss (by omega) (hp k (by omega)), cutL_first k (by omega) (fun j hj => hp j (by omega)), ← take_snoc ls k (by omega)]
theorem lcs_set : ∀ (l : List Lk) (k : Nat) (a b c : Int), (((lcs l).set (k * 3) (.int .i64 a)).set (k * 3 + 1) (.int .i64 b)).set (k * 3 + 2) (.int .i64 c) = lcs (l.set k (a, b, c))
  | [], _, _, _, _ => rfl
  | r :: l, 0, a, b, c => rfl
  | r :: l, k + 1, a, b, c => by
    have ih := lcs_set l k a b c
    unfold lcs at ih ⊢
    rw [List.set_cons_succ, List.flatMap_cons, List.flatMap_cons, ← ih]
    have e : (k + 1) * 3 = k * 3 + 3 := by omega
    rw [e]
    rfl
theorem lcs_append (l m : List Lk) : lcs (l ++ m) = lcs l ++ lcs m := by
  unfold lcs
  rw [List.flatMap_append]
theorem lcs_take (l : List Lk) (m : Nat) : (lcs l).take (m * 3) = lcs (l.take m) := by
  by_cases h : m ≤ l.length
  · have e : lcs l = lcs (l.take m) ++ lcs (l.drop m) := by rw [← lcs_append, List.take_append_drop]
    have hl : (lcs (l.take m)).length = m * 3 := by rw [lcs_len, List.length_take]; omega
    rw [e, ← hl, List.take_left]
  · rw [List.take_of_length_le (by rw [lcs_len]; omega), List.take_of_length_le (by omega)]
theorem setAll_eq : ∀ (xs l : List Value) (off : Nat), off + xs.length ≤ l.length → setAll l off xs = l.take off ++ xs ++ l.drop (off + xs.length)
  | [], l, off, _ => by simp [setAll]
  | x :: xs, l, off, h => by
    rw [List.length_cons] at h
    rw [setAll, setAll_eq xs (l.set off x) (off + 1) (by rw [List.length_set]; omega)]
    have h1 : (l.set off x).take (off + 1) = l.take off ++ [x] := by
      rw [List.take_add_one, List.take_set_of_le (Nat.le_refl _), List.getElem?_set_self (by omega)]
      rfl
    have h2 : (l.set off x).drop (off + 1 + xs.length) = l.drop (off + (x :: xs).length) := by
      rw [List.drop_set_of_lt (by omega), List.length_cons]
      congr 1
      omega
    rw [h1, h2]
    simp
theorem zeros_lcs (n : Nat) : zeros [.int .i64 0, .int .i64 0, .int .i64 0] n = lcs (List.replicate n (0, 0, 0)) := by
  induction n with
  | zero => rfl
  | succ n ih =>
    rw [zeros, ih, List.replicate_succ]
    rfl
/-- What is cleared. -/
theorem clear_lcs {S : List Lk} {n m : Nat} (hS : S.length = n) (hm : m ≤ n) : setAll (lcs S) (0 + m * 3) (zeros [.int .i64 0, .int .i64 0, .int .i64 0] (n - m)) = lcs (S.take m ++ List.replicate (n - m) (0, 0, 0)) := by
  have hz : (zeros [.int .i64 0, .int .i64 0, .int .i64 0] (n - m)).length = (n - m) * 3 := zeros_len _ _
  have hl : (lcs S).length = n * 3 := by rw [lcs_len, hS]
  rw [setAll_eq _ _ _ (by rw [hz, hl]; omega), Nat.zero_add, hz, List.drop_of_length_le (by rw [hl]; omega), List.append_nil, zeros_lcs, lcs_append, lcs_take]
theorem f66 : E.funcs 66 = some Try.f66 := by kernel_rfl
theorem del66_no (N : Int) (x : Nat) (ls : List Lk) (a b : Int) (hn : ls.length ≤ 17592186044416) (hn0 : 0 < ls.length) (h2 : ∀ j, j < ls.length → hit a b (ls.getD j (0, 0, 0)) = false) :
    SCall E 66 [.slice (some ⟨4, 0, none⟩) ls.length ls.length, .func (.func 67) #[] #[.pointer (some ⟨1, 0, none⟩), .pointer (some ⟨2, 0, none⟩)]] (heapOf [⟨24, true, [.int .i64 N, lks x ls]⟩, ⟨3, true, [.int .i64 a]⟩, ⟨3, true, [.int .i64 b]⟩, ⟨24, true, [.int .i64 0, .slice none 0 0]⟩, ⟨48, true, lcs ls⟩]) (.slice (some ⟨4, 0, none⟩) ls.length ls.length)
      (heapOf [⟨24, true, [.int .i64 N, lks x ls]⟩, ⟨3, true, [.int .i64 a]⟩, ⟨3, true, [.int .i64 b]⟩, ⟨24, true, [.int .i64 0, .slice none 0 0]⟩, ⟨48, true, lcs ls⟩]) := by
  refine SCall.enterL f66 rfl (of_decide_eq_true (by kernel_rfl)) (by kernel_rfl) (by kernel_rfl) (Nat.le_refl _) ?_
  have c := idx60c N x ls a b ls.length hn hn0 (Nat.le_refl _) h2 (fun h => absurd h (Nat.lt_irrefl _))
  rw [if_neg (Nat.lt_irrefl _)] at c
  refine Wp.seq (Wp.text ?_)
  refine kp 4 (.slice none 0 0) ?_
  refine WpOps.nil (thenK_at (Wp.seq (Wp.text ?_)))
  refine kp 8 (.slice (some ⟨4, 0, none⟩) (List.length ls) (List.length ls)) ?_
  refine kp 9 (.func (Fn.func 67) #[] #[Value.pointer (some ⟨1, 0, none⟩), Value.pointer (some ⟨2, 0, none⟩)]) ?_
  refine cl 10 60 [Value.slice (some ⟨4, 0, none⟩) (List.length ls) (List.length ls), Value.func (Fn.func 67) #[] #[Value.pointer (some ⟨1, 0, none⟩), Value.pointer (some ⟨2, 0, none⟩)]] ?_
  refine WpCall.enterL c rfl ?_
  refine kp 5 (.int IntKind.i64 (-1)) ?_
  refine WpOps.nil (thenK_at (Wp.seq (Wp.seq (Wp.text ?_))))
  refine kp 11 (.int IntKind.i64 (-1)) ?_
  refine kp 12 (.bool true) ?_
  refine WpOps.nil (thenK_at (on' (Wp.seq (Wp.text ?_))))
  refine kp 13 (.slice (some ⟨4, 0, none⟩) (List.length ls) (List.length ls)) ?_
  refine kp 4 (.slice (some ⟨4, 0, none⟩) (List.length ls) (List.length ls)) ?_
  refine WpOps.nil (thenK_at (Wp.ret (thenK_ret ?_)))
  refine endK_retn [Value.slice (some (Addr.mk 4 0 none)) (List.length ls) (List.length ls)] (Value.slice (some (Addr.mk 4 0 none)) (List.length ls) (List.length ls)) (by kernel_rfl) (by kernel_rfl) ?_
  exact ⟨[0, 1, 2, 3, 4], by decide, by kernel_rfl, ⟨⟨_, by kernel_rfl, toldC_flat (by kernel_rfl)⟩, ⟨_, by kernel_rfl, toldC_flat (by kernel_rfl)⟩, ⟨_, by kernel_rfl, toldC_flat (by kernel_rfl)⟩, ⟨_, by kernel_rfl, toldC_flat (by kernel_rfl)⟩, ⟨_, by kernel_rfl, toldC_flat (lcs_flat _)⟩, trivial⟩, .w (.un rfl rfl)⟩
set_option maxHeartbeats 4000000 in
theorem del66 (N : Int) (x : Nat) (ls : List Lk) (a b : Int) (fi : Nat) (hn : ls.length ≤ 17592186044416) (hfi : fi < ls.length) (h2 : ∀ j, j < fi → hit a b (ls.getD j (0, 0, 0)) = false) (h3 : hit a b (ls.getD fi (0, 0, 0)) = true) :
    SCall E 66 [.slice (some ⟨4, 0, none⟩) ls.length ls.length, .func (.func 67) #[] #[.pointer (some ⟨1, 0, none⟩), .pointer (some ⟨2, 0, none⟩)]] (heapOf [⟨24, true, [.int .i64 N, lks x ls]⟩, ⟨3, true, [.int .i64 a]⟩, ⟨3, true, [.int .i64 b]⟩, ⟨24, true, [.int .i64 0, .slice none 0 0]⟩, ⟨48, true, lcs ls⟩]) (.slice (some ⟨4, 0, none⟩) (cutL (hit a b) ls).length ls.length)
      (heapOf [⟨24, true, [.int .i64 N, lks x ls]⟩, ⟨3, true, [.int .i64 a]⟩, ⟨3, true, [.int .i64 b]⟩, ⟨24, true, [.int .i64 0, .slice none 0 0]⟩, ⟨48, true, lcs (cutL (hit a b) ls ++ List.replicate (ls.length - (cutL (hit a b) ls).length) (0, 0, 0))⟩]) := by
  refine SCall.enterL f66 rfl (of_decide_eq_true (by kernel_rfl)) (by kernel_rfl) (by kernel_rfl) (Nat.le_refl _) ?_
  have c := idx60c N x ls a b fi hn (by omega) (by omega) h2 (fun _ => h3)
  rw [if_pos hfi] at c
  have e0 : ((fi : Int) == -1) = false := beq_eq_false_iff_ne.2 (by omega)
  have hf0 := cutL_first (P := hit a b) fi (by omega) h2
  have hf1 : cutL (hit a b) (ls.take (fi + 1)) = ls.take fi := by rw [cutL_hit hfi h3, hf0]
  have hlt1 : ∀ j, fi + 1 ≤ j → j ≤ ls.length → (cutL (hit a b) (ls.take j)).length < j := fun j => by
    induction j with
    | zero => omega
    | succ j ih =>
      intro h1 h4
      by_cases e : j = fi
      · subst e
        rw [hf1, List.length_take]
        omega
      · have := ih (by omega) (by omega)
        cases hp : hit a b (ls.getD j (0, 0, 0)) with
        | true => rw [cutL_hit (by omega) hp]; omega
        | false => rw [cutL_miss (by omega) hp, List.length_append, List.length_singleton]; omega
  refine Wp.seq (Wp.text ?_)
  refine kp 4 (.slice none 0 0) ?_
  refine WpOps.nil (thenK_at (Wp.seq (Wp.text ?_)))
  refine kp 8 (.slice (some ⟨4, 0, none⟩) (List.length ls) (List.length ls)) ?_
  refine kp 9 (.func (Fn.func 67) #[] #[Value.pointer (some ⟨1, 0, none⟩), Value.pointer (some ⟨2, 0, none⟩)]) ?_
  refine cl 10 60 [Value.slice (some ⟨4, 0, none⟩) (List.length ls) (List.length ls), Value.func (Fn.func 67) #[] #[Value.pointer (some ⟨1, 0, none⟩), Value.pointer (some ⟨2, 0, none⟩)]] ?_
  refine WpCall.enterL c rfl ?_
  refine kp 5 (.int IntKind.i64 (↑fi : Int)) ?_
  refine WpOps.nil (thenK_at (Wp.seq (Wp.seq (Wp.text ?_))))
  refine kp 11 (.int IntKind.i64 (↑fi : Int)) ?_
  refine kp 12 (.bool ((↑fi : Int) == -1)) ?_
  refine WpOps.nil (thenK_at (off' (Wp.skip (thenK_at (Wp.seq (Wp.seq (Wp.text ?_)))))))
  refine kp 14 (.int IntKind.i64 (↑fi : Int)) ?_
  refine kp 15 (.int IntKind.i64 (IntKind.wrap .i64 ((↑fi : Int) + 1))) ?_
  refine kp 6 (.int IntKind.i64 (IntKind.wrap .i64 ((↑fi : Int) + 1))) ?_
  refine WpOps.nil (thenK_at (Wp.block ?_))
  refine Wp.loop (G := Nat × List Lk) (fun g => layj [(0, .slice (some ⟨4, 0, none⟩) ls.length ls.length), (1, .func (.func 67) #[] #[.pointer (some ⟨1, 0, none⟩), .pointer (some ⟨2, 0, none⟩)]), (5, .int .i64 (cutL (hit a b) (ls.take g.1)).length), (6, .int .i64 g.1)])
    (fun g => heapOf [⟨24, true, [.int .i64 N, lks x ls]⟩, ⟨3, true, [.int .i64 a]⟩, ⟨3, true, [.int .i64 b]⟩, ⟨24, true, [.int .i64 0, .slice none 0 0]⟩, ⟨48, true, lcs g.2⟩]) (fun g => ls.length - g.1) (fun g => fi + 1 ≤ g.1 ∧ g.1 ≤ ls.length ∧ g.2.length = ls.length ∧ g.2.take (cutL (hit a b) (ls.take g.1)).length = cutL (hit a b) (ls.take g.1) ∧ g.2.drop g.1 = ls.drop g.1) (fi + 1, ls)
    (View.of [0, 1, 2, 3, 4] [⟨24, true, [.int .i64 N, lks x ls]⟩, ⟨3, true, [.int .i64 a]⟩, ⟨3, true, [.int .i64 b]⟩, ⟨24, true, [.int .i64 0, .slice none 0 0]⟩, ⟨48, true, lcs ls⟩] _ (by decide) rfl ⟨⟨_, by kernel_rfl, CellsOk.eq rfl (by kernel_rfl)⟩, ⟨_, by kernel_rfl, CellsOk.eq rfl (by kernel_rfl)⟩, ⟨_, by kernel_rfl, CellsOk.eq rfl (by kernel_rfl)⟩, ⟨_, by kernel_rfl, CellsOk.eq rfl (by kernel_rfl)⟩, ⟨_, by kernel_rfl, CellsOk.eq rfl (lcs_flat _)⟩, trivial⟩
      ⟨⟨by kernel_rfl, rfl⟩, ⟨by kernel_rfl, rfl⟩, ⟨congrArg (fun z : Nat => Value.int .i64 z) (by rw [hf1, List.length_take]; omega), rfl⟩, ⟨congrArg (Value.int .i64) (wr _ (by omega) (by omega)), rfl⟩, trivial⟩) ⟨Nat.le_refl _, hfi, rfl, by rw [hf1, List.length_take, Nat.min_eq_left (by omega)], rfl⟩ ?_
  rintro ⟨j, S⟩ ⟨hj1, hj2, hS, hS1, hS2⟩
  dsimp only at hj1 hj2 hS hS1 hS2 ⊢
  have hij := hlt1 j hj1 hj2
  have hget : S.getD j (0, 0, 0) = ls.getD j (0, 0, 0) := by
    have e1 : S[j]? = (S.drop j)[0]? := by rw [List.getElem?_drop, Nat.add_zero]
    have e2 : ls[j]? = (ls.drop j)[0]? := by rw [List.getElem?_drop, Nat.add_zero]
    rw [List.getD_eq_getElem?_getD, List.getD_eq_getElem?_getD, e1, e2, hS2]
  by_cases hlt : j < ls.length
  · have d1 : decide ((j : Int) < ls.length) = true := decide_eq_true (by omega)
    have g1 : 0 ≤ (j : Int) ∧ (j : Int) < ls.length := by omega
    have v1 : cellsAt (lcs S) (0 + (j : Int).toNat * 3) 3 = some [.int .i64 (ls.getD j (0, 0, 0)).1, .int .i64 (ls.getD j (0, 0, 0)).2.1, .int .i64 (ls.getD j (0, 0, 0)).2.2] := by
      rw [Nat.zero_add, ← hget]
      exact lcs_cells S j (0, 0, 0) (by omega)
    have c1 := hit67 (ls.getD j (0, 0, 0)) a b
    have hdr : S.drop (j + 1) = ls.drop (j + 1) := by rw [← List.drop_drop, ← List.drop_drop, hS2]
    cases hp : hit a b (ls.getD j (0, 0, 0)) with
    | true =>
      have hc := cutL_hit hlt hp
      rw [hp] at c1
      refine Wp.seq (Wp.seq (Wp.text ?_))
      refine kp 16 (.int IntKind.i64 (↑j : Int)) ?_
      refine kp 17 (.slice (some ⟨4, 0, none⟩) (List.length ls) (List.length ls)) ?_
      refine kp 18 (.int IntKind.i64 (↑(List.length ls) : Int)) ?_
      refine kp 19 (.bool true) ?_ (hop := fun _ => by_fact d1)
      refine WpOps.nil (thenK_at (on' (Wp.skip (thenK_at (Wp.seq (Wp.block (Wp.seq (Wp.text ?_))))))))
      refine kp 22 (.slice (some ⟨4, 0, none⟩) (List.length ls) (List.length ls)) ?_
      refine kp 23 (.int IntKind.i64 (↑j : Int)) ?_
      refine kp 24 (.pointer (some (Addr.mk 4 (0 + Int.toNat (↑j : Int) * 3) none))) ?_ (hop := fun _ => o_indexAddr (a := (↑j : Int)) (bl := 4) (off := 0) (size := 3) 48 (List.length ls) g1)
      refine kp 25 (.agg #[Value.int .i64 (Prod.fst (List.getD ls j (0, 0, 0))), Value.int .i64 (Prod.fst (Prod.snd (List.getD ls j (0, 0, 0)))), Value.int .i64 (Prod.snd (Prod.snd (List.getD ls j (0, 0, 0))))]) ?_ (hop := fun _ => o_loadA (4) (0 + Int.toNat (↑j : Int) * 3) v1)
      refine md 7 (.pointer (some ⟨5, 0, none⟩)) (Blk.mk 48 true [Value.int .i64 0, Value.int .i64 0, Value.int .i64 0]) ?_
      refine ld (.tuple #[]) (5) (Blk.mk 48 true [Value.int .i64 (Prod.fst (List.getD ls j (0, 0, 0))), Value.int .i64 (Prod.fst (Prod.snd (List.getD ls j (0, 0, 0)))), Value.int .i64 (Prod.snd (Prod.snd (List.getD ls j (0, 0, 0))))]) ?_
      refine WpOps.nil (thenK_at (Wp.seq (Wp.text ?_)))
      refine kp 26 (.func (Fn.func 67) #[] #[Value.pointer (some ⟨1, 0, none⟩), Value.pointer (some ⟨2, 0, none⟩)]) ?_
      refine kp 27 (.agg #[Value.int .i64 (Prod.fst (List.getD ls j (0, 0, 0))), Value.int .i64 (Prod.fst (Prod.snd (List.getD ls j (0, 0, 0)))), Value.int .i64 (Prod.snd (Prod.snd (List.getD ls j (0, 0, 0))))]) ?_
      refine cl 28 67 [Value.agg #[Value.int .i64 (Prod.fst (List.getD ls j (0, 0, 0))), Value.int .i64 (Prod.fst (Prod.snd (List.getD ls j (0, 0, 0)))), Value.int .i64 (Prod.snd (Prod.snd (List.getD ls j (0, 0, 0))))], Value.pointer (some ⟨1, 0, none⟩), Value.pointer (some ⟨2, 0, none⟩)] ?_
      refine WpCall.lent [1, 2] (c1) (by decide) ⟨⟨[Value.int IntKind.i64 a], (by kernel_rfl), (by kernel_rfl), (by kernel_rfl)⟩, ⟨⟨[Value.int IntKind.i64 b], (by kernel_rfl), (by kernel_rfl), (by kernel_rfl)⟩, trivial⟩⟩ (by kernel_rfl) (Value.bool true) ([Blk.mk 3 true [Value.int IntKind.i64 a], Blk.mk 3 true [Value.int IntKind.i64 b]]) (.cons (by kernel_rfl) (.cons (by kernel_rfl) .nil)) (by kernel_rfl) (Heap.set (Heap.set (Heap.set (Heap.alloc (heapOf [Blk.mk 24 true [Value.int IntKind.i64 N, lks x ls], Blk.mk 3 true [Value.int IntKind.i64 a], Blk.mk 3 true [Value.int IntKind.i64 b], Blk.mk 24 true [Value.int IntKind.i64 0, Value.slice none 0 0], Blk.mk 48 true (lcs S)]) (Blk.mk 48 true [Value.int IntKind.i64 0, Value.int IntKind.i64 0, Value.int IntKind.i64 0])) 5 (some (Blk.mk 48 true [Value.int IntKind.i64 (Prod.fst (List.getD ls j (0, 0, 0))), Value.int IntKind.i64 (Prod.fst (Prod.snd (List.getD ls j (0, 0, 0)))), Value.int IntKind.i64 (Prod.snd (Prod.snd (List.getD ls j (0, 0, 0))))]))) 1 (some (Blk.mk 3 true [Value.int IntKind.i64 a]))) 2 (some (Blk.mk 3 true [Value.int IntKind.i64 b]))) (by kernel_rfl) ?_
      refine kp 29 (.bool false) ?_
      refine WpOps.nil (thenK_at (off' (Wp.skip (blockK_norm (thenK_at (Wp.text ?_))))))
      refine kp 20 (.int IntKind.i64 (↑j : Int)) ?_
      refine kp 21 (.int IntKind.i64 (IntKind.wrap .i64 ((↑j : Int) + 1))) ?_
      refine kp 6 (.int IntKind.i64 (IntKind.wrap .i64 ((↑j : Int) + 1))) ?_
      refine WpOps.nil (thenK_at ?_)
      exact ⟨(j + 1, S), by dsimp only; omega, ⟨by dsimp only; omega, by dsimp only; omega, hS, by dsimp only; rw [hc]; exact hS1, hdr⟩, View.of [0, 1, 2, 3, 4] [⟨24, true, [.int .i64 N, lks x ls]⟩, ⟨3, true, [.int .i64 a]⟩, ⟨3, true, [.int .i64 b]⟩, ⟨24, true, [.int .i64 0, .slice none 0 0]⟩, ⟨48, true, lcs S⟩] _ (by decide) rfl ⟨⟨_, by kernel_rfl, CellsOk.eq rfl (by kernel_rfl)⟩, ⟨_, by kernel_rfl, CellsOk.eq rfl (by kernel_rfl)⟩, ⟨_, by kernel_rfl, CellsOk.eq rfl (by kernel_rfl)⟩, ⟨_, by kernel_rfl, CellsOk.eq rfl (by kernel_rfl)⟩, ⟨_, by kernel_rfl, CellsOk.eq rfl (lcs_flat _)⟩, trivial⟩ ⟨⟨by kernel_rfl, rfl⟩, ⟨by kernel_rfl, rfl⟩, ⟨congrArg (fun z : Nat => Value.int .i64 z) (by rw [hc]), rfl⟩, ⟨congrArg (Value.int .i64) (wr _ (by omega) (by omega)), rfl⟩, trivial⟩⟩
    | false =>
      have hc := cutL_miss hlt hp
      rw [hp] at c1
      generalize hm : (cutL (hit a b) (ls.take j)).length = m at *
      have g2 : 0 ≤ (m : Int) ∧ (m : Int) < ls.length := by omega
      have q1 : true = true ∧ 0 + (m : Int).toNat * 3 + [Value.int .i64 (ls.getD j (0, 0, 0)).1, .int .i64 (ls.getD j (0, 0, 0)).2.1, .int .i64 (ls.getD j (0, 0, 0)).2.2].length ≤ (lcs S).length := ⟨rfl, by rw [lcs_len, hS]; simp; omega⟩
      have e4 : setAll (lcs S) (0 + (m : Int).toNat * 3) [.int .i64 (ls.getD j (0, 0, 0)).1, .int .i64 (ls.getD j (0, 0, 0)).2.1, .int .i64 (ls.getD j (0, 0, 0)).2.2] = lcs (S.set m (ls.getD j (0, 0, 0))) := by
        rw [Int.toNat_natCast, Nat.zero_add]
        exact lcs_set _ _ _ _ _
      have hm2 : (cutL (hit a b) (ls.take (j + 1))).length = m + 1 := by rw [hc, List.length_append, hm]; rfl
      refine Wp.seq (Wp.seq (Wp.text ?_))
      refine kp 16 (.int IntKind.i64 (↑j : Int)) ?_
      refine kp 17 (.slice (some ⟨4, 0, none⟩) (List.length ls) (List.length ls)) ?_
      refine kp 18 (.int IntKind.i64 (↑(List.length ls) : Int)) ?_
      refine kp 19 (.bool true) ?_ (hop := fun _ => by_fact d1)
      refine WpOps.nil (thenK_at (on' (Wp.skip (thenK_at (Wp.seq (Wp.block (Wp.seq (Wp.text ?_))))))))
      refine kp 22 (.slice (some ⟨4, 0, none⟩) (List.length ls) (List.length ls)) ?_
      refine kp 23 (.int IntKind.i64 (↑j : Int)) ?_
      refine kp 24 (.pointer (some (Addr.mk 4 (0 + Int.toNat (↑j : Int) * 3) none))) ?_ (hop := fun _ => o_indexAddr (a := (↑j : Int)) (bl := 4) (off := 0) (size := 3) 48 (List.length ls) g1)
      refine kp 25 (.agg #[Value.int .i64 (Prod.fst (List.getD ls j (0, 0, 0))), Value.int .i64 (Prod.fst (Prod.snd (List.getD ls j (0, 0, 0)))), Value.int .i64 (Prod.snd (Prod.snd (List.getD ls j (0, 0, 0))))]) ?_ (hop := fun _ => o_loadA (4) (0 + Int.toNat (↑j : Int) * 3) v1)
      refine md 7 (.pointer (some ⟨5, 0, none⟩)) (Blk.mk 48 true [Value.int .i64 0, Value.int .i64 0, Value.int .i64 0]) ?_
      refine ld (.tuple #[]) (5) (Blk.mk 48 true [Value.int .i64 (Prod.fst (List.getD ls j (0, 0, 0))), Value.int .i64 (Prod.fst (Prod.snd (List.getD ls j (0, 0, 0)))), Value.int .i64 (Prod.snd (Prod.snd (List.getD ls j (0, 0, 0))))]) ?_
      refine WpOps.nil (thenK_at (Wp.seq (Wp.text ?_)))
      refine kp 26 (.func (Fn.func 67) #[] #[Value.pointer (some ⟨1, 0, none⟩), Value.pointer (some ⟨2, 0, none⟩)]) ?_
      refine kp 27 (.agg #[Value.int .i64 (Prod.fst (List.getD ls j (0, 0, 0))), Value.int .i64 (Prod.fst (Prod.snd (List.getD ls j (0, 0, 0)))), Value.int .i64 (Prod.snd (Prod.snd (List.getD ls j (0, 0, 0))))]) ?_
      refine cl 28 67 [Value.agg #[Value.int .i64 (Prod.fst (List.getD ls j (0, 0, 0))), Value.int .i64 (Prod.fst (Prod.snd (List.getD ls j (0, 0, 0)))), Value.int .i64 (Prod.snd (Prod.snd (List.getD ls j (0, 0, 0))))], Value.pointer (some ⟨1, 0, none⟩), Value.pointer (some ⟨2, 0, none⟩)] ?_
      refine WpCall.lent [1, 2] (c1) (by decide) ⟨⟨[Value.int IntKind.i64 a], (by kernel_rfl), (by kernel_rfl), (by kernel_rfl)⟩, ⟨⟨[Value.int IntKind.i64 b], (by kernel_rfl), (by kernel_rfl), (by kernel_rfl)⟩, trivial⟩⟩ (by kernel_rfl) (Value.bool false) ([Blk.mk 3 true [Value.int IntKind.i64 a], Blk.mk 3 true [Value.int IntKind.i64 b]]) (.cons (by kernel_rfl) (.cons (by kernel_rfl) .nil)) (by kernel_rfl) (Heap.set (Heap.set (Heap.set (Heap.alloc (heapOf [Blk.mk 24 true [Value.int IntKind.i64 N, lks x ls], Blk.mk 3 true [Value.int IntKind.i64 a], Blk.mk 3 true [Value.int IntKind.i64 b], Blk.mk 24 true [Value.int IntKind.i64 0, Value.slice none 0 0], Blk.mk 48 true (lcs S)]) (Blk.mk 48 true [Value.int IntKind.i64 0, Value.int IntKind.i64 0, Value.int IntKind.i64 0])) 5 (some (Blk.mk 48 true [Value.int IntKind.i64 (Prod.fst (List.getD ls j (0, 0, 0))), Value.int IntKind.i64 (Prod.fst (Prod.snd (List.getD ls j (0, 0, 0)))), Value.int IntKind.i64 (Prod.snd (Prod.snd (List.getD ls j (0, 0, 0))))]))) 1 (some (Blk.mk 3 true [Value.int IntKind.i64 a]))) 2 (some (Blk.mk 3 true [Value.int IntKind.i64 b]))) (by kernel_rfl) ?_
      refine kp 29 (.bool true) ?_
      refine WpOps.nil (thenK_at (on' (Wp.seq (Wp.text ?_))))
      refine kp 30 (.slice (some ⟨4, 0, none⟩) (List.length ls) (List.length ls)) ?_
      refine kp 31 (.int IntKind.i64 (↑m : Int)) ?_
      refine kp 32 (.agg #[Value.int .i64 (Prod.fst (List.getD ls j (0, 0, 0))), Value.int .i64 (Prod.fst (Prod.snd (List.getD ls j (0, 0, 0)))), Value.int .i64 (Prod.snd (Prod.snd (List.getD ls j (0, 0, 0))))]) ?_
      refine kp 33 (.pointer (some (Addr.mk 4 (0 + Int.toNat (↑m : Int) * 3) none))) ?_ (hop := fun _ => o_indexAddr (a := (↑m : Int)) (bl := 4) (off := 0) (size := 3) 48 (List.length ls) g2)
      refine ld (.tuple #[]) (4) (Blk.mk 48 true (List.set (List.set (List.set (lcs S) (0 + Int.toNat (↑m : Int) * 3) (Value.int .i64 (Prod.fst (List.getD ls j (0, 0, 0))))) (0 + Int.toNat (↑m : Int) * 3 + 1) (Value.int .i64 (Prod.fst (Prod.snd (List.getD ls j (0, 0, 0)))))) (0 + Int.toNat (↑m : Int) * 3 + 1 + 1) (Value.int .i64 (Prod.snd (Prod.snd (List.getD ls j (0, 0, 0))))))) ?_ (hop := fun _ => o_storeH (v := Value.agg #[Value.int IntKind.i64 (Prod.fst (List.getD ls j (0, 0, 0))), Value.int IntKind.i64 (Prod.fst (Prod.snd (List.getD ls j (0, 0, 0)))), Value.int IntKind.i64 (Prod.snd (Prod.snd (List.getD ls j (0, 0, 0))))]) (xs := [Value.int IntKind.i64 (Prod.fst (List.getD ls j (0, 0, 0))), Value.int IntKind.i64 (Prod.fst (Prod.snd (List.getD ls j (0, 0, 0)))), Value.int IntKind.i64 (Prod.snd (Prod.snd (List.getD ls j (0, 0, 0))))]) (cells := lcs S) (el := 48) (4) (0 + Int.toNat (↑m : Int) * 3) (by kernel_rfl) q1)
      refine WpOps.nil (thenK_at (Wp.text ?_))
      refine kp 34 (.int IntKind.i64 (↑m : Int)) ?_
      refine kp 35 (.int IntKind.i64 (IntKind.wrap .i64 ((↑m : Int) + 1))) ?_
      refine kp 5 (.int IntKind.i64 (IntKind.wrap .i64 ((↑m : Int) + 1))) ?_
      refine WpOps.nil (blockK_norm (thenK_at (Wp.text ?_)))
      refine kp 20 (.int IntKind.i64 (↑j : Int)) ?_
      refine kp 21 (.int IntKind.i64 (IntKind.wrap .i64 ((↑j : Int) + 1))) ?_
      refine kp 6 (.int IntKind.i64 (IntKind.wrap .i64 ((↑j : Int) + 1))) ?_
      refine WpOps.nil (thenK_at ?_)
      refine ⟨(j + 1, S.set m (ls.getD j (0, 0, 0))), by dsimp only; omega, ⟨by dsimp only; omega, by dsimp only; omega, by dsimp only; rw [List.length_set]; exact hS, ?_, ?_⟩, View.of [0, 1, 2, 3, 4] [⟨24, true, [.int .i64 N, lks x ls]⟩, ⟨3, true, [.int .i64 a]⟩, ⟨3, true, [.int .i64 b]⟩, ⟨24, true, [.int .i64 0, .slice none 0 0]⟩, ⟨48, true, lcs (S.set m (ls.getD j (0, 0, 0)))⟩] _ (by decide) rfl ⟨⟨_, by kernel_rfl, CellsOk.eq rfl (by kernel_rfl)⟩, ⟨_, by kernel_rfl, CellsOk.eq rfl (by kernel_rfl)⟩, ⟨_, by kernel_rfl, CellsOk.eq rfl (by kernel_rfl)⟩, ⟨_, by kernel_rfl, CellsOk.eq rfl (by kernel_rfl)⟩, ⟨_, by kernel_rfl, CellsOk.eq e4 (lcs_flat _)⟩, trivial⟩ ⟨⟨by kernel_rfl, rfl⟩, ⟨by kernel_rfl, rfl⟩, ⟨congrArg (Value.int .i64) ((wr _ (by omega) (by omega)).trans (by rw [hm2]; omega)), rfl⟩, ⟨congrArg (Value.int .i64) (wr _ (by omega) (by omega)), rfl⟩, trivial⟩⟩
      · dsimp only
        rw [hm2, hc, List.take_add_one, List.take_set_of_le (Nat.le_refl _), List.getElem?_set_self (by omega), hS1]
        rfl
      · dsimp only
        rw [List.drop_set_of_lt (by omega)]
        exact hdr
  · obtain rfl : j = ls.length := by omega
    have d1 : decide (((ls.length : Nat) : Int) < ls.length) = false := decide_eq_false (by omega)
    rw [List.take_length] at hS1 hij ⊢
    have hcl := clear_lcs hS (show (cutL (hit a b) ls).length ≤ ls.length by omega)
    rw [hS1] at hcl
    generalize hm : (cutL (hit a b) ls).length = m at *
    have g2 : 0 ≤ (m : Int) ∧ (m : Int) ≤ ls.length := by omega
    have hcl2 : setAll (lcs S) (0 + (m : Int).toNat * 3) (zeros [.int .i64 0, .int .i64 0, .int .i64 0] (ls.length - (m : Int).toNat)) = lcs (cutL (hit a b) ls ++ List.replicate (ls.length - m) (0, 0, 0)) := by
      rw [Int.toNat_natCast]
      exact hcl
    have hz : ls.length - (m : Int).toNat ≠ 0 := by omega
    have hl : true = true ∧ 0 + (m : Int).toNat * 3 + (zeros [.int .i64 0, .int .i64 0, .int .i64 0] (ls.length - (m : Int).toNat)).length ≤ (lcs S).length := ⟨rfl, by
      rw [zeros_len, lcs_len, hS]
      simp
      omega⟩
    refine Wp.seq (Wp.seq (Wp.text ?_))
    refine kp 16 (.int IntKind.i64 (↑(List.length ls) : Int)) ?_
    refine kp 17 (.slice (some ⟨4, 0, none⟩) (List.length ls) (List.length ls)) ?_
    refine kp 18 (.int IntKind.i64 (↑(List.length ls) : Int)) ?_
    refine kp 19 (.bool false) ?_ (hop := fun _ => by_fact d1)
    refine WpOps.nil (thenK_at (off' (Wp.exit (thenK_exit (thenK_exit (blockK_hit (thenK_at (Wp.seq (Wp.text ?_)))))))))
    refine kp 36 (.slice (some ⟨4, 0, none⟩) (List.length ls) (List.length ls)) ?_
    refine kp 37 (.int IntKind.i64 (↑m : Int)) ?_
    refine kp 38 (.slice (some (Addr.mk 4 (0 + Int.toNat (↑m : Int) * 3) none)) (List.length ls - Int.toNat (↑m : Int)) (List.length ls - Int.toNat (↑m : Int))) ?_ (hop := fun _ => o_cutS_lo (a := (↑m : Int)) (bl := 4) (off := 0) (e := 48) (size := 3) g2)
    refine ld (.tuple #[]) (4) (Blk.mk 48 true (setAll (lcs S) (0 + Int.toNat (↑m : Int) * 3) (zeros [Value.int .i64 0, Value.int .i64 0, Value.int .i64 0] (List.length ls - Int.toNat (↑m : Int))))) ?_ (hop := fun _ => o_clear hz hl)
    refine WpOps.nil (thenK_at (Wp.seq (Wp.text ?_)))
    refine kp 39 (.slice (some ⟨4, 0, none⟩) (List.length ls) (List.length ls)) ?_
    refine kp 40 (.int IntKind.i64 (↑m : Int)) ?_
    refine kp 41 (.slice (some ⟨4, 0, none⟩) (Int.toNat (↑m : Int) - 0) (List.length ls - 0)) ?_ (hop := fun _ => o_cutS_hi (n := List.length ls) (c := List.length ls) (a := (↑m : Int)) (bl := 4) (off := 0) (e := 48) (size := 3) g2)
    refine kp 4 (.slice (some ⟨4, 0, none⟩) (Int.toNat (↑m : Int) - 0) (List.length ls - 0)) ?_
    refine WpOps.nil (thenK_at (Wp.ret ?_))
    refine endK_retn [Value.slice (some (Addr.mk 4 0 none)) (Int.toNat (↑m : Int) - 0) (List.length ls - 0)] (Value.slice (some (Addr.mk 4 0 none)) (Int.toNat (↑m : Int) - 0) (List.length ls - 0)) (by kernel_rfl) (by kernel_rfl) ?_
    exact ⟨[0, 1, 2, 3, 4], by decide, by kernel_rfl, ⟨⟨_, by kernel_rfl, toldC_flat (by kernel_rfl)⟩, ⟨_, by kernel_rfl, toldC_flat (by kernel_rfl)⟩, ⟨_, by kernel_rfl, toldC_flat (by kernel_rfl)⟩, ⟨_, by kernel_rfl, toldC_flat (by kernel_rfl)⟩, ⟨setAll (lcs S) (0 + (m : Int).toNat * 3) (zeros [.int .i64 0, .int .i64 0, .int .i64 0] (ls.length - (m : Int).toNat)), by kernel_rfl, by rw [hcl2]; exact toldC_flat (lcs_flat _)⟩, trivial⟩, .w (.un rfl rfl)⟩
open Go.Fw Go.RowKit

theorem f59 : E.funcs 59 = some Try.f59 := by kernel_rfl
theorem clone59 (n : Nat) (cs : List Value) (hn : 1 ≤ n ∧ n * 24 ≤ 140737488351232) (_hl : cs.length = n * 3) (hf : cs.all flat = true) : Lent E 59 [FS 48 n 0 cs.toArray] [] (.slice (some ⟨0, 0, none⟩) n n) [⟨48, true, cs⟩] := by
  have hok : ([⟨48, true, cs⟩] : List Blk).all (fun x => x.cells.all (okC ([⟨48, true, cs⟩] : List Blk).length)) = true := by
    rw [List.all_cons, List.all_nil, Bool.and_true]
    exact okCs_flat hf
  refine Lent.of f59 rfl (of_decide_eq_true (by kernel_rfl)) rfl rfl (Nat.zero_le _) rfl hok rfl ?_
  have h1 : ¬ (0 + n ≤ 0) := by omega
  have h2 : 1 ≤ 24 ∧ (0 + n) * 24 ≤ 140737488355328 ∧ 3 = 3 ∧ 0 + n ≤ 9223372036854775807 := by omega
  have h3 : n ≠ 0 := by omega
  refine Wp.seq (Wp.text ?_)
  refine kp 2 (.slice none 0 0) ?_
  refine WpOps.nil (thenK_at (Wp.seq (Wp.seq (Wp.text ?_))))
  refine kp 3 (.iface 48 (Value.iface n (Value.iface 0 (Value.agg (List.toArray cs))))) ?_
  refine kp 4 (.bool false) ?_
  refine WpOps.nil (thenK_at (off' (Wp.skip (thenK_at (Wp.seq (Wp.text ?_))))))
  refine md 5 (.slice (some ⟨0, 0, none⟩) 0 0) (Blk.mk 48 true []) ?_
  refine kp 6 (.iface 48 (Value.iface n (Value.iface 0 (Value.agg (List.toArray cs))))) ?_
  refine ra 7 (.slice (some ⟨1, 0, none⟩) (0 + n) (0 + n)) (0) (Blk.mk 48 true ([] ++ Array.toList (List.toArray cs))) ?_ (hop := fun _ => o_append (e := 48) (0) (0) (0) _ (0) h1 h2)
  refine kp 2 (.slice (some ⟨1, 0, none⟩) (0 + n) (0 + n)) ?_
  refine WpOps.nil (thenK_at (Wp.ret ?_))
  refine endK_retn [Value.slice (some (Addr.mk 1 0 none)) (0 + n) (0 + n)] (Value.slice (some (Addr.mk 1 0 none)) (0 + n) (0 + n)) (by kernel_rfl) (by kernel_rfl) ?_
  rw [Nat.zero_add]
  exact ⟨[1], by decide, by kernel_rfl, ⟨⟨cs, by kernel_rfl, toldC_flat hf⟩, trivial⟩, .w (.un rfl rfl)⟩
theorem iceC_part {hp : Heap} {b n c : Nat} {cells : List Value} (m : Nat) (hb : hp.get b = some ⟨48, true, cells⟩) (hn : n * 3 ≤ cells.length) (hf : (cells.take (n * 3)).all flat = true) : iceC E hp (m + 1) (.slice (some ⟨b, 0, none⟩) n c) = some (FS 48 n 0 (cells.take (n * 3)).toArray) := by
  have he : (E.types 48).map TI.size = some 3 := by kernel_rfl
  obtain ⟨ti, h1, h2⟩ := Option.map_eq_some_iff.1 he
  have hc : cellsAt cells 0 (n * ti.size) = some (cells.take (n * 3)) := by
    rw [h2]
    simp only [cellsAt, Nat.zero_add, if_pos hn, List.drop_zero]
  unfold iceC
  simp only [hb, h1, hc, mapO_id fun v hv => flat_ice (E := E) (h := hp) (List.all_eq_true.1 hf v hv) m]
theorem net_ice {hp : Heap} {N : Int} {sl v w : Value} (h : iceC E hp 4 sl = some v) (hw : iceW E hp w = some w) : iceV E hp (.tuple #[.agg #[.int .i64 N, sl], w]) = some (.tuple #[.agg #[.int .i64 N, v], w]) := by
  have h2 : mapO (iceC E hp 4) [.int .i64 N, sl] = some [.int .i64 N, v] := by
    simp only [mapO, h]
    rfl
  have h3 : iceW E hp (.agg #[.int .i64 N, sl]) = some (.agg #[.int .i64 N, v]) := by
    show (mapO (iceC E hp 4) [.int .i64 N, sl]).map _ = _
    rw [h2]
    rfl
  have h4 : mapO (iceW E hp) [.agg #[.int .i64 N, sl], w] = some [.agg #[.int .i64 N, v], w] := by
    simp only [mapO, h3, hw]
  show (mapO (iceW E hp) [.agg #[.int .i64 N, sl], w]).map _ = _
  rw [h4]
  rfl
theorem E48 : ∃ ti, E.types 48 = some ti := by
  have : (E.types 48).map TI.size = some 3 := by kernel_rfl
  obtain ⟨ti, h, _⟩ := Option.map_eq_some_iff.1 this
  exact ⟨ti, h⟩
theorem links_ice {hp : Heap} {b c : Nat} {ls z : List Lk} (hb : hp.get b = some ⟨48, true, lcs (ls ++ z)⟩) : iceC E hp 4 (.slice (some ⟨b, 0, none⟩) ls.length c) = some (FS 48 ls.length 0 (lcs ls).toArray) := by
  have ht : (lcs (ls ++ z)).take (ls.length * 3) = lcs ls := by rw [lcs_take, List.take_left]
  have := iceC_part (n := ls.length) (c := c) 3 hb (by rw [lcs_len, List.length_append]; omega) (by rw [ht]; exact lcs_flat _)
  rw [ht] at this
  exact this
theorem f57 : E.funcs 57 = some Try.f57 := by kernel_rfl
theorem wo57_no (N : Int) (ls : List Lk) (a b : Int) (hn : ls.length * 24 ≤ 140737488351232) (hn0 : 0 < ls.length) (h2 : ∀ j, j < ls.length → hit a b (ls.getD j (0, 0, 0)) = false) : Fun E 57 [netV N 0 ls, .int .i64 a, .int .i64 b] (.tuple #[netV N 0 ls, .bool false]) := by
  refine Fun.of f57 rfl (of_decide_eq_true (by kernel_rfl)) rfl ?_
  have c1 := clone59 ls.length (lcs ls) (by omega) (lcs_len ls) (lcs_flat ls)
  have hfl := lcs_flat ls
  have c2 := del66_no N 0 ls a b (by omega) hn0 h2
  have d : decide ((ls.length : Int) < ls.length) = false := decide_eq_false (by omega)
  unfold netV lks
  unfold lks at c2
  refine Wp.seq (Wp.text ?_)
  refine md 3 (.pointer (some ⟨0, 0, none⟩)) (Blk.mk 24 true [Value.int .i64 N, Value.iface 48 (Value.iface (List.length ls) (Value.iface 0 (Value.agg (List.toArray (lcs ls)))))]) ?_
  refine md 4 (.pointer (some ⟨1, 0, none⟩)) (Blk.mk 3 true [Value.int .i64 a]) ?_
  refine md 5 (.pointer (some ⟨2, 0, none⟩)) (Blk.mk 3 true [Value.int .i64 b]) ?_
  refine md 6 (.pointer (some ⟨3, 0, none⟩)) (Blk.mk 24 true [Value.int .i64 0, Value.slice none 0 0]) ?_
  refine kp 7 (.bool false) ?_
  refine WpOps.nil (thenK_at (Wp.seq (Wp.text ?_)))
  refine kp 9 (.pointer (some ⟨0, 1, none⟩)) ?_
  refine kp 10 (.iface 48 (Value.iface (List.length ls) (Value.iface 0 (Value.agg (List.toArray (lcs ls)))))) ?_
  refine cl 11 59 [Value.iface 48 (Value.iface (List.length ls) (Value.iface 0 (Value.agg (List.toArray (lcs ls)))))] ?_
  refine WpCall.lent [] (c1) (by decide) trivial (by kernel_rfl) (Value.slice (some (Addr.mk (List.getD [4] 0 0) 0 none)) (List.length ls) (List.length ls)) ([Blk.mk 48 true (lcs ls)]) (.cons (unB_flat (by assumption)) .nil) (by kernel_rfl) (Heap.alloc (Heap.alloc (Heap.alloc (Heap.alloc (Heap.alloc Heap.none (Blk.mk 24 true [Value.int IntKind.i64 N, Value.iface 48 (Value.iface (List.length ls) (Value.iface 0 (Value.agg (List.toArray (lcs ls)))))])) (Blk.mk 3 true [Value.int IntKind.i64 a])) (Blk.mk 3 true [Value.int IntKind.i64 b])) (Blk.mk 24 true [Value.int IntKind.i64 0, Value.slice none 0 0])) (Blk.mk 48 true (lcs ls))) (by kernel_rfl) ?_
  refine kp 12 (.func (Fn.func 67) #[] #[Value.pointer (some ⟨1, 0, none⟩), Value.pointer (some ⟨2, 0, none⟩)]) ?_
  refine cl 13 66 [Value.slice (some (Addr.mk (List.getD [4] 0 0) 0 none)) (List.length ls) (List.length ls), Value.func (Fn.func 67) #[] #[Value.pointer (some ⟨1, 0, none⟩), Value.pointer (some ⟨2, 0, none⟩)]] ?_
  refine WpCall.enterL c2 (by simp only [none_heapOf, heapOf_alloc]; rfl) ?_
  refine kp 8 (.slice (some ⟨4, 0, none⟩) (List.length ls) (List.length ls)) ?_
  refine WpOps.nil (thenK_at (Wp.seq ?_))
  refine Wp.regionT (by kernel_rfl) (by kernel_rfl) ?_
  refine kp 14 (.pointer (some ⟨0, 0, none⟩)) ?_
  refine kp 15 (.int IntKind.i64 N) ?_
  refine kp 16 (.slice (some ⟨4, 0, none⟩) (List.length ls) (List.length ls)) ?_
  refine kp 17 (.agg #[Value.int .i64 N, Value.slice (some ⟨4, 0, none⟩) (List.length ls) (List.length ls)]) ?_
  refine kp 18 (.slice (some ⟨4, 0, none⟩) (List.length ls) (List.length ls)) ?_
  refine kp 19 (.int IntKind.i64 (↑(List.length ls) : Int)) ?_
  refine kp 20 (.pointer (some ⟨0, 1, none⟩)) ?_
  refine kp 21 (.iface 48 (Value.iface (List.length ls) (Value.iface 0 (Value.agg (List.toArray (lcs ls)))))) ?_
  refine kp 22 (.int IntKind.i64 (↑(List.length ls) : Int)) ?_
  refine kp 23 (.bool false) ?_ (hop := fun _ => by_fact d)
  refine ld (.tuple #[]) (3) (Blk.mk 24 true [Value.int .i64 N, Value.slice (some ⟨4, 0, none⟩) (List.length ls) (List.length ls)]) ?_
  refine kp 7 (.bool false) ?_
  refine WpOps.nil ?_
  refine ⟨by kernel_rfl, ?_⟩
  refine thenK_at (Wp.ret ?_)
  refine endK_retn [Value.agg #[Value.int IntKind.i64 N, Value.slice (some (Addr.mk 4 0 none)) (List.length ls) (List.length ls)], Value.bool false] (Value.tuple #[Value.agg #[Value.int IntKind.i64 N, Value.slice (some (Addr.mk 4 0 none)) (List.length ls) (List.length ls)], Value.bool false]) (by kernel_rfl) (by kernel_rfl) ?_
  refine net_ice (links_ice (ls := ls) (z := []) ?_) rfl
  rw [List.append_nil]
  rfl
theorem wo57 (N : Int) (ls : List Lk) (a b : Int) (fi : Nat) (hn : ls.length * 24 ≤ 140737488351232) (hfi : fi < ls.length) (h2 : ∀ j, j < fi → hit a b (ls.getD j (0, 0, 0)) = false) (h3 : hit a b (ls.getD fi (0, 0, 0)) = true) (hlt : (cutL (hit a b) ls).length < ls.length) : Fun E 57 [netV N 0 ls, .int .i64 a, .int .i64 b] (.tuple #[netV N 0 (cutL (hit a b) ls), .bool true]) := by
  refine Fun.of f57 rfl (of_decide_eq_true (by kernel_rfl)) rfl ?_
  have c1 := clone59 ls.length (lcs ls) (by omega) (lcs_len ls) (lcs_flat ls)
  have hfl := lcs_flat ls
  have c2 := del66 N 0 ls a b fi (by omega) hfi h2 h3
  have d : decide (((cutL (hit a b) ls).length : Int) < ls.length) = true := decide_eq_true (by omega)
  unfold netV lks
  unfold lks at c2
  refine Wp.seq (Wp.text ?_)
  refine md 3 (.pointer (some ⟨0, 0, none⟩)) (Blk.mk 24 true [Value.int .i64 N, Value.iface 48 (Value.iface (List.length ls) (Value.iface 0 (Value.agg (List.toArray (lcs ls)))))]) ?_
  refine md 4 (.pointer (some ⟨1, 0, none⟩)) (Blk.mk 3 true [Value.int .i64 a]) ?_
  refine md 5 (.pointer (some ⟨2, 0, none⟩)) (Blk.mk 3 true [Value.int .i64 b]) ?_
  refine md 6 (.pointer (some ⟨3, 0, none⟩)) (Blk.mk 24 true [Value.int .i64 0, Value.slice none 0 0]) ?_
  refine kp 7 (.bool false) ?_
  refine WpOps.nil (thenK_at (Wp.seq (Wp.text ?_)))
  refine kp 9 (.pointer (some ⟨0, 1, none⟩)) ?_
  refine kp 10 (.iface 48 (Value.iface (List.length ls) (Value.iface 0 (Value.agg (List.toArray (lcs ls)))))) ?_
  refine cl 11 59 [Value.iface 48 (Value.iface (List.length ls) (Value.iface 0 (Value.agg (List.toArray (lcs ls)))))] ?_
  refine WpCall.lent [] (c1) (by decide) trivial (by kernel_rfl) (Value.slice (some (Addr.mk (List.getD [4] 0 0) 0 none)) (List.length ls) (List.length ls)) ([Blk.mk 48 true (lcs ls)]) (.cons (unB_flat (by assumption)) .nil) (by kernel_rfl) (Heap.alloc (Heap.alloc (Heap.alloc (Heap.alloc (Heap.alloc Heap.none (Blk.mk 24 true [Value.int IntKind.i64 N, Value.iface 48 (Value.iface (List.length ls) (Value.iface 0 (Value.agg (List.toArray (lcs ls)))))])) (Blk.mk 3 true [Value.int IntKind.i64 a])) (Blk.mk 3 true [Value.int IntKind.i64 b])) (Blk.mk 24 true [Value.int IntKind.i64 0, Value.slice none 0 0])) (Blk.mk 48 true (lcs ls))) (by kernel_rfl) ?_
  refine kp 12 (.func (Fn.func 67) #[] #[Value.pointer (some ⟨1, 0, none⟩), Value.pointer (some ⟨2, 0, none⟩)]) ?_
  refine cl 13 66 [Value.slice (some (Addr.mk (List.getD [4] 0 0) 0 none)) (List.length ls) (List.length ls), Value.func (Fn.func 67) #[] #[Value.pointer (some ⟨1, 0, none⟩), Value.pointer (some ⟨2, 0, none⟩)]] ?_
  refine WpCall.enterL c2 (by simp only [none_heapOf, heapOf_alloc]; rfl) ?_
  refine kp 8 (.slice (some ⟨4, 0, none⟩) (List.length (cutL (hit a b) ls)) (List.length ls)) ?_
  refine WpOps.nil (thenK_at (Wp.seq ?_))
  refine Wp.regionT (by kernel_rfl) (by kernel_rfl) ?_
  refine kp 14 (.pointer (some ⟨0, 0, none⟩)) ?_
  refine kp 15 (.int IntKind.i64 N) ?_
  refine kp 16 (.slice (some ⟨4, 0, none⟩) (List.length (cutL (hit a b) ls)) (List.length ls)) ?_
  refine kp 17 (.agg #[Value.int .i64 N, Value.slice (some ⟨4, 0, none⟩) (List.length (cutL (hit a b) ls)) (List.length ls)]) ?_
  refine kp 18 (.slice (some ⟨4, 0, none⟩) (List.length (cutL (hit a b) ls)) (List.length ls)) ?_
  refine kp 19 (.int IntKind.i64 (↑(List.length (cutL (hit a b) ls)) : Int)) ?_
  refine kp 20 (.pointer (some ⟨0, 1, none⟩)) ?_
  refine kp 21 (.iface 48 (Value.iface (List.length ls) (Value.iface 0 (Value.agg (List.toArray (lcs ls)))))) ?_
  refine kp 22 (.int IntKind.i64 (↑(List.length ls) : Int)) ?_
  refine kp 23 (.bool true) ?_ (hop := fun _ => by_fact d)
  refine ld (.tuple #[]) (3) (Blk.mk 24 true [Value.int .i64 N, Value.slice (some ⟨4, 0, none⟩) (List.length (cutL (hit a b) ls)) (List.length ls)]) ?_
  refine kp 7 (.bool true) ?_
  refine WpOps.nil ?_
  refine ⟨by kernel_rfl, ?_⟩
  refine thenK_at (Wp.ret ?_)
  refine endK_retn [Value.agg #[Value.int IntKind.i64 N, Value.slice (some (Addr.mk 4 0 none)) (List.length (cutL (hit a b) ls)) (List.length ls)], Value.bool true] (Value.tuple #[Value.agg #[Value.int IntKind.i64 N, Value.slice (some (Addr.mk 4 0 none)) (List.length (cutL (hit a b) ls)) (List.length ls)], Value.bool true]) (by kernel_rfl) (by kernel_rfl) ?_
  exact net_ice (links_ice (ls := cutL (hit a b) ls) rfl) rfl
theorem clone59_nil : Lent E 59 [FS 48 0 2 #[]] [] (.slice none 0 0) [] := by
  refine Lent.of f59 rfl (of_decide_eq_true (by kernel_rfl)) rfl rfl (Nat.zero_le _) rfl rfl rfl ?_
  refine Wp.seq (Wp.text ?_)
  refine kp 2 (.slice none 0 0) ?_
  refine WpOps.nil (thenK_at (Wp.seq (Wp.seq (Wp.text ?_))))
  refine kp 3 (.iface 48 (Value.iface 0 (Value.iface 2 (Value.agg #[])))) ?_
  refine kp 4 (.bool true) ?_
  refine WpOps.nil (thenK_at (on' (Wp.seq (Wp.text ?_))))
  refine kp 2 (.slice none 0 0) ?_
  refine WpOps.nil (thenK_at (Wp.ret (thenK_ret ?_)))
  refine endK_retn [Value.slice none 0 0] (Value.slice none 0 0) (by kernel_rfl) (by kernel_rfl) ?_
  exact ⟨[], by decide, by kernel_rfl, trivial, .w (.un rfl rfl)⟩
theorem clone59_empty : Lent E 59 [FS 48 0 0 #[]] [] (.slice (some ⟨0, 0, none⟩) 0 0) [⟨48, true, []⟩] := by
  refine Lent.of f59 rfl (of_decide_eq_true (by kernel_rfl)) rfl rfl (Nat.zero_le _) rfl rfl rfl ?_
  refine Wp.seq (Wp.text ?_)
  refine kp 2 (.slice none 0 0) ?_
  refine WpOps.nil (thenK_at (Wp.seq (Wp.seq (Wp.text ?_))))
  refine kp 3 (.iface 48 (Value.iface 0 (Value.iface 0 (Value.agg #[])))) ?_
  refine kp 4 (.bool false) ?_
  refine WpOps.nil (thenK_at (off' (Wp.skip (thenK_at (Wp.seq (Wp.text ?_))))))
  refine md 5 (.slice (some ⟨0, 0, none⟩) 0 0) (Blk.mk 48 true []) ?_
  refine kp 6 (.iface 48 (Value.iface 0 (Value.iface 0 (Value.agg #[])))) ?_
  refine kp 7 (.slice (some ⟨0, 0, none⟩) 0 0) ?_
  refine kp 2 (.slice (some ⟨0, 0, none⟩) 0 0) ?_
  refine WpOps.nil (thenK_at (Wp.ret ?_))
  refine endK_retn [Value.slice (some (Addr.mk 0 0 none)) 0 0] (Value.slice (some (Addr.mk 0 0 none)) 0 0) (by kernel_rfl) (by kernel_rfl) ?_
  exact ⟨[0], by decide, by kernel_rfl, ⟨⟨[], by kernel_rfl, .nil⟩, trivial⟩, .w (.un rfl rfl)⟩
theorem wo57_nil (N a b : Int) : Fun E 57 [netV N 2 [], .int .i64 a, .int .i64 b] (.tuple #[netV N 2 [], .bool false]) := by
  refine Fun.ofN f57 rfl (of_decide_eq_true (by kernel_rfl)) (by kernel_rfl) ?_
  have c1 := clone59_nil
  have c2 : SCall E 66 [.slice none 0 0, .func (.func 67) #[] #[.pointer (some ⟨1, 0, none⟩), .pointer (some ⟨2, 0, none⟩)]] (heapOf [⟨24, true, [.int .i64 N, FS 48 0 2 #[]]⟩, ⟨3, true, [.int .i64 a]⟩, ⟨3, true, [.int .i64 b]⟩, ⟨24, true, [.int .i64 0, .slice none 0 0]⟩]) (.slice none 0 0) (heapOf [⟨24, true, [.int .i64 N, FS 48 0 2 #[]]⟩, ⟨3, true, [.int .i64 a]⟩, ⟨3, true, [.int .i64 b]⟩, ⟨24, true, [.int .i64 0, .slice none 0 0]⟩]) := SCall.closed 60 (by kernel_rfl)
  rw [show netV N 2 [] = .agg #[.int .i64 N, FS 48 0 2 #[]] from rfl]
  refine Wp.seq (Wp.text ?_)
  refine md 3 (.pointer (some ⟨0, 0, none⟩)) (Blk.mk 24 true [Value.int .i64 N, Value.iface 48 (Value.iface 0 (Value.iface 2 (Value.agg #[])))]) ?_
  refine md 4 (.pointer (some ⟨1, 0, none⟩)) (Blk.mk 3 true [Value.int .i64 a]) ?_
  refine md 5 (.pointer (some ⟨2, 0, none⟩)) (Blk.mk 3 true [Value.int .i64 b]) ?_
  refine md 6 (.pointer (some ⟨3, 0, none⟩)) (Blk.mk 24 true [Value.int .i64 0, Value.slice none 0 0]) ?_
  refine kp 7 (.bool false) ?_
  refine WpOps.nil (thenK_at (Wp.seq (Wp.text ?_)))
  refine kp 9 (.pointer (some ⟨0, 1, none⟩)) ?_
  refine kp 10 (.iface 48 (Value.iface 0 (Value.iface 2 (Value.agg #[])))) ?_
  refine cl 11 59 [Value.iface 48 (Value.iface 0 (Value.iface 2 (Value.agg #[])))] ?_
  refine WpCall.lent [] (c1) (by decide) trivial (by kernel_rfl) (Value.slice none 0 0) ([]) .nil (by kernel_rfl) (Heap.alloc (Heap.alloc (Heap.alloc (Heap.alloc Heap.none (Blk.mk 24 true [Value.int IntKind.i64 N, Value.iface 48 (Value.iface 0 (Value.iface 2 (Value.agg #[])))])) (Blk.mk 3 true [Value.int IntKind.i64 a])) (Blk.mk 3 true [Value.int IntKind.i64 b])) (Blk.mk 24 true [Value.int IntKind.i64 0, Value.slice none 0 0])) (by kernel_rfl) ?_
  refine kp 12 (.func (Fn.func 67) #[] #[Value.pointer (some ⟨1, 0, none⟩), Value.pointer (some ⟨2, 0, none⟩)]) ?_
  refine cl 13 66 [Value.slice none 0 0, Value.func (Fn.func 67) #[] #[Value.pointer (some ⟨1, 0, none⟩), Value.pointer (some ⟨2, 0, none⟩)]] ?_
  refine WpCall.enterL c2 (by simp only [none_heapOf, heapOf_alloc]; rfl) ?_
  refine kp 8 (.slice none 0 0) ?_
  refine WpOps.nil (thenK_at (Wp.seq ?_))
  refine Wp.regionT (by kernel_rfl) (by kernel_rfl) ?_
  refine kp 14 (.pointer (some ⟨0, 0, none⟩)) ?_
  refine kp 15 (.int IntKind.i64 N) ?_
  refine kp 16 (.slice none 0 0) ?_
  refine kp 17 (.agg #[Value.int .i64 N, Value.slice none 0 0]) ?_
  refine kp 18 (.slice none 0 0) ?_
  refine kp 19 (.int IntKind.i64 (↑0 : Int)) ?_
  refine kp 20 (.pointer (some ⟨0, 1, none⟩)) ?_
  refine kp 21 (.iface 48 (Value.iface 0 (Value.iface 2 (Value.agg #[])))) ?_
  refine kp 22 (.int IntKind.i64 (↑0 : Int)) ?_
  refine kp 23 (.bool false) ?_
  refine cg0 (.tuple #[]) (Heap.set (heapOf [Blk.mk 24 true [Value.int .i64 N, Value.iface 48 (Value.iface 0 (Value.iface 2 (Value.agg #[])))], Blk.mk 3 true [Value.int .i64 a], Blk.mk 3 true [Value.int .i64 b], Blk.mk 24 true [Value.int .i64 0, Value.slice none 0 0]]) 3 (some (Blk.mk 24 true [Value.int .i64 N, Value.slice none 0 0]))) ?_
  refine kp 7 (.bool false) ?_
  refine WpOps.nil ?_
  refine ⟨by kernel_rfl, ?_⟩
  refine thenK_at (Wp.ret ?_)
  refine endK_retn [Value.agg #[Value.int IntKind.i64 N, Value.slice none 0 0], Value.bool false] (Value.tuple #[Value.agg #[Value.int IntKind.i64 N, Value.slice none 0 0], Value.bool false]) (by kernel_rfl) (by kernel_rfl) ?_
  obtain ⟨ti, ht⟩ := E48
  exact ⟨_, by kernel_rfl, .tuple (.cons (.agg (.cons (.inl rfl) (.cons (.inr ⟨rfl, 48, ti, ht, rfl⟩) .nil))) (.cons (.c (.inl rfl)) .nil))⟩
theorem wo57_empty (N a b : Int) : Fun E 57 [netV N 0 [], .int .i64 a, .int .i64 b] (.tuple #[netV N 0 [], .bool false]) := by
  refine Fun.of f57 rfl (of_decide_eq_true (by kernel_rfl)) (by kernel_rfl) ?_
  have c2 : SCall E 66 [.slice (some ⟨4, 0, none⟩) 0 0, .func (.func 67) #[] #[.pointer (some ⟨1, 0, none⟩), .pointer (some ⟨2, 0, none⟩)]] (heapOf [⟨24, true, [.int .i64 N, FS 48 0 0 #[]]⟩, ⟨3, true, [.int .i64 a]⟩, ⟨3, true, [.int .i64 b]⟩, ⟨24, true, [.int .i64 0, .slice none 0 0]⟩, ⟨48, true, []⟩]) (.slice (some ⟨4, 0, none⟩) 0 0) (heapOf [⟨24, true, [.int .i64 N, FS 48 0 0 #[]]⟩, ⟨3, true, [.int .i64 a]⟩, ⟨3, true, [.int .i64 b]⟩, ⟨24, true, [.int .i64 0, .slice none 0 0]⟩, ⟨48, true, []⟩]) := SCall.closed 60 (by kernel_rfl)
  have c1 := clone59_empty
  rw [show netV N 0 [] = .agg #[.int .i64 N, FS 48 0 0 #[]] from rfl]
  refine Wp.seq (Wp.text ?_)
  refine md 3 (.pointer (some ⟨0, 0, none⟩)) (Blk.mk 24 true [Value.int .i64 N, Value.iface 48 (Value.iface 0 (Value.iface 0 (Value.agg #[])))]) ?_
  refine md 4 (.pointer (some ⟨1, 0, none⟩)) (Blk.mk 3 true [Value.int .i64 a]) ?_
  refine md 5 (.pointer (some ⟨2, 0, none⟩)) (Blk.mk 3 true [Value.int .i64 b]) ?_
  refine md 6 (.pointer (some ⟨3, 0, none⟩)) (Blk.mk 24 true [Value.int .i64 0, Value.slice none 0 0]) ?_
  refine kp 7 (.bool false) ?_
  refine WpOps.nil (thenK_at (Wp.seq (Wp.text ?_)))
  refine kp 9 (.pointer (some ⟨0, 1, none⟩)) ?_
  refine kp 10 (.iface 48 (Value.iface 0 (Value.iface 0 (Value.agg #[])))) ?_
  refine cl 11 59 [Value.iface 48 (Value.iface 0 (Value.iface 0 (Value.agg #[])))] ?_
  refine WpCall.lent [] (c1) (by decide) trivial (by kernel_rfl) (Value.slice (some (Addr.mk (List.getD [4] 0 0) 0 none)) 0 0) ([Blk.mk 48 true []]) (.cons (by kernel_rfl) .nil) (by kernel_rfl) (Heap.alloc (Heap.alloc (Heap.alloc (Heap.alloc (Heap.alloc Heap.none (Blk.mk 24 true [Value.int IntKind.i64 N, Value.iface 48 (Value.iface 0 (Value.iface 0 (Value.agg #[])))])) (Blk.mk 3 true [Value.int IntKind.i64 a])) (Blk.mk 3 true [Value.int IntKind.i64 b])) (Blk.mk 24 true [Value.int IntKind.i64 0, Value.slice none 0 0])) (Blk.mk 48 true [])) (by kernel_rfl) ?_
  refine kp 12 (.func (Fn.func 67) #[] #[Value.pointer (some ⟨1, 0, none⟩), Value.pointer (some ⟨2, 0, none⟩)]) ?_
  refine cl 13 66 [Value.slice (some (Addr.mk (List.getD [4] 0 0) 0 none)) 0 0, Value.func (Fn.func 67) #[] #[Value.pointer (some ⟨1, 0, none⟩), Value.pointer (some ⟨2, 0, none⟩)]] ?_
  refine WpCall.enterL c2 (by simp only [none_heapOf, heapOf_alloc]; rfl) ?_
  refine kp 8 (.slice (some ⟨4, 0, none⟩) 0 0) ?_
  refine WpOps.nil (thenK_at (Wp.seq ?_))
  refine Wp.regionT (by kernel_rfl) (by kernel_rfl) ?_
  refine kp 14 (.pointer (some ⟨0, 0, none⟩)) ?_
  refine kp 15 (.int IntKind.i64 N) ?_
  refine kp 16 (.slice (some ⟨4, 0, none⟩) 0 0) ?_
  refine kp 17 (.agg #[Value.int .i64 N, Value.slice (some ⟨4, 0, none⟩) 0 0]) ?_
  refine kp 18 (.slice (some ⟨4, 0, none⟩) 0 0) ?_
  refine kp 19 (.int IntKind.i64 (↑0 : Int)) ?_
  refine kp 20 (.pointer (some ⟨0, 1, none⟩)) ?_
  refine kp 21 (.iface 48 (Value.iface 0 (Value.iface 0 (Value.agg #[])))) ?_
  refine kp 22 (.int IntKind.i64 (↑0 : Int)) ?_
  refine kp 23 (.bool false) ?_
  refine cg0 (.tuple #[]) (Heap.set (heapOf [Blk.mk 24 true [Value.int .i64 N, Value.iface 48 (Value.iface 0 (Value.iface 0 (Value.agg #[])))], Blk.mk 3 true [Value.int .i64 a], Blk.mk 3 true [Value.int .i64 b], Blk.mk 24 true [Value.int .i64 0, Value.slice none 0 0], Blk.mk 48 true []]) 3 (some (Blk.mk 24 true [Value.int .i64 N, Value.slice (some ⟨4, 0, none⟩) 0 0]))) ?_
  refine kp 7 (.bool false) ?_
  refine WpOps.nil ?_
  refine ⟨by kernel_rfl, ?_⟩
  refine thenK_at (Wp.ret ?_)
  refine endK_retn [Value.agg #[Value.int IntKind.i64 N, Value.slice (some (Addr.mk 4 0 none)) 0 0], Value.bool false] (Value.tuple #[Value.agg #[Value.int IntKind.i64 N, Value.slice (some (Addr.mk 4 0 none)) 0 0], Value.bool false]) (by kernel_rfl) (by kernel_rfl) ?_
  kernel_rfl
/-- A call of Cut is as it should be. -/
def okCut (v : Bool) (N a b : Int) : Bool := v && nodeB N a && nodeB N b && !(a == b)
theorem okCut_nest (v x y z : Bool) : (bif (bif (bif !v then true else !x) then true else !y) then true else z) = !(v && x && y && !z) := by
  cases v <;> cases x <;> cases y <;> cases z <;> rfl
theorem f33 : E.funcs 33 = some Try.f33 := by kernel_rfl
theorem cut33_bad (N : Int) (x : Nat) (ls : List Lk) (a b : Int) (ok : Bool) (c1 : Fun E 25 [netV N x ls] (.bool ok)) (hb : okCut ok N a b = false) : Fun E 33 [netV N x ls, .int .i64 a, .int .i64 b] (.tuple #[netV 0 2 [], .int .i64 1]) := by
  refine Fun.ofN f33 rfl (of_decide_eq_true (by kernel_rfl)) (by kernel_rfl) ?_
  have c2 := node53 N x ls a
  have c3 := node53 N x ls b
  have hab : ∃ z, (a == b) = z := ⟨_, rfl⟩
  obtain ⟨z, hz⟩ := hab
  unfold netV lks at c1 c2 c3
  unfold okCut at hb
  rw [hz] at hb
  generalize nodeB N a = p at c2 hb
  generalize nodeB N b = q at c3 hb
  unfold netV lks
  refine Wp.seq (Wp.text ?_)
  refine md 3 (.pointer (some ⟨0, 0, none⟩)) (Blk.mk 24 true [Value.int .i64 N, Value.iface 48 (Value.iface (List.length ls) (Value.iface x (Value.agg (List.toArray (lcs ls)))))]) ?_
  refine md 6 (.pointer (some ⟨1, 0, none⟩)) (Blk.mk 24 true [Value.int .i64 0, Value.slice none 0 0]) ?_
  refine kp 7 (.int IntKind.i64 0) ?_
  refine WpOps.nil (thenK_at (Wp.seq (Wp.seq (Wp.text ?_))))
  refine kp 10 (.agg #[Value.int .i64 N, Value.iface 48 (Value.iface (List.length ls) (Value.iface x (Value.agg (List.toArray (lcs ls)))))]) ?_
  refine fr 11 25 [Value.agg #[Value.int .i64 N, Value.iface 48 (Value.iface (List.length ls) (Value.iface x (Value.agg (List.toArray (lcs ls)))))]] ?_
  refine WpFun.of (c1) ?_
  refine kp 12 (.bool !ok) ?_
  refine kp 13 (.bool !ok) ?_
  refine WpOps.fork 5 (!ok) [14, 15, 16, 17, 18] 18 (true) (!p) (by kernel_rfl) (fun g18 => ?_) (fun g18 => ?_) (fun f_18 b18 hb18 => ?_)
  · refine um 14 ?_ (hw := wants_tf g18)
    refine um 15 ?_ (hw := wants_tf g18)
    refine um 16 ?_ (hw := wants_tf g18)
    refine um 17 ?_ (hw := wants_tf g18)
    refine kp 18 (.bool true) ?_ (hop := fun _ => o_pickT g18)
    refine WpOps.nil ?_
    exact ⟨rfl, (.upd rfl (.upd rfl (.upd rfl (.upd rfl (.upd rfl .refl))))), (by kernel_rfl)⟩
  · refine kp 14 (.agg #[Value.int .i64 N, Value.iface 48 (Value.iface (List.length ls) (Value.iface x (Value.agg (List.toArray (lcs ls)))))]) ?_ (hw := wants_ff g18)
    refine kp 15 (.int IntKind.i64 a) ?_ (hw := wants_ff g18)
    refine fr 16 53 [Value.agg #[Value.int .i64 N, Value.iface 48 (Value.iface (List.length ls) (Value.iface x (Value.agg (List.toArray (lcs ls)))))], Value.int .i64 a] ?_ (hw := wants_ff g18)
    refine WpFun.of (c2) ?_
    refine kp 17 (.bool !p) ?_ (hw := wants_ff g18)
    refine kp 18 (.bool !p) ?_ (hop := fun _ => o_pickF g18)
    refine WpOps.nil ?_
    exact ⟨rfl, (.upd rfl (.upd rfl (.upd rfl (.upd rfl (.upd rfl .refl))))), (by kernel_rfl)⟩
  refine kp 19 (.bool b18) ?_
  refine WpOps.fork 5 (b18) [20, 21, 22, 23, 24] 24 (true) (!q) (by kernel_rfl) (fun g24 => ?_) (fun g24 => ?_) (fun f_24 b24 hb24 => ?_)
  · refine um 20 ?_ (hw := wants_tf g24)
    refine um 21 ?_ (hw := wants_tf g24)
    refine um 22 ?_ (hw := wants_tf g24)
    refine um 23 ?_ (hw := wants_tf g24)
    refine kp 24 (.bool true) ?_ (hop := fun _ => o_pickT g24)
    refine WpOps.nil ?_
    exact ⟨rfl, (.upd rfl (.upd rfl (.upd rfl (.upd rfl (.upd rfl .refl))))), (by kernel_rfl)⟩
  · refine kp 20 (.agg #[Value.int .i64 N, Value.iface 48 (Value.iface (List.length ls) (Value.iface x (Value.agg (List.toArray (lcs ls)))))]) ?_ (hw := wants_ff g24)
    refine kp 21 (.int IntKind.i64 b) ?_ (hw := wants_ff g24)
    refine fr 22 53 [Value.agg #[Value.int .i64 N, Value.iface 48 (Value.iface (List.length ls) (Value.iface x (Value.agg (List.toArray (lcs ls)))))], Value.int .i64 b] ?_ (hw := wants_ff g24)
    refine WpFun.of (c3) ?_
    refine kp 23 (.bool !q) ?_ (hw := wants_ff g24)
    refine kp 24 (.bool !q) ?_ (hop := fun _ => o_pickF g24)
    refine WpOps.nil ?_
    exact ⟨rfl, (.upd rfl (.upd rfl (.upd rfl (.upd rfl (.upd rfl .refl))))), (by kernel_rfl)⟩
  refine kp 25 (.bool b24) ?_
  refine WpOps.fork 4 (b24) [26, 27, 28, 29] 29 (true) (a == b) (by kernel_rfl) (fun g29 => ?_) (fun g29 => ?_) (fun f_29 b29 hb29 => ?_)
  · refine um 26 ?_ (hw := wants_tf g29)
    refine um 27 ?_ (hw := wants_tf g29)
    refine um 28 ?_ (hw := wants_tf g29)
    refine kp 29 (.bool true) ?_ (hop := fun _ => o_pickT g29)
    refine WpOps.nil ?_
    exact ⟨rfl, (.upd rfl (.upd rfl (.upd rfl (.upd rfl .refl)))), (by kernel_rfl)⟩
  · refine kp 26 (.int IntKind.i64 a) ?_ (hw := wants_ff g29)
    refine kp 27 (.int IntKind.i64 b) ?_ (hw := wants_ff g29)
    refine kp 28 (.bool (a == b)) ?_ (hw := wants_ff g29)
    refine kp 29 (.bool (a == b)) ?_ (hop := fun _ => o_pickF g29)
    refine WpOps.nil ?_
    exact ⟨rfl, (.upd rfl (.upd rfl (.upd rfl (.upd rfl .refl)))), (by kernel_rfl)⟩
  refine WpOps.nil (thenK_at ?_)
  obtain rfl : b29 = true := by
    rw [hb29, hb24, hb18, hz, okCut_nest, hb]
    rfl
  refine on' (Wp.seq (Wp.text ?_))
  refine kp 30 (.agg #[Value.int .i64 0, Value.slice none 0 0]) ?_
  refine ld (.tuple #[]) (1) (Blk.mk 24 true [Value.int .i64 0, Value.slice none 0 0]) ?_
  refine kp 7 (.int IntKind.i64 1) ?_
  refine WpOps.nil (thenK_at (Wp.ret (thenK_ret ?_)))
  refine endK_retn [Value.agg #[Value.int IntKind.i64 0, Value.slice none 0 0], Value.int IntKind.i64 1] (Value.tuple #[Value.agg #[Value.int IntKind.i64 0, Value.slice none 0 0], Value.int IntKind.i64 1]) (by kernel_rfl) (by kernel_rfl) ?_
  obtain ⟨ti, ht⟩ := E48
  exact ⟨_, by kernel_rfl, .tuple (.cons (.agg (.cons (.inl rfl) (.cons (.inr ⟨rfl, 48, ti, ht, rfl⟩) .nil))) (.cons (.c (.inl rfl)) .nil))⟩
theorem okCut_parts {ok : Bool} {N a b : Int} (h : okCut ok N a b = true) : ok = true ∧ nodeB N a = true ∧ nodeB N b = true ∧ (a == b) = false := by
  unfold okCut at h
  simp only [Bool.and_eq_true] at h
  exact ⟨h.1.1.1, h.1.1.2, h.1.2, by simpa using h.2⟩
theorem cut33_none (N : Int) (x : Nat) (ls : List Lk) (a b : Int) (c1 : Fun E 25 [netV N x ls] (.bool true)) (hb : okCut true N a b = true) (c4 : Fun E 57 [netV N x ls, .int .i64 a, .int .i64 b] (.tuple #[netV N x ls, .bool false])) : Fun E 33 [netV N x ls, .int .i64 a, .int .i64 b] (.tuple #[netV 0 2 [], .int .i64 3]) := by
  refine Fun.ofN f33 rfl (of_decide_eq_true (by kernel_rfl)) (by kernel_rfl) ?_
  have c2 := node53 N x ls a
  have c3 := node53 N x ls b
  obtain ⟨h0, h1, h2, h3⟩ := okCut_parts hb
  rw [h1] at c2
  rw [h2] at c3
  clear hb h0 h1 h2
  unfold netV lks at *
  refine Wp.seq (Wp.text ?_)
  refine md 3 (.pointer (some ⟨0, 0, none⟩)) (Blk.mk 24 true [Value.int .i64 N, Value.iface 48 (Value.iface (List.length ls) (Value.iface x (Value.agg (List.toArray (lcs ls)))))]) ?_
  refine md 6 (.pointer (some ⟨1, 0, none⟩)) (Blk.mk 24 true [Value.int .i64 0, Value.slice none 0 0]) ?_
  refine kp 7 (.int IntKind.i64 0) ?_
  refine WpOps.nil (thenK_at (Wp.seq (Wp.seq (Wp.text ?_))))
  refine kp 10 (.agg #[Value.int .i64 N, Value.iface 48 (Value.iface (List.length ls) (Value.iface x (Value.agg (List.toArray (lcs ls)))))]) ?_
  refine fr 11 25 [Value.agg #[Value.int .i64 N, Value.iface 48 (Value.iface (List.length ls) (Value.iface x (Value.agg (List.toArray (lcs ls)))))]] ?_
  refine WpFun.of (c1) ?_
  refine kp 12 (.bool false) ?_
  refine kp 13 (.bool false) ?_
  refine kp 14 (.agg #[Value.int .i64 N, Value.iface 48 (Value.iface (List.length ls) (Value.iface x (Value.agg (List.toArray (lcs ls)))))]) ?_
  refine kp 15 (.int IntKind.i64 a) ?_
  refine fr 16 53 [Value.agg #[Value.int .i64 N, Value.iface 48 (Value.iface (List.length ls) (Value.iface x (Value.agg (List.toArray (lcs ls)))))], Value.int .i64 a] ?_
  refine WpFun.of (c2) ?_
  refine kp 17 (.bool false) ?_
  refine kp 18 (.bool false) ?_
  refine kp 19 (.bool false) ?_
  refine kp 20 (.agg #[Value.int .i64 N, Value.iface 48 (Value.iface (List.length ls) (Value.iface x (Value.agg (List.toArray (lcs ls)))))]) ?_
  refine kp 21 (.int IntKind.i64 b) ?_
  refine fr 22 53 [Value.agg #[Value.int .i64 N, Value.iface 48 (Value.iface (List.length ls) (Value.iface x (Value.agg (List.toArray (lcs ls)))))], Value.int .i64 b] ?_
  refine WpFun.of (c3) ?_
  refine kp 23 (.bool false) ?_
  refine kp 24 (.bool false) ?_
  refine kp 25 (.bool false) ?_
  refine kp 26 (.int IntKind.i64 a) ?_
  refine kp 27 (.int IntKind.i64 b) ?_
  refine kp 28 (.bool false) ?_ (hop := fun _ => by_fact h3)
  refine kp 29 (.bool false) ?_
  refine WpOps.nil (thenK_at (off' (Wp.skip (thenK_at (Wp.seq (Wp.text ?_))))))
  refine kp 32 (.agg #[Value.int .i64 N, Value.iface 48 (Value.iface (List.length ls) (Value.iface x (Value.agg (List.toArray (lcs ls)))))]) ?_
  refine kp 33 (.int IntKind.i64 a) ?_
  refine kp 34 (.int IntKind.i64 b) ?_
  refine fr 35 57 [Value.agg #[Value.int .i64 N, Value.iface 48 (Value.iface (List.length ls) (Value.iface x (Value.agg (List.toArray (lcs ls)))))], Value.int .i64 a, Value.int .i64 b] ?_
  refine WpFun.of (c4) ?_
  refine kp 31 (.tuple #[Value.agg #[Value.int .i64 N, FS 48 (List.length ls) x (List.toArray (lcs ls))], Value.bool false]) ?_
  refine kp 36 (.agg #[Value.int .i64 N, FS 48 (List.length ls) x (List.toArray (lcs ls))]) ?_
  refine kp 37 (.bool false) ?_
  refine md 8 (.pointer (some ⟨2, 0, none⟩)) (Blk.mk 24 true [Value.int .i64 0, Value.slice none 0 0]) ?_
  refine ld (.tuple #[]) (2) (Blk.mk 24 true [Value.int .i64 N, Value.iface 48 (Value.iface (List.length ls) (Value.iface x (Value.agg (List.toArray (lcs ls)))))]) ?_
  refine kp 9 (.bool false) ?_
  refine WpOps.nil (thenK_at (Wp.seq (Wp.seq (Wp.text ?_))))
  refine kp 38 (.bool false) ?_
  refine kp 39 (.bool true) ?_
  refine WpOps.nil (thenK_at (on' (Wp.seq (Wp.text ?_))))
  refine kp 40 (.agg #[Value.int .i64 0, Value.slice none 0 0]) ?_
  refine ld (.tuple #[]) (1) (Blk.mk 24 true [Value.int .i64 0, Value.slice none 0 0]) ?_
  refine kp 7 (.int IntKind.i64 3) ?_
  refine WpOps.nil (thenK_at (Wp.ret (thenK_ret ?_)))
  refine endK_retn [Value.agg #[Value.int IntKind.i64 0, Value.slice none 0 0], Value.int IntKind.i64 3] (Value.tuple #[Value.agg #[Value.int IntKind.i64 0, Value.slice none 0 0], Value.int IntKind.i64 3]) (by kernel_rfl) (by kernel_rfl) ?_
  obtain ⟨ti, ht⟩ := E48
  exact ⟨_, by kernel_rfl, .tuple (.cons (.agg (.cons (.inl rfl) (.cons (.inr ⟨rfl, 48, ti, ht, rfl⟩) .nil))) (.cons (.c (.inl rfl)) .nil))⟩
theorem cut33_ok (N : Int) (x : Nat) (ls : List Lk) (a b : Int) (c1 : Fun E 25 [netV N x ls] (.bool true)) (hb : okCut true N a b = true) (l2 : List Lk) (c4 : Fun E 57 [netV N x ls, .int .i64 a, .int .i64 b] (.tuple #[netV N 0 l2, .bool true])) : Fun E 33 [netV N x ls, .int .i64 a, .int .i64 b] (.tuple #[netV N 0 l2, .int .i64 0]) := by
  refine Fun.of f33 rfl (of_decide_eq_true (by kernel_rfl)) rfl ?_
  have c2 := node53 N x ls a
  have c3 := node53 N x ls b
  obtain ⟨h0, h1, h2, h3⟩ := okCut_parts hb
  rw [h1] at c2
  rw [h2] at c3
  clear hb h0 h1 h2
  unfold netV lks at *
  refine Wp.seq (Wp.text ?_)
  refine md 3 (.pointer (some ⟨0, 0, none⟩)) (Blk.mk 24 true [Value.int .i64 N, Value.iface 48 (Value.iface (List.length ls) (Value.iface x (Value.agg (List.toArray (lcs ls)))))]) ?_
  refine md 6 (.pointer (some ⟨1, 0, none⟩)) (Blk.mk 24 true [Value.int .i64 0, Value.slice none 0 0]) ?_
  refine kp 7 (.int IntKind.i64 0) ?_
  refine WpOps.nil (thenK_at (Wp.seq (Wp.seq (Wp.text ?_))))
  refine kp 10 (.agg #[Value.int .i64 N, Value.iface 48 (Value.iface (List.length ls) (Value.iface x (Value.agg (List.toArray (lcs ls)))))]) ?_
  refine fr 11 25 [Value.agg #[Value.int .i64 N, Value.iface 48 (Value.iface (List.length ls) (Value.iface x (Value.agg (List.toArray (lcs ls)))))]] ?_
  refine WpFun.of (c1) ?_
  refine kp 12 (.bool false) ?_
  refine kp 13 (.bool false) ?_
  refine kp 14 (.agg #[Value.int .i64 N, Value.iface 48 (Value.iface (List.length ls) (Value.iface x (Value.agg (List.toArray (lcs ls)))))]) ?_
  refine kp 15 (.int IntKind.i64 a) ?_
  refine fr 16 53 [Value.agg #[Value.int .i64 N, Value.iface 48 (Value.iface (List.length ls) (Value.iface x (Value.agg (List.toArray (lcs ls)))))], Value.int .i64 a] ?_
  refine WpFun.of (c2) ?_
  refine kp 17 (.bool false) ?_
  refine kp 18 (.bool false) ?_
  refine kp 19 (.bool false) ?_
  refine kp 20 (.agg #[Value.int .i64 N, Value.iface 48 (Value.iface (List.length ls) (Value.iface x (Value.agg (List.toArray (lcs ls)))))]) ?_
  refine kp 21 (.int IntKind.i64 b) ?_
  refine fr 22 53 [Value.agg #[Value.int .i64 N, Value.iface 48 (Value.iface (List.length ls) (Value.iface x (Value.agg (List.toArray (lcs ls)))))], Value.int .i64 b] ?_
  refine WpFun.of (c3) ?_
  refine kp 23 (.bool false) ?_
  refine kp 24 (.bool false) ?_
  refine kp 25 (.bool false) ?_
  refine kp 26 (.int IntKind.i64 a) ?_
  refine kp 27 (.int IntKind.i64 b) ?_
  refine kp 28 (.bool false) ?_ (hop := fun _ => by_fact h3)
  refine kp 29 (.bool false) ?_
  refine WpOps.nil (thenK_at (off' (Wp.skip (thenK_at (Wp.seq (Wp.text ?_))))))
  refine kp 32 (.agg #[Value.int .i64 N, Value.iface 48 (Value.iface (List.length ls) (Value.iface x (Value.agg (List.toArray (lcs ls)))))]) ?_
  refine kp 33 (.int IntKind.i64 a) ?_
  refine kp 34 (.int IntKind.i64 b) ?_
  refine fr 35 57 [Value.agg #[Value.int .i64 N, Value.iface 48 (Value.iface (List.length ls) (Value.iface x (Value.agg (List.toArray (lcs ls)))))], Value.int .i64 a, Value.int .i64 b] ?_
  refine WpFun.of (c4) ?_
  refine kp 31 (.tuple #[Value.agg #[Value.int .i64 N, FS 48 (List.length l2) 0 (List.toArray (lcs l2))], Value.bool true]) ?_
  refine kp 36 (.agg #[Value.int .i64 N, FS 48 (List.length l2) 0 (List.toArray (lcs l2))]) ?_
  refine kp 37 (.bool true) ?_
  refine md 8 (.pointer (some ⟨2, 0, none⟩)) (Blk.mk 24 true [Value.int .i64 0, Value.slice none 0 0]) ?_
  refine ld (.tuple #[]) (2) (Blk.mk 24 true [Value.int .i64 N, Value.iface 48 (Value.iface (List.length l2) (Value.iface 0 (Value.agg (List.toArray (lcs l2)))))]) ?_
  refine kp 9 (.bool true) ?_
  refine WpOps.nil (thenK_at (Wp.seq (Wp.seq (Wp.text ?_))))
  refine kp 38 (.bool true) ?_
  refine kp 39 (.bool false) ?_
  refine WpOps.nil (thenK_at (off' (Wp.skip (thenK_at (Wp.seq (Wp.text ?_))))))
  refine kp 41 (.agg #[Value.int .i64 N, Value.iface 48 (Value.iface (List.length l2) (Value.iface 0 (Value.agg (List.toArray (lcs l2)))))]) ?_
  refine ld (.tuple #[]) (1) (Blk.mk 24 true [Value.int .i64 N, Value.iface 48 (Value.iface (List.length l2) (Value.iface 0 (Value.agg (List.toArray (lcs l2)))))]) ?_
  refine kp 7 (.int IntKind.i64 0) ?_
  refine WpOps.nil (thenK_at (Wp.ret ?_))
  refine endK_retn [Value.agg #[Value.int IntKind.i64 N, Value.iface 48 (Value.iface (List.length l2) (Value.iface 0 (Value.agg (List.toArray (lcs l2)))))], Value.int IntKind.i64 0] (Value.tuple #[Value.agg #[Value.int IntKind.i64 N, Value.iface 48 (Value.iface (List.length l2) (Value.iface 0 (Value.agg (List.toArray (lcs l2)))))], Value.int IntKind.i64 0]) (by kernel_rfl) (by kernel_rfl) ?_
  rfl
/-- Cut, of the program. -/
theorem cut33 (N : Int) (x : Nat) (ls : List Lk) (a b : Int) (hx : x = 0 ∨ (x = 2 ∧ ls = [])) (hn : ls.length * 24 ≤ 140737488351232) (c1 : Fun E 25 [netV N x ls] (.bool true)) (hb : okCut true N a b = true) :
    (ls.find? (hit a b) = none ∧ Fun E 33 [netV N x ls, .int .i64 a, .int .i64 b] (.tuple #[netV 0 2 [], .int .i64 3])) ∨ (ls.find? (hit a b) ≠ none ∧ Fun E 33 [netV N x ls, .int .i64 a, .int .i64 b] (.tuple #[netV N 0 (cutL (hit a b) ls), .int .i64 0])) := by
  have hg : ∀ j (h : j < ls.length), ls.getD j (0, 0, 0) = ls[j] := fun j h => by rw [List.getD_eq_getElem?_getD, List.getElem?_eq_getElem h]; rfl
  cases e : ls.find? (hit a b) with
  | none =>
    refine .inl ⟨rfl, ?_⟩
    have h2 : ∀ j, j < ls.length → hit a b (ls.getD j (0, 0, 0)) = false := fun j hj => by
      rw [hg j hj]
      have := List.find?_eq_none.1 e _ (List.getElem_mem hj)
      simpa using this
    rcases Nat.eq_zero_or_pos ls.length with h0 | h0
    · obtain rfl := List.eq_nil_of_length_eq_zero h0
      rcases hx with rfl | ⟨rfl, _⟩
      · exact cut33_none N 0 [] a b c1 hb (wo57_empty N a b)
      · exact cut33_none N 2 [] a b c1 hb (wo57_nil N a b)
    · rcases hx with rfl | ⟨rfl, rfl⟩
      · exact cut33_none N 0 ls a b c1 hb (wo57_no N ls a b hn h0 h2)
      · cases h0
  | some l =>
    refine .inr ⟨by simp, ?_⟩
    have e' := e
    rw [List.find?_eq_some_iff_getElem] at e'
    obtain ⟨hl, k, hk, he, hp⟩ := e'
    rcases hx with rfl | ⟨rfl, rfl⟩
    · refine cut33_ok N 0 ls a b c1 hb _ (wo57 N ls a b k hn hk (fun j hj => ?_) (by rw [hg k hk, he]; exact hl) ?_)
      · rw [hg j (by omega)]
        have := hp j hj
        simpa using this
      · unfold cutL
        have : ls.countP (fun l => !hit a b l) < ls.length := by
          rw [List.countP_eq_length_filter]
          have h1 := List.length_filter_le (fun l => !hit a b l) ls
          rcases Nat.lt_or_ge (ls.filter fun l => !hit a b l).length ls.length with h | h
          · exact h
          · exfalso
            have h5 : (ls.filter fun l => !hit a b l).length = ls.length := by omega
            have h6 := List.length_filter_eq_length_iff.1 h5 l (List.mem_of_find?_eq_some e)
            rw [hl] at h6
            cases h6
        rw [List.countP_eq_length_filter] at this
        exact this
    · cases hk
open Go.Fw Go.RowKit

def modN (x : Int) (n : Nat) : Int := if x.tmod n < 0 then x.tmod n + n else x.tmod n
theorem f39 : E.funcs 39 = some Try.f39 := by kernel_rfl
theorem mod39 (x : Int) (n : Nat) (hn : 0 < n) (h : n ≤ 17592186044416) : Fun E 39 [.int .i64 x, .int .i64 n] (.int .i64 (modN x n)) := by
  refine Fun.of f39 rfl (of_decide_eq_true (by kernel_rfl)) rfl ?_
  have c0 : decide ((n : Int) < 1) = false := decide_eq_false (by omega)
  have n0 : ¬ (n : Int) = 0 := by omega
  have h1 := Int.tmod_lt_of_pos x (b := n) (by omega)
  have h2 := Int.lt_tmod_of_pos x (b := n) (by omega)
  refine Wp.seq (Wp.text ?_)
  refine kp 4 (.int IntKind.i64 0) ?_
  refine WpOps.nil (thenK_at (Wp.seq (Wp.seq (Wp.text ?_))))
  refine kp 6 (.int IntKind.i64 (↑n : Int)) ?_
  refine kp 7 (.bool false) ?_ (hop := fun _ => by_fact c0)
  refine WpOps.nil (thenK_at (off' (Wp.skip (thenK_at (Wp.seq (Wp.text ?_))))))
  refine kp 8 (.int IntKind.i64 x) ?_
  refine kp 9 (.int IntKind.i64 (↑n : Int)) ?_
  refine kp 10 (.int IntKind.i64 (Int.tmod x (↑n : Int))) ?_ (hop := fun _ => o_rem n0)
  refine kp 5 (.int IntKind.i64 (Int.tmod x (↑n : Int))) ?_
  refine WpOps.nil (thenK_at (Wp.seq (Wp.seq (Wp.text ?_))))
  refine kp 11 (.int IntKind.i64 (Int.tmod x (↑n : Int))) ?_
  refine kp 12 (.bool (decide (Int.tmod x (↑n : Int) < 0))) ?_
  refine WpOps.nil (thenK_at ?_)
  refine Wp.split (decide (Int.tmod x (↑n : Int) < 0)) (by kernel_rfl) (fun hc => ?_) (fun hc => ?_)
  · have hl := of_decide_eq_true hc
    have hm : modN x n = x.tmod n + n := if_pos hl
    have hw : IntKind.i64.wrap (x.tmod n + n) = modN x n := by rw [hm, wr _ (by omega) (by omega)]
    refine Wp.text ?_
    refine kp 13 (.int IntKind.i64 (Int.tmod x (↑n : Int))) ?_
    refine kp 14 (.int IntKind.i64 (↑n : Int)) ?_
    refine kp 15 (.int IntKind.i64 (IntKind.wrap .i64 (Int.tmod x (↑n : Int) + (↑n : Int)))) ?_
    refine kp 5 (.int IntKind.i64 (IntKind.wrap .i64 (Int.tmod x (↑n : Int) + (↑n : Int)))) ?_
    refine WpOps.nil (thenK_at (Wp.seq (Wp.text ?_)))
    refine kp 16 (.int IntKind.i64 (IntKind.wrap .i64 (Int.tmod x (↑n : Int) + (↑n : Int)))) ?_
    refine kp 4 (.int IntKind.i64 (IntKind.wrap .i64 (Int.tmod x (↑n : Int) + (↑n : Int)))) ?_
    refine WpOps.nil (thenK_at (Wp.ret ?_))
    refine endK_retn [Value.int IntKind.i64 (IntKind.wrap IntKind.i64 (Int.tmod x (↑n : Int) + (↑n : Int)))] (Value.int IntKind.i64 (IntKind.wrap IntKind.i64 (Int.tmod x (↑n : Int) + (↑n : Int)))) (by kernel_rfl) (by kernel_rfl) ?_
    rw [hw]
    rfl
  · have hm : modN x n = x.tmod n := if_neg (of_decide_eq_false hc)
    refine Wp.skip (thenK_at (Wp.seq (Wp.text ?_)))
    refine kp 16 (.int IntKind.i64 (Int.tmod x (↑n : Int))) ?_
    refine kp 4 (.int IntKind.i64 (Int.tmod x (↑n : Int))) ?_
    refine WpOps.nil (thenK_at (Wp.ret ?_))
    refine endK_retn [Value.int IntKind.i64 (Int.tmod x (↑n : Int))] (Value.int IntKind.i64 (Int.tmod x (↑n : Int))) (by kernel_rfl) (by kernel_rfl) ?_
    rw [hm]
    rfl
theorem modN_range (x : Int) {n : Nat} (hn : 0 < n) : ∃ k : Nat, modN x n = k ∧ k < n := by
  have h1 := Int.tmod_lt_of_pos x (b := n) (by omega)
  have h2 := Int.lt_tmod_of_pos x (b := n) (by omega)
  have : 0 ≤ modN x n ∧ modN x n < n := by
    unfold modN
    split <;> omega
  exact ⟨(modN x n).toNat, by omega, by omega⟩
/-! ## validity in plain terms -/
def distL : List Lk → Prop
  | [] => True
  | l :: r => (∀ m ∈ r, sameE l m = false) ∧ distL r
theorem distL_of : ∀ (ls : List Lk), (∀ k, k < ls.length → ∀ j, j < k → sameE (lk ls j) (lk ls k) = false) → distL ls
  | [], _ => trivial
  | l :: r, h => by
    refine ⟨fun m hm => ?_, distL_of r fun k hk j hj => ?_⟩
    · obtain ⟨k, hk, rfl⟩ := lk_mem hm
      have := h (k + 1) (by simp; omega) 0 (by omega)
      exact this
    · have := h (k + 1) (by simp; omega) (j + 1) (by omega)
      exact this
theorem of_distL : ∀ {ls : List Lk}, distL ls → ∀ k, k < ls.length → ∀ j, j < k → sameE (lk ls j) (lk ls k) = false
  | [], _, k, hk, _, _ => absurd hk (Nat.not_lt_zero _)
  | l :: r, ⟨h1, h2⟩, 0, _, j, hj => absurd hj (Nat.not_lt_zero _)
  | l :: r, ⟨h1, h2⟩, k + 1, hk, 0, hj => by
    have hk' : k < r.length := by simpa using hk
    refine h1 (lk r k) ?_
    unfold lk
    rw [List.getD_eq_getElem?_getD, List.getElem?_eq_getElem hk']
    exact List.getElem_mem _
  | l :: r, ⟨h1, h2⟩, k + 1, hk, j + 1, hj => of_distL h2 k (by simpa using hk) j (by omega)
theorem distL_filter {p : Lk → Bool} : ∀ {ls : List Lk}, distL ls → distL (ls.filter p)
  | [], _ => trivial
  | l :: r, ⟨h1, h2⟩ => by
    rw [List.filter_cons]
    split
    · exact ⟨fun m hm => h1 m (List.mem_filter.1 hm).1, distL_filter h2⟩
    · exact distL_filter h2
theorem valid_iff {N : Int} {ls : List Lk} : valid N ls = true ↔ (1 ≤ N ∧ N ≤ 20) ∧ (∀ l ∈ ls, okB N l = true) ∧ distL ls := by
  constructor
  · intro h
    unfold valid at h
    simp only [Bool.and_eq_true, decide_eq_true_eq] at h
    obtain ⟨h1, h3⟩ := h
    have hk : ∀ k, k < ls.length → okB N (lk ls k) = true ∧ ∀ j, j < k → sameE (lk ls j) (lk ls k) = false := fun k hk => by
      have := allR_at h3 hk
      unfold linkB at this
      rw [Bool.and_eq_true] at this
      refine ⟨this.1, fun j hj => ?_⟩
      have h4 := allR_at this.2 hj
      simpa using h4
    refine ⟨h1, fun l hl => ?_, distL_of ls fun k hk2 => (hk k hk2).2⟩
    obtain ⟨k, hk2, rfl⟩ := lk_mem hl
    exact (hk k hk2).1
  · rintro ⟨h1, h2, h3⟩
    unfold valid
    simp only [Bool.and_eq_true, decide_eq_true_eq]
    refine ⟨h1, allR_true fun k hk => ?_⟩
    unfold linkB
    rw [Bool.and_eq_true]
    refine ⟨h2 _ ?_, allR_true fun j hj => ?_⟩
    · unfold lk
      rw [List.getD_eq_getElem?_getD, List.getElem?_eq_getElem hk]
      exact List.getElem_mem _
    · rw [of_distL h3 k hk j hj]
      rfl
theorem valid_cut {N : Int} {ls : List Lk} {P : Lk → Bool} (h : valid N ls = true) : valid N (cutL P ls) = true := by
  obtain ⟨h1, h2, h3⟩ := valid_iff.1 h
  exact valid_iff.2 ⟨h1, fun l hl => h2 l (List.mem_filter.1 hl).1, distL_filter h3⟩
theorem hit_self {l : Lk} (h : l.1 < l.2.1) : hit l.1 l.2.1 l = true := by
  unfold hit
  rw [if_neg (by omega), if_pos (by omega)]
  simp
theorem f11 : E.funcs 11 = some Try.f11 := by kernel_rfl
set_option maxHeartbeats 8000000 in
theorem law11_ok (n x : Nat) (ls : List Lk) (at' : Int) (poison : Bool) (hx : x = 0 ∨ (x = 2 ∧ ls = [])) (hy : ls.length * 24 ≤ 140737488351232) (g : Good n ls) (hv : valid n ls = true) (h0 : 0 < ls.length) : Fun E 11 [netV n x ls, .int .i64 at', .bool poison] (.bool true) := by
  have c0 := sane17
  have hN := g.hN
  have v1 := valid25 n x ls (by omega)
  have v2 := valid26 n 0 ls (by omega)
  rw [hv] at v1 v2
  have t1 := to14 n x ls hy
  have s1 := start21 n x ls g.hN v1
  have c3 := settled (x := x) (poison := poison) g hv hy (first_good n)
  have D := dist_of (N := n) g.range g.diag
  have gt := (starts (poison := poison) g).2.good D
  generalize it n (cF ls) poison firstF (stop n (cF ls) poison firstF 1000) = f2 at c3 gt
  generalize stop n (cF ls) poison firstF 1000 = s at c3
  have c4 := mod39 at' ls.length h0 (by omega)
  obtain ⟨k, hk, hlt⟩ := modN_range at' h0
  rw [hk] at c4
  have hl := lcs_cells ls k (0, 0, 0) hlt
  have hmem : ls.getD k (0, 0, 0) ∈ ls := by
    rw [List.getD_eq_getElem?_getD, List.getElem?_eq_getElem hlt]
    exact List.getElem_mem _
  obtain ⟨a1, a2, a3, a4, a5⟩ := g.hl _ hmem
  generalize ls.getD k (0, 0, 0) = l at hl hmem a1 a2 a3 a4 a5
  have hok : okCut true n l.1 l.2.1 = true := by
    unfold okCut nodeB
    have e : (l.1 == l.2.1) = false := beq_eq_false_iff_ne.2 (by omega)
    rw [e]
    simp
    omega
  have hfind : ls.find? (hit l.1 l.2.1) ≠ none := fun e => by
    have := List.find?_eq_none.1 e l hmem
    rw [hit_self a2] at this
    exact this rfl
  have c5 : Fun E 33 [netV n x ls, .int .i64 l.1, .int .i64 l.2.1] (.tuple #[netV n 0 (cutL (hit l.1 l.2.1) ls), .int .i64 0]) := by
    rcases cut33 n x ls l.1 l.2.1 hx hy v1 hok with ⟨e, _⟩ | ⟨_, e⟩
    · exact absurd e hfind
    · exact e
  have hv2 := valid_cut (P := hit l.1 l.2.1) hv
  have hlen : (cutL (hit l.1 l.2.1) ls).length ≤ ls.length := List.length_filter_le _ _
  generalize cutL (hit l.1 l.2.1) ls = ls2 at c5 hv2 hlen
  obtain ⟨n', hn', g2⟩ := good_of hv2
  obtain rfl : n = n' := by omega
  have c6 := settled (x := 0) (poison := poison) g2 hv2 (by omega) gt
  obtain ⟨h1, L⟩ := heals (poison := poison) g2 gt
  have c7 := least_fun n 0 ls2 _ g2 hv2 (by omega) L
  generalize it n (cF ls2) poison f2 (stop n (cF ls2) poison f2 1000) = f3 at c6 c7
  generalize stop n (cF ls2) poison f2 1000 = w at c6 h1
  have e1 : decide ((w : Int) ≤ IntKind.i64.wrap (16 * (n : Int))) = true := decide_eq_true (by rw [wr _ (by omega) (by omega)]; omega)
  have e2 : ((ls.length : Int) == 0) = false := beq_eq_false_iff_ne.2 (by omega)
  have g1 : 0 ≤ (k : Int) ∧ (k : Int) < ls.length := by omega
  unfold lc at hl
  clear hv hv2 L hok hfind g g2 gt D a1 a2 a3 a4 a5 hk hmem hx
  refine Fun.of f11 rfl (of_decide_eq_true (by kernel_rfl)) rfl ?_
  rw [tabM_eq, tabM_eq] at *
  unfold netV lks matF at *
  refine Wp.seq (Wp.text ?_)
  refine md 3 (.pointer (some ⟨0, 0, none⟩)) (Blk.mk 24 true [Value.int .i64 (↑n : Int), Value.iface 48 (Value.iface (List.length ls) (Value.iface x (Value.agg (List.toArray (lcs ls)))))]) ?_
  refine kp 6 (.bool false) ?_
  refine WpOps.nil (thenK_at (Wp.seq (Wp.seq (Wp.text ?_))))
  refine kp 17 (.agg #[Value.int .i64 (↑n : Int), Value.iface 48 (Value.iface (List.length ls) (Value.iface x (Value.agg (List.toArray (lcs ls)))))]) ?_
  refine fr 18 25 [Value.agg #[Value.int .i64 (↑n : Int), Value.iface 48 (Value.iface (List.length ls) (Value.iface x (Value.agg (List.toArray (lcs ls)))))]] ?_
  refine WpFun.of (v1) ?_
  refine kp 19 (.bool false) ?_
  refine kp 20 (.bool false) ?_
  refine kp 21 (.agg #[Value.int .i64 (↑n : Int), Value.iface 48 (Value.iface (List.length ls) (Value.iface x (Value.agg (List.toArray (lcs ls)))))]) ?_
  refine fr 22 14 [Value.agg #[Value.int .i64 (↑n : Int), Value.iface 48 (Value.iface (List.length ls) (Value.iface x (Value.agg (List.toArray (lcs ls)))))]] ?_
  refine WpFun.of (t1) ?_
  refine fr 23 26 [Value.agg #[Value.int .i64 (↑n : Int), FS 48 (List.length ls) 0 (List.toArray (lcs ls))]] ?_
  refine WpFun.of (v2) ?_
  refine kp 24 (.bool false) ?_
  refine kp 25 (.bool false) ?_
  refine kp 26 (.bool false) ?_
  refine kp 27 (.pointer (some ⟨0, 1, none⟩)) ?_
  refine kp 28 (.iface 48 (Value.iface (List.length ls) (Value.iface x (Value.agg (List.toArray (lcs ls)))))) ?_
  refine kp 29 (.int IntKind.i64 (↑(List.length ls) : Int)) ?_
  refine kp 30 (.bool false) ?_ (hop := fun _ => by_fact e2)
  refine kp 31 (.bool false) ?_
  refine WpOps.nil (thenK_at (off' (Wp.skip (thenK_at (Wp.seq (Wp.text ?_))))))
  refine kp 34 (.agg #[Value.int .i64 (↑n : Int), Value.iface 48 (Value.iface (List.length ls) (Value.iface x (Value.agg (List.toArray (lcs ls)))))]) ?_
  refine fr 35 21 [Value.agg #[Value.int .i64 (↑n : Int), Value.iface 48 (Value.iface (List.length ls) (Value.iface x (Value.agg (List.toArray (lcs ls)))))]] ?_
  refine WpFun.of (s1) ?_
  refine kp 33 (.tuple #[FS 45 n 0 (List.toArray (List.map (fun r => FS 47 n 0 (List.toArray r)) (rowsM n firstF))), Value.int .i64 0]) ?_
  refine kp 36 (.iface 45 (Value.iface n (Value.iface 0 (Value.agg (List.toArray (List.map (fun r => FS 47 n 0 (List.toArray r)) (rowsM n firstF))))))) ?_
  refine kp 37 (.int IntKind.i64 0) ?_
  refine kp 7 (.iface 45 (Value.iface n (Value.iface 0 (Value.agg (List.toArray (List.map (fun r => FS 47 n 0 (List.toArray r)) (rowsM n firstF))))))) ?_
  refine kp 8 (.int IntKind.i64 0) ?_
  refine WpOps.nil (thenK_at (Wp.seq (Wp.text ?_)))
  refine kp 39 (.agg #[Value.int .i64 (↑n : Int), Value.iface 48 (Value.iface (List.length ls) (Value.iface x (Value.agg (List.toArray (lcs ls)))))]) ?_
  refine kp 40 (.iface 45 (Value.iface n (Value.iface 0 (Value.agg (List.toArray (List.map (fun r => FS 47 n 0 (List.toArray r)) (rowsM n firstF))))))) ?_
  refine kp 41 (.bool poison) ?_
  refine fr 42 12 [Value.agg #[Value.int .i64 (↑n : Int), Value.iface 48 (Value.iface (List.length ls) (Value.iface x (Value.agg (List.toArray (lcs ls)))))], Value.iface 45 (Value.iface n (Value.iface 0 (Value.agg (List.toArray (List.map (fun r => FS 47 n 0 (List.toArray r)) (rowsM n firstF)))))), Value.bool poison, Value.int .i64 1000] ?_
  refine WpFun.of (c3) ?_
  refine kp 38 (.tuple #[FS 45 n 0 (List.toArray (List.map (fun r => FS 47 n 0 (List.toArray r)) (rowsM n f2))), Value.int .i64 (↑s : Int), Value.int .i64 0]) ?_
  refine kp 43 (.iface 45 (Value.iface n (Value.iface 0 (Value.agg (List.toArray (List.map (fun r => FS 47 n 0 (List.toArray r)) (rowsM n f2))))))) ?_
  refine kp 44 (.int IntKind.i64 (↑s : Int)) ?_
  refine kp 45 (.int IntKind.i64 0) ?_
  refine kp 9 (.iface 45 (Value.iface n (Value.iface 0 (Value.agg (List.toArray (List.map (fun r => FS 47 n 0 (List.toArray r)) (rowsM n f2))))))) ?_
  refine kp 10 (.int IntKind.i64 (↑s : Int)) ?_
  refine kp 11 (.int IntKind.i64 0) ?_
  refine WpOps.nil (thenK_at (Wp.seq ?_))
  refine Wp.region (by kernel_rfl) ?_
  refine kp 46 (.pointer (some ⟨0, 1, none⟩)) ?_
  refine kp 47 (.iface 48 (Value.iface (List.length ls) (Value.iface x (Value.agg (List.toArray (lcs ls)))))) ?_
  refine kp 48 (.int IntKind.i64 at') ?_
  refine kp 49 (.pointer (some ⟨0, 1, none⟩)) ?_
  refine kp 50 (.iface 48 (Value.iface (List.length ls) (Value.iface x (Value.agg (List.toArray (lcs ls)))))) ?_
  refine kp 51 (.int IntKind.i64 (↑(List.length ls) : Int)) ?_
  refine fr 52 39 [Value.int .i64 at', Value.int .i64 (↑(List.length ls) : Int)] ?_
  refine WpFun.of (c4) ?_
  refine kp 53 (.iface 48 (Value.iface (Int.toNat (↑k : Int) * 3) (Value.agg (List.toArray (lcs ls))))) ?_ (hop := fun _ => o_indexI (e := 48) (size := 3) (a := (↑k : Int)) g1)
  refine kp 54 (.agg #[Value.int .i64 (Prod.fst l), Value.int .i64 (Prod.fst (Prod.snd l)), Value.int .i64 (Prod.snd (Prod.snd l))]) ?_ (hop := fun _ => o_loadIA (Int.toNat (↑k : Int) * 3) hl)
  refine md 12 (.pointer (some ⟨1, 0, none⟩)) (Blk.mk 48 true [Value.int .i64 0, Value.int .i64 0, Value.int .i64 0]) ?_
  refine ld (.tuple #[]) (1) (Blk.mk 48 true [Value.int .i64 (Prod.fst l), Value.int .i64 (Prod.fst (Prod.snd l)), Value.int .i64 (Prod.snd (Prod.snd l))]) ?_
  refine WpOps.nil (thenK_at (Wp.seq (Wp.text ?_)))
  refine kp 56 (.agg #[Value.int .i64 (↑n : Int), Value.iface 48 (Value.iface (List.length ls) (Value.iface x (Value.agg (List.toArray (lcs ls)))))]) ?_
  refine kp 57 (.pointer (some ⟨1, 0, none⟩)) ?_
  refine kp 58 (.int IntKind.i64 (Prod.fst l)) ?_
  refine kp 59 (.pointer (some ⟨1, 1, none⟩)) ?_
  refine kp 60 (.int IntKind.i64 (Prod.fst (Prod.snd l))) ?_
  refine fr 61 33 [Value.agg #[Value.int .i64 (↑n : Int), Value.iface 48 (Value.iface (List.length ls) (Value.iface x (Value.agg (List.toArray (lcs ls)))))], Value.int .i64 (Prod.fst l), Value.int .i64 (Prod.fst (Prod.snd l))] ?_
  refine WpFun.of (c5) ?_
  refine kp 55 (.tuple #[Value.agg #[Value.int .i64 (↑n : Int), FS 48 (List.length ls2) 0 (List.toArray (lcs ls2))], Value.int .i64 0]) ?_
  refine kp 62 (.agg #[Value.int .i64 (↑n : Int), FS 48 (List.length ls2) 0 (List.toArray (lcs ls2))]) ?_
  refine kp 63 (.int IntKind.i64 0) ?_
  refine md 13 (.pointer (some ⟨2, 0, none⟩)) (Blk.mk 24 true [Value.int .i64 0, Value.slice none 0 0]) ?_
  refine ld (.tuple #[]) (2) (Blk.mk 24 true [Value.int .i64 (↑n : Int), Value.iface 48 (Value.iface (List.length ls2) (Value.iface 0 (Value.agg (List.toArray (lcs ls2)))))]) ?_
  refine kp 14 (.int IntKind.i64 0) ?_
  refine WpOps.nil (thenK_at (Wp.seq (Wp.seq (Wp.text ?_))))
  refine kp 64 (.int IntKind.i64 0) ?_
  refine kp 65 (.bool false) ?_
  refine kp 66 (.bool false) ?_
  refine kp 67 (.int IntKind.i64 0) ?_
  refine kp 68 (.bool false) ?_
  refine kp 69 (.bool false) ?_
  refine kp 70 (.bool false) ?_
  refine kp 71 (.int IntKind.i64 0) ?_
  refine kp 72 (.bool false) ?_
  refine kp 73 (.bool false) ?_
  refine WpOps.nil (thenK_at (off' (Wp.skip (thenK_at (Wp.seq (Wp.text ?_))))))
  refine kp 75 (.agg #[Value.int .i64 (↑n : Int), Value.iface 48 (Value.iface (List.length ls2) (Value.iface 0 (Value.agg (List.toArray (lcs ls2)))))]) ?_
  refine kp 76 (.iface 45 (Value.iface n (Value.iface 0 (Value.agg (List.toArray (List.map (fun r => FS 47 n 0 (List.toArray r)) (rowsM n f2))))))) ?_
  refine kp 77 (.bool poison) ?_
  refine fr 78 12 [Value.agg #[Value.int .i64 (↑n : Int), Value.iface 48 (Value.iface (List.length ls2) (Value.iface 0 (Value.agg (List.toArray (lcs ls2)))))], Value.iface 45 (Value.iface n (Value.iface 0 (Value.agg (List.toArray (List.map (fun r => FS 47 n 0 (List.toArray r)) (rowsM n f2)))))), Value.bool poison, Value.int .i64 1000] ?_
  refine WpFun.of (c6) ?_
  refine kp 74 (.tuple #[FS 45 n 0 (List.toArray (List.map (fun r => FS 47 n 0 (List.toArray r)) (rowsM n f3))), Value.int .i64 (↑w : Int), Value.int .i64 0]) ?_
  refine kp 79 (.iface 45 (Value.iface n (Value.iface 0 (Value.agg (List.toArray (List.map (fun r => FS 47 n 0 (List.toArray r)) (rowsM n f3))))))) ?_
  refine kp 80 (.int IntKind.i64 (↑w : Int)) ?_
  refine kp 81 (.int IntKind.i64 0) ?_
  refine kp 15 (.iface 45 (Value.iface n (Value.iface 0 (Value.agg (List.toArray (List.map (fun r => FS 47 n 0 (List.toArray r)) (rowsM n f3))))))) ?_
  refine kp 16 (.int IntKind.i64 (↑w : Int)) ?_
  refine kp 8 (.int IntKind.i64 0) ?_
  refine WpOps.nil (thenK_at (Wp.seq (Wp.text ?_)))
  refine kp 82 (.int IntKind.i64 0) ?_
  refine kp 83 (.bool true) ?_
  refine kp 84 (.bool true) ?_
  refine kp 85 (.int IntKind.i64 (↑w : Int)) ?_
  refine kp 86 (.pointer (some ⟨0, 0, none⟩)) ?_
  refine kp 87 (.int IntKind.i64 (↑n : Int)) ?_
  refine kp 88 (.int IntKind.i64 (IntKind.wrap .i64 (16 * (↑n : Int)))) ?_
  refine kp 89 (.bool true) ?_ (hop := fun _ => by_fact e1)
  refine kp 90 (.bool true) ?_
  refine kp 91 (.bool true) ?_
  refine kp 92 (.agg #[Value.int .i64 (↑n : Int), Value.iface 48 (Value.iface (List.length ls2) (Value.iface 0 (Value.agg (List.toArray (lcs ls2)))))]) ?_
  refine kp 93 (.iface 45 (Value.iface n (Value.iface 0 (Value.agg (List.toArray (List.map (fun r => FS 47 n 0 (List.toArray r)) (rowsM n f3))))))) ?_
  refine fr 94 38 [Value.agg #[Value.int .i64 (↑n : Int), Value.iface 48 (Value.iface (List.length ls2) (Value.iface 0 (Value.agg (List.toArray (lcs ls2)))))], Value.iface 45 (Value.iface n (Value.iface 0 (Value.agg (List.toArray (List.map (fun r => FS 47 n 0 (List.toArray r)) (rowsM n f3))))))] ?_
  refine WpFun.of (c7) ?_
  refine kp 95 (.bool true) ?_
  refine kp 96 (.bool true) ?_
  refine fr 97 17 [] ?_
  refine WpFun.of (c0) ?_
  refine kp 98 (.bool true) ?_
  refine kp 6 (.bool true) ?_
  refine WpOps.nil (thenK_at (Wp.ret ?_))
  refine endK_retn [Value.bool true] (Value.bool true) (by kernel_rfl) (by kernel_rfl) ?_
  rfl
theorem law11_bad (N : Int) (x : Nat) (ls : List Lk) (at' : Int) (poison : Bool) (hy : ls.length * 24 ≤ 140737488351232) (hb : (valid N ls && !((ls.length : Int) == 0)) = false) : Fun E 11 [netV N x ls, .int .i64 at', .bool poison] (.bool true) := by
  have c0 := sane17
  have v1 := valid25 N x ls (by omega)
  have v2 := valid26 N 0 ls (by omega)
  have t1 := to14 N x ls hy
  refine Fun.of f11 rfl (of_decide_eq_true (by kernel_rfl)) rfl ?_
  unfold netV lks at *
  generalize valid N ls = v at v1 v2 hb
  refine Wp.seq (Wp.text ?_)
  refine md 3 (.pointer (some ⟨0, 0, none⟩)) (Blk.mk 24 true [Value.int .i64 N, Value.iface 48 (Value.iface (List.length ls) (Value.iface x (Value.agg (List.toArray (lcs ls)))))]) ?_
  refine kp 6 (.bool false) ?_
  refine WpOps.nil (thenK_at (Wp.seq (Wp.seq (Wp.text ?_))))
  refine kp 17 (.agg #[Value.int .i64 N, Value.iface 48 (Value.iface (List.length ls) (Value.iface x (Value.agg (List.toArray (lcs ls)))))]) ?_
  refine fr 18 25 [Value.agg #[Value.int .i64 N, Value.iface 48 (Value.iface (List.length ls) (Value.iface x (Value.agg (List.toArray (lcs ls)))))]] ?_
  refine WpFun.of (v1) ?_
  refine kp 19 (.bool !v) ?_
  refine kp 20 (.bool !v) ?_
  refine WpOps.fork 5 (!v) [21, 22, 23, 24, 25] 25 (true) (false) (by kernel_rfl) (fun g25 => ?_) (fun g25 => ?_) (fun f_25 b25 hb25 => ?_)
  · refine um 21 ?_ (hw := wants_tf g25)
    refine um 22 ?_ (hw := wants_tf g25)
    refine um 23 ?_ (hw := wants_tf g25)
    refine um 24 ?_ (hw := wants_tf g25)
    refine kp 25 (.bool true) ?_ (hop := fun _ => o_pickT g25)
    refine WpOps.nil ?_
    exact ⟨rfl, (.upd rfl (.upd rfl (.upd rfl (.upd rfl (.upd rfl .refl))))), (by kernel_rfl)⟩
  · refine kp 21 (.agg #[Value.int .i64 N, Value.iface 48 (Value.iface (List.length ls) (Value.iface x (Value.agg (List.toArray (lcs ls)))))]) ?_ (hw := wants_ff g25)
    refine fr 22 14 [Value.agg #[Value.int .i64 N, Value.iface 48 (Value.iface (List.length ls) (Value.iface x (Value.agg (List.toArray (lcs ls)))))]] ?_ (hw := wants_ff g25)
    refine WpFun.of (t1) ?_
    refine fr 23 26 [Value.agg #[Value.int .i64 N, FS 48 (List.length ls) 0 (List.toArray (lcs ls))]] ?_ (hw := wants_ff g25)
    refine WpFun.of (v2) ?_
    refine kp 24 (.bool false) ?_ (hw := wants_ff g25) (hop := fun _ => by_fact g25)
    refine kp 25 (.bool false) ?_ (hop := fun _ => o_pickF g25)
    refine WpOps.nil ?_
    exact ⟨rfl, (.upd rfl (.upd rfl (.upd rfl (.upd rfl (.upd rfl .refl))))), (by kernel_rfl)⟩
  refine kp 26 (.bool b25) ?_
  refine WpOps.fork 5 (b25) [27, 28, 29, 30, 31] 31 (true) ((↑(List.length ls) : Int) == 0) (by kernel_rfl) (fun g31 => ?_) (fun g31 => ?_) (fun f_31 b31 hb31 => ?_)
  · refine um 27 ?_ (hw := wants_tf g31)
    refine um 28 ?_ (hw := wants_tf g31)
    refine um 29 ?_ (hw := wants_tf g31)
    refine um 30 ?_ (hw := wants_tf g31)
    refine kp 31 (.bool true) ?_ (hop := fun _ => o_pickT g31)
    refine WpOps.nil ?_
    exact ⟨rfl, (.upd rfl (.upd rfl (.upd rfl (.upd rfl (.upd rfl .refl))))), (by kernel_rfl)⟩
  · refine kp 27 (.pointer (some ⟨0, 1, none⟩)) ?_ (hw := wants_ff g31)
    refine kp 28 (.iface 48 (Value.iface (List.length ls) (Value.iface x (Value.agg (List.toArray (lcs ls)))))) ?_ (hw := wants_ff g31)
    refine kp 29 (.int IntKind.i64 (↑(List.length ls) : Int)) ?_ (hw := wants_ff g31)
    refine kp 30 (.bool ((↑(List.length ls) : Int) == 0)) ?_ (hw := wants_ff g31)
    refine kp 31 (.bool ((↑(List.length ls) : Int) == 0)) ?_ (hop := fun _ => o_pickF g31)
    refine WpOps.nil ?_
    exact ⟨rfl, (.upd rfl (.upd rfl (.upd rfl (.upd rfl (.upd rfl .refl))))), (by kernel_rfl)⟩
  refine WpOps.nil (thenK_at ?_)
  obtain rfl : b31 = true := by
    rw [hb31, hb25]
    revert hb
    cases v <;> cases ((ls.length : Int) == 0) <;> simp
  refine on' (Wp.seq (Wp.text ?_))
  refine fr 32 17 [] ?_
  refine WpFun.of (c0) ?_
  refine kp 6 (.bool true) ?_
  refine WpOps.nil (thenK_at (Wp.ret (thenK_ret ?_)))
  refine endK_retn [Value.bool true] (Value.bool true) (by kernel_rfl) (by kernel_rfl) ?_
  rfl
end Go.Proofs.Ytfjkanjmggbofaa.D
