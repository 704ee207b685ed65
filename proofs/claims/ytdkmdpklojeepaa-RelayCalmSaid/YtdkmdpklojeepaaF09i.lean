/- relay.Of, relay.Mild. -/
import Derived.Test.YtdkmdpklojeepaaFwLem
import Derived.Test.YtdkmdpklojeepaaF09h
namespace Go.Proofs.Ytdkmdpklojeepaa.D
open Go.Fw Go.RowKit

theorem f15 : E.funcs 15 = some Try.f15 := by kernel_rfl
theorem of15 (x : Nat) (l : List Int) (hl : ∀ n ∈ l, I64 n) (hz : l.length ≤ 1000) : Fun E 15 [sl x l] (outF 46 (min l.length 200) (fc false (l.take 200))) := by
  have c1 := made38 x l hl hz
  have c2 := kinds37
  unfold outF at c1 ⊢
  by_cases h0 : min l.length 200 = 0
  · rw [if_pos h0] at c1 ⊢
    refine Fun.of f15 rfl (of_decide_eq_true (by kernel_rfl)) rfl ?_
    refine Wp.seq (Wp.text ?_)
    refine kp 2 (.slice none 0 0) ?_
    refine WpOps.nil (thenK_at (Wp.seq (Wp.text ?_)))
    refine kp 3 (.iface 3 (Value.iface (List.length l) (Value.iface x (Value.agg (List.toArray (List.map (fun n => Value.int .i64 n) l)))))) ?_
    refine cl 4 37 [] ?_
    refine WpCall.lent [] (c2) (by decide) trivial (by kernel_rfl) (Value.agg (List.toArray (List.map (unC []) (Array.toList #[fnV 52, fnV 52, fnV 55, fnV 56, fnV 53, fnV 53, fnV 57, fnV 58, Value.nilFunc, Value.nilFunc, Value.nilFunc, Value.nilFunc, Value.nilFunc, Value.nilFunc, Value.nilFunc, Value.nilFunc])))) ([]) .nil (by kernel_rfl) (Heap.none) (by kernel_rfl) ?_
    refine cl 5 38 [Value.iface 3 (Value.iface (List.length l) (Value.iface x (Value.agg (List.toArray (List.map (fun n => Value.int .i64 n) l))))), Value.agg (List.toArray (List.map (unC []) (Array.toList #[fnV 52, fnV 52, fnV 55, fnV 56, fnV 53, fnV 53, fnV 57, fnV 58, Value.nilFunc, Value.nilFunc, Value.nilFunc, Value.nilFunc, Value.nilFunc, Value.nilFunc, Value.nilFunc, Value.nilFunc])))] ?_
    refine WpCall.lent [] (c1) (by decide) trivial (by kernel_rfl) (Value.iface 46 (Value.iface 0 (Value.iface 2 (Value.agg #[])))) ([]) .nil (by kernel_rfl) (Heap.none) (by kernel_rfl) ?_
    refine kp 2 (.iface 46 (Value.iface 0 (Value.iface 2 (Value.agg #[])))) ?_
    refine WpOps.nil (thenK_at (Wp.ret ?_))
    refine endK_retn [Value.iface 46 (Value.iface 0 (Value.iface 2 (Value.agg #[])))] (Value.iface 46 (Value.iface 0 (Value.iface 2 (Value.agg #[])))) (by kernel_rfl) (by kernel_rfl) ?_
    rfl
  · rw [if_neg h0] at c1 ⊢
    refine Fun.of f15 rfl (of_decide_eq_true (by kernel_rfl)) rfl ?_
    refine Wp.seq (Wp.text ?_)
    refine kp 2 (.slice none 0 0) ?_
    refine WpOps.nil (thenK_at (Wp.seq (Wp.text ?_)))
    refine kp 3 (.iface 3 (Value.iface (List.length l) (Value.iface x (Value.agg (List.toArray (List.map (fun n => Value.int .i64 n) l)))))) ?_
    refine cl 4 37 [] ?_
    refine WpCall.lent [] (c2) (by decide) trivial (by kernel_rfl) (Value.agg (List.toArray (List.map (unC []) (Array.toList #[fnV 52, fnV 52, fnV 55, fnV 56, fnV 53, fnV 53, fnV 57, fnV 58, Value.nilFunc, Value.nilFunc, Value.nilFunc, Value.nilFunc, Value.nilFunc, Value.nilFunc, Value.nilFunc, Value.nilFunc])))) ([]) .nil (by kernel_rfl) (Heap.none) (by kernel_rfl) ?_
    refine cl 5 38 [Value.iface 3 (Value.iface (List.length l) (Value.iface x (Value.agg (List.toArray (List.map (fun n => Value.int .i64 n) l))))), Value.agg (List.toArray (List.map (unC []) (Array.toList #[fnV 52, fnV 52, fnV 55, fnV 56, fnV 53, fnV 53, fnV 57, fnV 58, Value.nilFunc, Value.nilFunc, Value.nilFunc, Value.nilFunc, Value.nilFunc, Value.nilFunc, Value.nilFunc, Value.nilFunc])))] ?_
    refine WpCall.lent [] (c1) (by decide) trivial (by kernel_rfl) (Value.iface 46 (Value.iface (min (List.length l) 200) (Value.iface 0 (Value.agg (List.toArray (fc false (List.take 200 l))))))) ([]) .nil (by kernel_rfl) (Heap.none) (by kernel_rfl) ?_
    refine kp 2 (.iface 46 (Value.iface (min (List.length l) 200) (Value.iface 0 (Value.agg (List.toArray (fc false (List.take 200 l))))))) ?_
    refine WpOps.nil (thenK_at (Wp.ret ?_))
    refine endK_retn [Value.iface 46 (Value.iface (min (List.length l) 200) (Value.iface 0 (Value.agg (List.toArray (fc false (List.take 200 l))))))] (Value.iface 46 (Value.iface (min (List.length l) 200) (Value.iface 0 (Value.agg (List.toArray (fc false (List.take 200 l))))))) (by kernel_rfl) (by kernel_rfl) ?_
    rfl
theorem f11 : E.funcs 11 = some Try.f11 := by kernel_rfl
theorem mild11 (x : Nat) (l : List Int) (hl : ∀ n ∈ l, I64 n) (hz : l.length ≤ 1000) : Fun E 11 [sl x l] (outF 46 (min l.length 200) (fc true (l.take 200))) := by
  have c1 := made38m x l hl hz
  have c2 := kinds37
  unfold outF at c1 ⊢
  by_cases h0 : min l.length 200 = 0
  · rw [if_pos h0] at c1 ⊢
    refine Fun.of f11 rfl (of_decide_eq_true (by kernel_rfl)) rfl ?_
    refine Wp.seq (Wp.text ?_)
    refine kp 2 (.slice none 0 0) ?_
    refine WpOps.nil (thenK_at (Wp.seq (Wp.text ?_)))
    refine cl 4 37 [] ?_
    refine WpCall.lent [] (c2) (by decide) trivial (by kernel_rfl) (Value.agg (List.toArray (List.map (unC []) (Array.toList #[fnV 52, fnV 52, fnV 55, fnV 56, fnV 53, fnV 53, fnV 57, fnV 58, Value.nilFunc, Value.nilFunc, Value.nilFunc, Value.nilFunc, Value.nilFunc, Value.nilFunc, Value.nilFunc, Value.nilFunc])))) ([]) .nil (by kernel_rfl) (Heap.none) (by kernel_rfl) ?_
    refine md 3 (.pointer (some ⟨0, 0, none⟩)) (Blk.mk 68 true [Value.nilFunc, Value.nilFunc, Value.nilFunc, Value.nilFunc, Value.nilFunc, Value.nilFunc, Value.nilFunc, Value.nilFunc, Value.nilFunc, Value.nilFunc, Value.nilFunc, Value.nilFunc, Value.nilFunc, Value.nilFunc, Value.nilFunc, Value.nilFunc]) ?_
    refine ld (.tuple #[]) (0) (Blk.mk 68 true [Value.func (Fn.func 52) #[] #[], Value.func (Fn.func 52) #[] #[], Value.func (Fn.func 55) #[] #[], Value.func (Fn.func 56) #[] #[], Value.func (Fn.func 53) #[] #[], Value.func (Fn.func 53) #[] #[], Value.func (Fn.func 57) #[] #[], Value.func (Fn.func 58) #[] #[], Value.nilFunc, Value.nilFunc, Value.nilFunc, Value.nilFunc, Value.nilFunc, Value.nilFunc, Value.nilFunc, Value.nilFunc]) ?_
    refine WpOps.nil (thenK_at (Wp.seq (Wp.text ?_)))
    refine kp 5 (.pointer (some ⟨0, 0, none⟩)) ?_
    refine ld (.tuple #[]) (0) (Blk.mk 68 true [Value.nilFunc, Value.func (Fn.func 52) #[] #[], Value.func (Fn.func 55) #[] #[], Value.func (Fn.func 56) #[] #[], Value.func (Fn.func 53) #[] #[], Value.func (Fn.func 53) #[] #[], Value.func (Fn.func 57) #[] #[], Value.func (Fn.func 58) #[] #[], Value.nilFunc, Value.nilFunc, Value.nilFunc, Value.nilFunc, Value.nilFunc, Value.nilFunc, Value.nilFunc, Value.nilFunc]) ?_
    refine kp 6 (.pointer (some ⟨0, 1, none⟩)) ?_
    refine ld (.tuple #[]) (0) (Blk.mk 68 true [Value.nilFunc, Value.nilFunc, Value.func (Fn.func 55) #[] #[], Value.func (Fn.func 56) #[] #[], Value.func (Fn.func 53) #[] #[], Value.func (Fn.func 53) #[] #[], Value.func (Fn.func 57) #[] #[], Value.func (Fn.func 58) #[] #[], Value.nilFunc, Value.nilFunc, Value.nilFunc, Value.nilFunc, Value.nilFunc, Value.nilFunc, Value.nilFunc, Value.nilFunc]) ?_
    refine kp 7 (.pointer (some ⟨0, 6, none⟩)) ?_
    refine ld (.tuple #[]) (0) (Blk.mk 68 true [Value.nilFunc, Value.nilFunc, Value.func (Fn.func 55) #[] #[], Value.func (Fn.func 56) #[] #[], Value.func (Fn.func 53) #[] #[], Value.func (Fn.func 53) #[] #[], Value.nilFunc, Value.func (Fn.func 58) #[] #[], Value.nilFunc, Value.nilFunc, Value.nilFunc, Value.nilFunc, Value.nilFunc, Value.nilFunc, Value.nilFunc, Value.nilFunc]) ?_
    refine WpOps.nil (thenK_at (Wp.seq (Wp.text ?_)))
    refine kp 8 (.iface 3 (Value.iface (List.length l) (Value.iface x (Value.agg (List.toArray (List.map (fun n => Value.int .i64 n) l)))))) ?_
    refine kp 9 (.agg #[Value.nilFunc, Value.nilFunc, Value.func (Fn.func 55) #[] #[], Value.func (Fn.func 56) #[] #[], Value.func (Fn.func 53) #[] #[], Value.func (Fn.func 53) #[] #[], Value.nilFunc, Value.func (Fn.func 58) #[] #[], Value.nilFunc, Value.nilFunc, Value.nilFunc, Value.nilFunc, Value.nilFunc, Value.nilFunc, Value.nilFunc, Value.nilFunc]) ?_
    refine cl 10 38 [Value.iface 3 (Value.iface (List.length l) (Value.iface x (Value.agg (List.toArray (List.map (fun n => Value.int .i64 n) l))))), Value.agg #[Value.nilFunc, Value.nilFunc, Value.func (Fn.func 55) #[] #[], Value.func (Fn.func 56) #[] #[], Value.func (Fn.func 53) #[] #[], Value.func (Fn.func 53) #[] #[], Value.nilFunc, Value.func (Fn.func 58) #[] #[], Value.nilFunc, Value.nilFunc, Value.nilFunc, Value.nilFunc, Value.nilFunc, Value.nilFunc, Value.nilFunc, Value.nilFunc]] ?_
    refine WpCall.lent [] (c1) (by decide) trivial (by kernel_rfl) (Value.iface 46 (Value.iface 0 (Value.iface 2 (Value.agg #[])))) ([]) .nil (by kernel_rfl) (Heap.set (Heap.set (Heap.set (Heap.set (Heap.alloc Heap.none (Blk.mk 68 true [Value.nilFunc, Value.nilFunc, Value.nilFunc, Value.nilFunc, Value.nilFunc, Value.nilFunc, Value.nilFunc, Value.nilFunc, Value.nilFunc, Value.nilFunc, Value.nilFunc, Value.nilFunc, Value.nilFunc, Value.nilFunc, Value.nilFunc, Value.nilFunc])) 0 (some (Blk.mk 68 true [Value.func (Fn.func 52) #[] #[], Value.func (Fn.func 52) #[] #[], Value.func (Fn.func 55) #[] #[], Value.func (Fn.func 56) #[] #[], Value.func (Fn.func 53) #[] #[], Value.func (Fn.func 53) #[] #[], Value.func (Fn.func 57) #[] #[], Value.func (Fn.func 58) #[] #[], Value.nilFunc, Value.nilFunc, Value.nilFunc, Value.nilFunc, Value.nilFunc, Value.nilFunc, Value.nilFunc, Value.nilFunc]))) 0 (some (Blk.mk 68 true [Value.nilFunc, Value.func (Fn.func 52) #[] #[], Value.func (Fn.func 55) #[] #[], Value.func (Fn.func 56) #[] #[], Value.func (Fn.func 53) #[] #[], Value.func (Fn.func 53) #[] #[], Value.func (Fn.func 57) #[] #[], Value.func (Fn.func 58) #[] #[], Value.nilFunc, Value.nilFunc, Value.nilFunc, Value.nilFunc, Value.nilFunc, Value.nilFunc, Value.nilFunc, Value.nilFunc]))) 0 (some (Blk.mk 68 true [Value.nilFunc, Value.nilFunc, Value.func (Fn.func 55) #[] #[], Value.func (Fn.func 56) #[] #[], Value.func (Fn.func 53) #[] #[], Value.func (Fn.func 53) #[] #[], Value.func (Fn.func 57) #[] #[], Value.func (Fn.func 58) #[] #[], Value.nilFunc, Value.nilFunc, Value.nilFunc, Value.nilFunc, Value.nilFunc, Value.nilFunc, Value.nilFunc, Value.nilFunc]))) 0 (some (Blk.mk 68 true [Value.nilFunc, Value.nilFunc, Value.func (Fn.func 55) #[] #[], Value.func (Fn.func 56) #[] #[], Value.func (Fn.func 53) #[] #[], Value.func (Fn.func 53) #[] #[], Value.nilFunc, Value.func (Fn.func 58) #[] #[], Value.nilFunc, Value.nilFunc, Value.nilFunc, Value.nilFunc, Value.nilFunc, Value.nilFunc, Value.nilFunc, Value.nilFunc]))) (by kernel_rfl) ?_
    refine kp 2 (.iface 46 (Value.iface 0 (Value.iface 2 (Value.agg #[])))) ?_
    refine WpOps.nil (thenK_at (Wp.ret ?_))
    refine endK_retn [Value.iface 46 (Value.iface 0 (Value.iface 2 (Value.agg #[])))] (Value.iface 46 (Value.iface 0 (Value.iface 2 (Value.agg #[])))) (by kernel_rfl) (by kernel_rfl) ?_
    rfl
  · rw [if_neg h0] at c1 ⊢
    refine Fun.of f11 rfl (of_decide_eq_true (by kernel_rfl)) rfl ?_
    refine Wp.seq (Wp.text ?_)
    refine kp 2 (.slice none 0 0) ?_
    refine WpOps.nil (thenK_at (Wp.seq (Wp.text ?_)))
    refine cl 4 37 [] ?_
    refine WpCall.lent [] (c2) (by decide) trivial (by kernel_rfl) (Value.agg (List.toArray (List.map (unC []) (Array.toList #[fnV 52, fnV 52, fnV 55, fnV 56, fnV 53, fnV 53, fnV 57, fnV 58, Value.nilFunc, Value.nilFunc, Value.nilFunc, Value.nilFunc, Value.nilFunc, Value.nilFunc, Value.nilFunc, Value.nilFunc])))) ([]) .nil (by kernel_rfl) (Heap.none) (by kernel_rfl) ?_
    refine md 3 (.pointer (some ⟨0, 0, none⟩)) (Blk.mk 68 true [Value.nilFunc, Value.nilFunc, Value.nilFunc, Value.nilFunc, Value.nilFunc, Value.nilFunc, Value.nilFunc, Value.nilFunc, Value.nilFunc, Value.nilFunc, Value.nilFunc, Value.nilFunc, Value.nilFunc, Value.nilFunc, Value.nilFunc, Value.nilFunc]) ?_
    refine ld (.tuple #[]) (0) (Blk.mk 68 true [Value.func (Fn.func 52) #[] #[], Value.func (Fn.func 52) #[] #[], Value.func (Fn.func 55) #[] #[], Value.func (Fn.func 56) #[] #[], Value.func (Fn.func 53) #[] #[], Value.func (Fn.func 53) #[] #[], Value.func (Fn.func 57) #[] #[], Value.func (Fn.func 58) #[] #[], Value.nilFunc, Value.nilFunc, Value.nilFunc, Value.nilFunc, Value.nilFunc, Value.nilFunc, Value.nilFunc, Value.nilFunc]) ?_
    refine WpOps.nil (thenK_at (Wp.seq (Wp.text ?_)))
    refine kp 5 (.pointer (some ⟨0, 0, none⟩)) ?_
    refine ld (.tuple #[]) (0) (Blk.mk 68 true [Value.nilFunc, Value.func (Fn.func 52) #[] #[], Value.func (Fn.func 55) #[] #[], Value.func (Fn.func 56) #[] #[], Value.func (Fn.func 53) #[] #[], Value.func (Fn.func 53) #[] #[], Value.func (Fn.func 57) #[] #[], Value.func (Fn.func 58) #[] #[], Value.nilFunc, Value.nilFunc, Value.nilFunc, Value.nilFunc, Value.nilFunc, Value.nilFunc, Value.nilFunc, Value.nilFunc]) ?_
    refine kp 6 (.pointer (some ⟨0, 1, none⟩)) ?_
    refine ld (.tuple #[]) (0) (Blk.mk 68 true [Value.nilFunc, Value.nilFunc, Value.func (Fn.func 55) #[] #[], Value.func (Fn.func 56) #[] #[], Value.func (Fn.func 53) #[] #[], Value.func (Fn.func 53) #[] #[], Value.func (Fn.func 57) #[] #[], Value.func (Fn.func 58) #[] #[], Value.nilFunc, Value.nilFunc, Value.nilFunc, Value.nilFunc, Value.nilFunc, Value.nilFunc, Value.nilFunc, Value.nilFunc]) ?_
    refine kp 7 (.pointer (some ⟨0, 6, none⟩)) ?_
    refine ld (.tuple #[]) (0) (Blk.mk 68 true [Value.nilFunc, Value.nilFunc, Value.func (Fn.func 55) #[] #[], Value.func (Fn.func 56) #[] #[], Value.func (Fn.func 53) #[] #[], Value.func (Fn.func 53) #[] #[], Value.nilFunc, Value.func (Fn.func 58) #[] #[], Value.nilFunc, Value.nilFunc, Value.nilFunc, Value.nilFunc, Value.nilFunc, Value.nilFunc, Value.nilFunc, Value.nilFunc]) ?_
    refine WpOps.nil (thenK_at (Wp.seq (Wp.text ?_)))
    refine kp 8 (.iface 3 (Value.iface (List.length l) (Value.iface x (Value.agg (List.toArray (List.map (fun n => Value.int .i64 n) l)))))) ?_
    refine kp 9 (.agg #[Value.nilFunc, Value.nilFunc, Value.func (Fn.func 55) #[] #[], Value.func (Fn.func 56) #[] #[], Value.func (Fn.func 53) #[] #[], Value.func (Fn.func 53) #[] #[], Value.nilFunc, Value.func (Fn.func 58) #[] #[], Value.nilFunc, Value.nilFunc, Value.nilFunc, Value.nilFunc, Value.nilFunc, Value.nilFunc, Value.nilFunc, Value.nilFunc]) ?_
    refine cl 10 38 [Value.iface 3 (Value.iface (List.length l) (Value.iface x (Value.agg (List.toArray (List.map (fun n => Value.int .i64 n) l))))), Value.agg #[Value.nilFunc, Value.nilFunc, Value.func (Fn.func 55) #[] #[], Value.func (Fn.func 56) #[] #[], Value.func (Fn.func 53) #[] #[], Value.func (Fn.func 53) #[] #[], Value.nilFunc, Value.func (Fn.func 58) #[] #[], Value.nilFunc, Value.nilFunc, Value.nilFunc, Value.nilFunc, Value.nilFunc, Value.nilFunc, Value.nilFunc, Value.nilFunc]] ?_
    refine WpCall.lent [] (c1) (by decide) trivial (by kernel_rfl) (Value.iface 46 (Value.iface (min (List.length l) 200) (Value.iface 0 (Value.agg (List.toArray (fc true (List.take 200 l))))))) ([]) .nil (by kernel_rfl) (Heap.set (Heap.set (Heap.set (Heap.set (Heap.alloc Heap.none (Blk.mk 68 true [Value.nilFunc, Value.nilFunc, Value.nilFunc, Value.nilFunc, Value.nilFunc, Value.nilFunc, Value.nilFunc, Value.nilFunc, Value.nilFunc, Value.nilFunc, Value.nilFunc, Value.nilFunc, Value.nilFunc, Value.nilFunc, Value.nilFunc, Value.nilFunc])) 0 (some (Blk.mk 68 true [Value.func (Fn.func 52) #[] #[], Value.func (Fn.func 52) #[] #[], Value.func (Fn.func 55) #[] #[], Value.func (Fn.func 56) #[] #[], Value.func (Fn.func 53) #[] #[], Value.func (Fn.func 53) #[] #[], Value.func (Fn.func 57) #[] #[], Value.func (Fn.func 58) #[] #[], Value.nilFunc, Value.nilFunc, Value.nilFunc, Value.nilFunc, Value.nilFunc, Value.nilFunc, Value.nilFunc, Value.nilFunc]))) 0 (some (Blk.mk 68 true [Value.nilFunc, Value.func (Fn.func 52) #[] #[], Value.func (Fn.func 55) #[] #[], Value.func (Fn.func 56) #[] #[], Value.func (Fn.func 53) #[] #[], Value.func (Fn.func 53) #[] #[], Value.func (Fn.func 57) #[] #[], Value.func (Fn.func 58) #[] #[], Value.nilFunc, Value.nilFunc, Value.nilFunc, Value.nilFunc, Value.nilFunc, Value.nilFunc, Value.nilFunc, Value.nilFunc]))) 0 (some (Blk.mk 68 true [Value.nilFunc, Value.nilFunc, Value.func (Fn.func 55) #[] #[], Value.func (Fn.func 56) #[] #[], Value.func (Fn.func 53) #[] #[], Value.func (Fn.func 53) #[] #[], Value.func (Fn.func 57) #[] #[], Value.func (Fn.func 58) #[] #[], Value.nilFunc, Value.nilFunc, Value.nilFunc, Value.nilFunc, Value.nilFunc, Value.nilFunc, Value.nilFunc, Value.nilFunc]))) 0 (some (Blk.mk 68 true [Value.nilFunc, Value.nilFunc, Value.func (Fn.func 55) #[] #[], Value.func (Fn.func 56) #[] #[], Value.func (Fn.func 53) #[] #[], Value.func (Fn.func 53) #[] #[], Value.nilFunc, Value.func (Fn.func 58) #[] #[], Value.nilFunc, Value.nilFunc, Value.nilFunc, Value.nilFunc, Value.nilFunc, Value.nilFunc, Value.nilFunc, Value.nilFunc]))) (by kernel_rfl) ?_
    refine kp 2 (.iface 46 (Value.iface (min (List.length l) 200) (Value.iface 0 (Value.agg (List.toArray (fc true (List.take 200 l))))))) ?_
    refine WpOps.nil (thenK_at (Wp.ret ?_))
    refine endK_retn [Value.iface 46 (Value.iface (min (List.length l) 200) (Value.iface 0 (Value.agg (List.toArray (fc true (List.take 200 l))))))] (Value.iface 46 (Value.iface (min (List.length l) 200) (Value.iface 0 (Value.agg (List.toArray (fc true (List.take 200 l))))))) (by kernel_rfl) (by kernel_rfl) ?_
    rfl
end Go.Proofs.Ytdkmdpklojeepaa.D
