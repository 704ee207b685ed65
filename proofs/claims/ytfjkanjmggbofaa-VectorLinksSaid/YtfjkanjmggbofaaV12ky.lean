/- Join of the program and of the document; the law VectorLinks. -/
import Derived.Test.YtfjkanjmggbofaaFwLem
import Derived.Test.YtfjkanjmggbofaaFwCons
import Derived.Test.YtfjkanjmggbofaaFwCall
import Derived.Test.YtfjkanjmggbofaaV12kx
import Derived.Test.YtfjkanjmggbofaaV12np
namespace Go.Proofs.Ytfjkanjmggbofaa.D
open Go.Fw Go.RowKit

def mn (a b : Int) : Int := if b < a then b else a
def mx (a b : Int) : Int := if b > a then b else a
theorem hitP_is (a b : Int) (l : Lk) : hitP (mn a b) (mx a b) l = hit a b l := rfl
def okJoin (v : Bool) (N a b c : Int) : Bool := v && nodeB N a && nodeB N b && !(a == b) && decide (1 ≤ c) && decide (c ≤ 15)
theorem okJoin_parts {ok : Bool} {N a b c : Int} (h : okJoin ok N a b c = true) : ok = true ∧ nodeB N a = true ∧ nodeB N b = true ∧ (a == b) = false ∧ 1 ≤ c ∧ c ≤ 15 := by
  unfold okJoin at h
  simp only [Bool.and_eq_true, decide_eq_true_eq] at h
  exact ⟨h.1.1.1.1.1, h.1.1.1.1.2, h.1.1.1.2, by simpa using h.1.1.2, h.1.2, h.2⟩
theorem f36 : E.funcs 36 = some Try.f36 := by kernel_rfl
theorem unT_idsOf (n k : Nat) : unT (idsOf [] n 1) (.slice (some ⟨0, 0, none⟩) k k) = .slice (some ⟨n, 0, none⟩) k k := rfl
/-- slices.Clone at any memory. -/
theorem clone59s (n : Nat) (cs : List Value) (hn : 1 ≤ n ∧ n * 24 ≤ 140737488351232) (hl : cs.length = n * 3) (hf : cs.all flat = true) (g : Heap) : SCall E 59 [FS 48 n 0 cs.toArray] g (.slice (some ⟨g.next, 0, none⟩) n n) (g.alloc ⟨48, true, cs⟩) := by
  have h := SCall.lend (h := g) (args := [FS 48 n 0 cs.toArray]) [] (clone59 n cs hn hl hf) List.nodup_nil trivial rfl
  have e : layO (idsOf [] g.next 1) g [] [⟨48, true, cs⟩] = g.alloc ⟨48, true, cs⟩ := by
    simp only [layO, unB_flat hf]
  have e2 : unT (idsOf [] g.next 1) (.slice (some ⟨0, 0, none⟩) n n) = .slice (some ⟨g.next, 0, none⟩) n n := rfl
  rw [show ([⟨48, true, cs⟩] : List Blk).length = 1 from rfl, e, e2] at h
  exact h
set_option maxHeartbeats 4000000 in
set_option maxHeartbeats 4000000 in
set_option maxHeartbeats 4000000 in
theorem join36_no (N : Int) (ls : List Lk) (a b c : Int) (hn : ls.length * 24 ≤ 140737488351232) (hn0 : 0 < ls.length) (h2 : ∀ j, j < ls.length → hit a b (ls.getD j (0, 0, 0)) = false) (c1 : Fun E 25 [netV N 0 ls] (.bool true)) (hb : okJoin true N a b c = true) : Fun E 36 [netV N 0 ls, .int .i64 a, .int .i64 b, .int .i64 c] (.tuple #[netV N 0 (ls ++ [(mn a b, mx a b, c)]), .int .i64 0]) := by
  refine Fun.of f36 rfl (of_decide_eq_true (by kernel_rfl)) rfl ?_
  have c2 := node53 N 0 ls a
  have c3 := node53 N 0 ls b
  obtain ⟨h0, h1, h3', h4, h5, h6⟩ := okJoin_parts hb
  rw [h1] at c2
  rw [h3'] at c3
  have d1 : decide (c < 1) = false := decide_eq_false (by omega)
  have d2 : decide (c ≥ 16) = false := decide_eq_false (by omega)
  clear hb h0 h1 h3' h5 h6
  have c4 := clone59s ls.length (lcs ls) (by omega) (lcs_len ls) (lcs_flat ls)
  have hfl := lcs_flat ls
  have c5 := idx60j N 0 ls (mn a b) (mx a b) c ls.length (by omega) hn0 (Nat.le_refl _) h2 (fun h => absurd h (Nat.lt_irrefl _))
  rw [if_neg (Nat.lt_irrefl _)] at c5
  have q1 : ¬ (ls.length + 1 ≤ ls.length) := by omega
  have q2 : 1 ≤ 24 ∧ (ls.length + 1) * 24 ≤ 140737488355328 ∧ 3 = 3 ∧ ls.length + 1 ≤ 9223372036854775807 := by omega
  have q3 := cells_whole (lcs ls) (ls.length * 3) (lcs_len ls)
  have hsn := lcs_snoc ls (mn a b, mx a b, c)
  have hl : ls.length + 1 = (ls ++ [(mn a b, mx a b, c)]).length := by simp
  unfold mn mx at *
  unfold netV lks at *
  refine Wp.seq (Wp.text ?_)
  refine md 4 (.pointer (some ⟨0, 0, none⟩)) (Blk.mk 24 true [Value.int .i64 N, Value.iface 48 (Value.iface (List.length ls) (Value.iface 0 (Value.agg (List.toArray (lcs ls)))))]) ?_
  refine md 8 (.pointer (some ⟨1, 0, none⟩)) (Blk.mk 24 true [Value.int .i64 0, Value.slice none 0 0]) ?_
  refine kp 9 (.int IntKind.i64 0) ?_
  refine WpOps.nil (thenK_at (Wp.seq (Wp.seq (Wp.text ?_))))
  refine kp 13 (.agg #[Value.int .i64 N, Value.iface 48 (Value.iface (List.length ls) (Value.iface 0 (Value.agg (List.toArray (lcs ls)))))]) ?_
  refine fr 14 25 [Value.agg #[Value.int .i64 N, Value.iface 48 (Value.iface (List.length ls) (Value.iface 0 (Value.agg (List.toArray (lcs ls)))))]] ?_
  refine WpFun.of (c1) ?_
  refine kp 15 (.bool false) ?_
  refine kp 16 (.bool false) ?_
  refine kp 17 (.agg #[Value.int .i64 N, Value.iface 48 (Value.iface (List.length ls) (Value.iface 0 (Value.agg (List.toArray (lcs ls)))))]) ?_
  refine kp 18 (.int IntKind.i64 a) ?_
  refine fr 19 53 [Value.agg #[Value.int .i64 N, Value.iface 48 (Value.iface (List.length ls) (Value.iface 0 (Value.agg (List.toArray (lcs ls)))))], Value.int .i64 a] ?_
  refine WpFun.of (c2) ?_
  refine kp 20 (.bool false) ?_
  refine kp 21 (.bool false) ?_
  refine kp 22 (.bool false) ?_
  refine kp 23 (.agg #[Value.int .i64 N, Value.iface 48 (Value.iface (List.length ls) (Value.iface 0 (Value.agg (List.toArray (lcs ls)))))]) ?_
  refine kp 24 (.int IntKind.i64 b) ?_
  refine fr 25 53 [Value.agg #[Value.int .i64 N, Value.iface 48 (Value.iface (List.length ls) (Value.iface 0 (Value.agg (List.toArray (lcs ls)))))], Value.int .i64 b] ?_
  refine WpFun.of (c3) ?_
  refine kp 26 (.bool false) ?_
  refine kp 27 (.bool false) ?_
  refine kp 28 (.bool false) ?_
  refine kp 29 (.int IntKind.i64 a) ?_
  refine kp 30 (.int IntKind.i64 b) ?_
  refine kp 31 (.bool false) ?_ (hop := fun _ => by_fact h4)
  refine kp 32 (.bool false) ?_
  refine kp 33 (.bool false) ?_
  refine kp 34 (.int IntKind.i64 c) ?_
  refine kp 35 (.bool false) ?_ (hop := fun _ => by_fact d1)
  refine kp 36 (.bool false) ?_
  refine kp 37 (.bool false) ?_
  refine kp 38 (.int IntKind.i64 c) ?_
  refine kp 39 (.bool false) ?_ (hop := fun _ => by_fact d2)
  refine kp 40 (.bool false) ?_
  refine WpOps.nil (thenK_at (off' (Wp.skip (thenK_at (Wp.seq (Wp.text ?_))))))
  refine kp 42 (.int IntKind.i64 a) ?_
  refine kp 43 (.int IntKind.i64 b) ?_
  refine kp 44 (.int IntKind.i64 (if b < a then b else a)) ?_
  refine kp 45 (.int IntKind.i64 a) ?_
  refine kp 46 (.int IntKind.i64 b) ?_
  refine kp 47 (.int IntKind.i64 (if b > a then b else a)) ?_
  refine kp 48 (.int IntKind.i64 c) ?_
  refine kp 49 (.agg #[Value.int .i64 (if b < a then b else a), Value.int .i64 (if b > a then b else a), Value.int .i64 c]) ?_
  refine md 10 (.pointer (some ⟨2, 0, none⟩)) (Blk.mk 48 true [Value.int .i64 0, Value.int .i64 0, Value.int .i64 0]) ?_
  refine ld (.tuple #[]) (2) (Blk.mk 48 true [Value.int .i64 (if b < a then b else a), Value.int .i64 (if b > a then b else a), Value.int .i64 c]) ?_
  refine WpOps.nil (thenK_at (Wp.seq ?_))
  refine Wp.regionG (fun _ => many 59 [FS 48 ls.length 0 (lcs ls).toArray] (fun g => .slice (some ⟨g.next, 0, none⟩) (ls.length) (ls.length)) (fun g => g.alloc ⟨48, true, lcs ls⟩)) (fun ok _ => many_sim ok c4) [[0, 1, 2, 3, 4, 6, 5, 7], [0, 1, 2, 3, 6, 4, 5, 7]] (by kernel_rfl)
    [(8, .pointer (some ⟨1, 0, none⟩)), (10, .pointer (some ⟨2, 0, none⟩)), (11, .pointer (some ⟨4, 0, none⟩))] [⟨24, true, [.int .i64 N, lks 0 ls]⟩, ⟨24, true, [.int .i64 0, .slice none 0 0]⟩, ⟨48, true, [.int .i64 (if b < a then b else a), .int .i64 (if b > a then b else a), .int .i64 c]⟩, ⟨48, true, lcs ls⟩, ⟨24, true, [.int .i64 N, .slice (some ⟨3, 0, none⟩) (ls.length) (ls.length)]⟩] (allC ?_ (all1 ?_)) ?_
  · refine WpRun.ops [0, 1, 2, 3] [4, 6, 5, 7] (by kernel_rfl) ?_
    refine kp 50 (.pointer (some ⟨0, 0, none⟩)) ?_
    refine kp 51 (.int IntKind.i64 N) ?_
    refine kp 52 (.pointer (some ⟨0, 1, none⟩)) ?_
    refine kp 53 (.iface 48 (Value.iface (List.length ls) (Value.iface 0 (Value.agg (List.toArray (lcs ls)))))) ?_
    refine WpOps.nil ?_
    refine WpRun.callro 4 [6, 5, 7] 54 59 [FS 48 ls.length 0 (lcs ls).toArray] rfl (by kernel_rfl) (by kernel_rfl) (by kernel_rfl) (by kernel_rfl) (fun cf => by kernel_rfl) (many_at _ _ _ _ _) ?_
    refine WpRun.ops [6, 5, 7] [] (by kernel_rfl) ?_
    refine md 11 (.pointer (some ⟨4, 0, none⟩)) (Blk.mk 24 true [Value.int .i64 0, Value.slice none 0 0]) ?_
    refine kp 55 (.agg #[Value.int .i64 N, Value.slice (some (Addr.mk (Heap.next (Heap.ro (Heap.set (Heap.alloc (Heap.alloc (Heap.alloc Heap.none (Blk.mk 24 true [Value.int .i64 N, Value.iface 48 (Value.iface (List.length ls) (Value.iface 0 (Value.agg (List.toArray (lcs ls)))))])) (Blk.mk 24 true [Value.int .i64 0, Value.slice none 0 0])) (Blk.mk 48 true [Value.int .i64 0, Value.int .i64 0, Value.int .i64 0])) 2 (some (Blk.mk 48 true [Value.int .i64 (if b < a then b else a), Value.int .i64 (if b > a then b else a), Value.int .i64 c]))))) 0 none)) (List.length ls) (List.length ls)]) ?_
    refine ld (.tuple #[]) (4) (Blk.mk 24 true [Value.int .i64 N, Value.slice (some (Addr.mk (Heap.next (Heap.ro (Heap.set (Heap.alloc (Heap.alloc (Heap.alloc Heap.none (Blk.mk 24 true [Value.int .i64 N, Value.iface 48 (Value.iface (List.length ls) (Value.iface 0 (Value.agg (List.toArray (lcs ls)))))])) (Blk.mk 24 true [Value.int .i64 0, Value.slice none 0 0])) (Blk.mk 48 true [Value.int .i64 0, Value.int .i64 0, Value.int .i64 0])) 2 (some (Blk.mk 48 true [Value.int .i64 (if b < a then b else a), Value.int .i64 (if b > a then b else a), Value.int .i64 c]))))) 0 none)) (List.length ls) (List.length ls)]) ?_
    refine WpOps.nil ?_
    exact WpRun.nil (View.of [0, 1, 2, 3, 4] [⟨24, true, [.int .i64 N, lks 0 ls]⟩, ⟨24, true, [.int .i64 0, .slice none 0 0]⟩, ⟨48, true, [.int .i64 (if b < a then b else a), .int .i64 (if b > a then b else a), .int .i64 c]⟩, ⟨48, true, lcs ls⟩, ⟨24, true, [.int .i64 N, .slice (some ⟨3, 0, none⟩) (ls.length) (ls.length)]⟩] _ (by decide) rfl ⟨⟨_, by kernel_rfl, CellsOk.eq rfl (by kernel_rfl)⟩, ⟨_, by kernel_rfl, CellsOk.eq rfl (by kernel_rfl)⟩, ⟨_, by kernel_rfl, CellsOk.eq rfl (by kernel_rfl)⟩, ⟨_, by kernel_rfl, CellsOk.eq rfl (lcs_flat _)⟩, ⟨[.int .i64 N, .slice (some ⟨3, 0, none⟩) (ls.length) (ls.length)], by kernel_rfl, by kernel_rfl, by kernel_rfl⟩, trivial⟩ ⟨⟨by kernel_rfl, rfl⟩, ⟨by kernel_rfl, rfl⟩, ⟨by kernel_rfl, rfl⟩, trivial⟩)
  · refine WpRun.ops [0, 1, 2, 3, 6] [4, 5, 7] (by kernel_rfl) ?_
    refine kp 50 (.pointer (some ⟨0, 0, none⟩)) ?_
    refine kp 51 (.int IntKind.i64 N) ?_
    refine kp 52 (.pointer (some ⟨0, 1, none⟩)) ?_
    refine kp 53 (.iface 48 (Value.iface (List.length ls) (Value.iface 0 (Value.agg (List.toArray (lcs ls)))))) ?_
    refine md 11 (.pointer (some ⟨3, 0, none⟩)) (Blk.mk 24 true [Value.int .i64 0, Value.slice none 0 0]) ?_
    refine WpOps.nil ?_
    refine WpRun.callro 4 [5, 7] 54 59 [FS 48 ls.length 0 (lcs ls).toArray] rfl (by kernel_rfl) (by kernel_rfl) (by kernel_rfl) (by kernel_rfl) (fun cf => by kernel_rfl) (many_at _ _ _ _ _) ?_
    refine WpRun.ops [5, 7] [] (by kernel_rfl) ?_
    refine kp 55 (.agg #[Value.int .i64 N, Value.slice (some (Addr.mk (Heap.next (Heap.ro (Heap.alloc (Heap.set (Heap.alloc (Heap.alloc (Heap.alloc Heap.none (Blk.mk 24 true [Value.int .i64 N, Value.iface 48 (Value.iface (List.length ls) (Value.iface 0 (Value.agg (List.toArray (lcs ls)))))])) (Blk.mk 24 true [Value.int .i64 0, Value.slice none 0 0])) (Blk.mk 48 true [Value.int .i64 0, Value.int .i64 0, Value.int .i64 0])) 2 (some (Blk.mk 48 true [Value.int .i64 (if b < a then b else a), Value.int .i64 (if b > a then b else a), Value.int .i64 c]))) (Blk.mk 24 true [Value.int .i64 0, Value.slice none 0 0])))) 0 none)) (List.length ls) (List.length ls)]) ?_
    refine ld (.tuple #[]) (3) (Blk.mk 24 true [Value.int .i64 N, Value.slice (some (Addr.mk (Heap.next (Heap.ro (Heap.alloc (Heap.set (Heap.alloc (Heap.alloc (Heap.alloc Heap.none (Blk.mk 24 true [Value.int .i64 N, Value.iface 48 (Value.iface (List.length ls) (Value.iface 0 (Value.agg (List.toArray (lcs ls)))))])) (Blk.mk 24 true [Value.int .i64 0, Value.slice none 0 0])) (Blk.mk 48 true [Value.int .i64 0, Value.int .i64 0, Value.int .i64 0])) 2 (some (Blk.mk 48 true [Value.int .i64 (if b < a then b else a), Value.int .i64 (if b > a then b else a), Value.int .i64 c]))) (Blk.mk 24 true [Value.int .i64 0, Value.slice none 0 0])))) 0 none)) (List.length ls) (List.length ls)]) ?_
    refine WpOps.nil ?_
    exact WpRun.nil (View.of [0, 1, 2, 4, 3] [⟨24, true, [.int .i64 N, lks 0 ls]⟩, ⟨24, true, [.int .i64 0, .slice none 0 0]⟩, ⟨48, true, [.int .i64 (if b < a then b else a), .int .i64 (if b > a then b else a), .int .i64 c]⟩, ⟨48, true, lcs ls⟩, ⟨24, true, [.int .i64 N, .slice (some ⟨3, 0, none⟩) (ls.length) (ls.length)]⟩] _ (by decide) rfl ⟨⟨_, by kernel_rfl, CellsOk.eq rfl (by kernel_rfl)⟩, ⟨_, by kernel_rfl, CellsOk.eq rfl (by kernel_rfl)⟩, ⟨_, by kernel_rfl, CellsOk.eq rfl (by kernel_rfl)⟩, ⟨_, by kernel_rfl, CellsOk.eq rfl (lcs_flat _)⟩, ⟨[.int .i64 N, .slice (some ⟨4, 0, none⟩) (ls.length) (ls.length)], by kernel_rfl, by kernel_rfl, by kernel_rfl⟩, trivial⟩ ⟨⟨by kernel_rfl, rfl⟩, ⟨by kernel_rfl, rfl⟩, ⟨by kernel_rfl, rfl⟩, trivial⟩)
  · unfold lks
    refine thenK_at (Wp.seq (Wp.seq (Wp.text ?_)))
    refine kp 56 (.pointer (some ⟨4, 1, none⟩)) ?_
    refine kp 57 (.slice (some ⟨3, 0, none⟩) (List.length ls) (List.length ls)) ?_
    refine kp 58 (.func (Fn.func 61) #[] #[Value.pointer (some ⟨2, 0, none⟩)]) ?_
    refine cl 59 60 [Value.slice (some ⟨3, 0, none⟩) (List.length ls) (List.length ls), Value.func (Fn.func 61) #[] #[Value.pointer (some ⟨2, 0, none⟩)]] ?_
    refine WpCall.enterL c5 rfl ?_
    refine kp 12 (.int IntKind.i64 (-1)) ?_
    refine WpOps.nil (thenK_at (Wp.seq (Wp.text ?_)))
    refine kp 60 (.int IntKind.i64 (-1)) ?_
    refine kp 61 (.bool false) ?_
    refine WpOps.nil (thenK_at (off' (Wp.text ?_)))
    refine kp 67 (.pointer (some ⟨4, 1, none⟩)) ?_
    refine kp 68 (.slice (some ⟨3, 0, none⟩) (List.length ls) (List.length ls)) ?_
    refine kp 69 (.agg #[Value.int .i64 (if b < a then b else a), Value.int .i64 (if b > a then b else a), Value.int .i64 c]) ?_
    refine md 70 (.slice (some ⟨5, 0, none⟩) 1 1) (Blk.mk 48 true [Value.int .i64 (if b < a then b else a), Value.int .i64 (if b > a then b else a), Value.int .i64 c]) ?_
    refine ra 71 (.slice (some ⟨6, 0, none⟩) (List.length ls + 1) (List.length ls + 1)) (3) (Blk.mk 48 true (lcs ls ++ [Value.int .i64 (if b < a then b else a), Value.int .i64 (if b > a then b else a), Value.int .i64 c])) ?_ (hop := fun _ => o_append (e := 48) (3) (0) (List.length ls) _ (List.length ls) q1 q2 q3)
    refine kp 72 (.pointer (some ⟨4, 1, none⟩)) ?_
    refine ld (.tuple #[]) (4) (Blk.mk 24 true [Value.int .i64 N, Value.slice (some ⟨6, 0, none⟩) (List.length ls + 1) (List.length ls + 1)]) ?_
    refine WpOps.nil (thenK_at (Wp.seq (Wp.text ?_)))
    refine kp 73 (.agg #[Value.int .i64 N, Value.slice (some ⟨6, 0, none⟩) (List.length ls + 1) (List.length ls + 1)]) ?_
    refine ld (.tuple #[]) (1) (Blk.mk 24 true [Value.int .i64 N, Value.slice (some ⟨6, 0, none⟩) (List.length ls + 1) (List.length ls + 1)]) ?_
    refine kp 9 (.int IntKind.i64 0) ?_
    refine WpOps.nil (thenK_at (Wp.ret ?_))
    refine endK_retn [Value.agg #[Value.int IntKind.i64 N, Value.slice (some (Addr.mk 6 0 none)) (List.length ls + 1) (List.length ls + 1)], Value.int IntKind.i64 0] (Value.tuple #[Value.agg #[Value.int IntKind.i64 N, Value.slice (some (Addr.mk 6 0 none)) (List.length ls + 1) (List.length ls + 1)], Value.int IntKind.i64 0]) (by kernel_rfl) (by kernel_rfl) ?_
    rw [hl]
    exact net_ice (links_ice (ls := ls ++ [((if b < a then b else a), (if b > a then b else a), c)]) (z := []) (by rw [List.append_nil]; exact congrArg (fun z => some (Blk.mk 48 true z)) hsn)) rfl
set_option maxHeartbeats 4000000 in
theorem join36_hit (N : Int) (ls : List Lk) (a b c : Int) (fi : Nat) (hn : ls.length * 24 ≤ 140737488351232) (hfi : fi < ls.length) (h2 : ∀ j, j < fi → hit a b (ls.getD j (0, 0, 0)) = false) (h3 : hit a b (ls.getD fi (0, 0, 0)) = true) (c1 : Fun E 25 [netV N 0 ls] (.bool true)) (hb : okJoin true N a b c = true) : Fun E 36 [netV N 0 ls, .int .i64 a, .int .i64 b, .int .i64 c] (.tuple #[netV N 0 (ls.set fi (mn a b, mx a b, c)), .int .i64 0]) := by
  refine Fun.of f36 rfl (of_decide_eq_true (by kernel_rfl)) rfl ?_
  have c2 := node53 N 0 ls a
  have c3 := node53 N 0 ls b
  obtain ⟨h0, h1, h3', h4, h5, h6⟩ := okJoin_parts hb
  rw [h1] at c2
  rw [h3'] at c3
  have d1 : decide (c < 1) = false := decide_eq_false (by omega)
  have d2 : decide (c ≥ 16) = false := decide_eq_false (by omega)
  clear hb h0 h1 h3' h5 h6
  have c4 := clone59s ls.length (lcs ls) (by omega) (lcs_len ls) (lcs_flat ls)
  have hfl := lcs_flat ls
  have c5 := idx60j N 0 ls (mn a b) (mx a b) c fi (by omega) (by omega) (by omega) h2 (fun _ => h3)
  rw [if_pos hfi] at c5
  have d3 : decide ((fi : Int) ≥ 0) = true := decide_eq_true (by omega)
  have g2 : 0 ≤ (fi : Int) ∧ (fi : Int) < ls.length := by omega
  have q1 : true = true ∧ 0 + (fi : Int).toNat * 3 + [Value.int .i64 (mn a b), .int .i64 (mx a b), .int .i64 c].length ≤ (lcs ls).length := ⟨rfl, by rw [lcs_len]; simp; omega⟩
  have hsn : setAll (lcs ls) (0 + (fi : Int).toNat * 3) [.int .i64 (mn a b), .int .i64 (mx a b), .int .i64 c] = lcs (ls.set fi (mn a b, mx a b, c)) := by
    rw [Int.toNat_natCast, Nat.zero_add]
    exact lcs_set _ _ _ _ _
  have hl : (ls.set fi (mn a b, mx a b, c)).length = ls.length := by simp
  unfold mn mx at *
  unfold netV lks at *
  refine Wp.seq (Wp.text ?_)
  refine md 4 (.pointer (some ⟨0, 0, none⟩)) (Blk.mk 24 true [Value.int .i64 N, Value.iface 48 (Value.iface (List.length ls) (Value.iface 0 (Value.agg (List.toArray (lcs ls)))))]) ?_
  refine md 8 (.pointer (some ⟨1, 0, none⟩)) (Blk.mk 24 true [Value.int .i64 0, Value.slice none 0 0]) ?_
  refine kp 9 (.int IntKind.i64 0) ?_
  refine WpOps.nil (thenK_at (Wp.seq (Wp.seq (Wp.text ?_))))
  refine kp 13 (.agg #[Value.int .i64 N, Value.iface 48 (Value.iface (List.length ls) (Value.iface 0 (Value.agg (List.toArray (lcs ls)))))]) ?_
  refine fr 14 25 [Value.agg #[Value.int .i64 N, Value.iface 48 (Value.iface (List.length ls) (Value.iface 0 (Value.agg (List.toArray (lcs ls)))))]] ?_
  refine WpFun.of (c1) ?_
  refine kp 15 (.bool false) ?_
  refine kp 16 (.bool false) ?_
  refine kp 17 (.agg #[Value.int .i64 N, Value.iface 48 (Value.iface (List.length ls) (Value.iface 0 (Value.agg (List.toArray (lcs ls)))))]) ?_
  refine kp 18 (.int IntKind.i64 a) ?_
  refine fr 19 53 [Value.agg #[Value.int .i64 N, Value.iface 48 (Value.iface (List.length ls) (Value.iface 0 (Value.agg (List.toArray (lcs ls)))))], Value.int .i64 a] ?_
  refine WpFun.of (c2) ?_
  refine kp 20 (.bool false) ?_
  refine kp 21 (.bool false) ?_
  refine kp 22 (.bool false) ?_
  refine kp 23 (.agg #[Value.int .i64 N, Value.iface 48 (Value.iface (List.length ls) (Value.iface 0 (Value.agg (List.toArray (lcs ls)))))]) ?_
  refine kp 24 (.int IntKind.i64 b) ?_
  refine fr 25 53 [Value.agg #[Value.int .i64 N, Value.iface 48 (Value.iface (List.length ls) (Value.iface 0 (Value.agg (List.toArray (lcs ls)))))], Value.int .i64 b] ?_
  refine WpFun.of (c3) ?_
  refine kp 26 (.bool false) ?_
  refine kp 27 (.bool false) ?_
  refine kp 28 (.bool false) ?_
  refine kp 29 (.int IntKind.i64 a) ?_
  refine kp 30 (.int IntKind.i64 b) ?_
  refine kp 31 (.bool false) ?_ (hop := fun _ => by_fact h4)
  refine kp 32 (.bool false) ?_
  refine kp 33 (.bool false) ?_
  refine kp 34 (.int IntKind.i64 c) ?_
  refine kp 35 (.bool false) ?_ (hop := fun _ => by_fact d1)
  refine kp 36 (.bool false) ?_
  refine kp 37 (.bool false) ?_
  refine kp 38 (.int IntKind.i64 c) ?_
  refine kp 39 (.bool false) ?_ (hop := fun _ => by_fact d2)
  refine kp 40 (.bool false) ?_
  refine WpOps.nil (thenK_at (off' (Wp.skip (thenK_at (Wp.seq (Wp.text ?_))))))
  refine kp 42 (.int IntKind.i64 a) ?_
  refine kp 43 (.int IntKind.i64 b) ?_
  refine kp 44 (.int IntKind.i64 (if b < a then b else a)) ?_
  refine kp 45 (.int IntKind.i64 a) ?_
  refine kp 46 (.int IntKind.i64 b) ?_
  refine kp 47 (.int IntKind.i64 (if b > a then b else a)) ?_
  refine kp 48 (.int IntKind.i64 c) ?_
  refine kp 49 (.agg #[Value.int .i64 (if b < a then b else a), Value.int .i64 (if b > a then b else a), Value.int .i64 c]) ?_
  refine md 10 (.pointer (some ⟨2, 0, none⟩)) (Blk.mk 48 true [Value.int .i64 0, Value.int .i64 0, Value.int .i64 0]) ?_
  refine ld (.tuple #[]) (2) (Blk.mk 48 true [Value.int .i64 (if b < a then b else a), Value.int .i64 (if b > a then b else a), Value.int .i64 c]) ?_
  refine WpOps.nil (thenK_at (Wp.seq ?_))
  refine Wp.regionG (fun _ => many 59 [FS 48 ls.length 0 (lcs ls).toArray] (fun g => .slice (some ⟨g.next, 0, none⟩) (ls.length) (ls.length)) (fun g => g.alloc ⟨48, true, lcs ls⟩)) (fun ok _ => many_sim ok c4) [[0, 1, 2, 3, 4, 6, 5, 7], [0, 1, 2, 3, 6, 4, 5, 7]] (by kernel_rfl)
    [(8, .pointer (some ⟨1, 0, none⟩)), (10, .pointer (some ⟨2, 0, none⟩)), (11, .pointer (some ⟨4, 0, none⟩))] [⟨24, true, [.int .i64 N, lks 0 ls]⟩, ⟨24, true, [.int .i64 0, .slice none 0 0]⟩, ⟨48, true, [.int .i64 (if b < a then b else a), .int .i64 (if b > a then b else a), .int .i64 c]⟩, ⟨48, true, lcs ls⟩, ⟨24, true, [.int .i64 N, .slice (some ⟨3, 0, none⟩) (ls.length) (ls.length)]⟩] (allC ?_ (all1 ?_)) ?_
  · refine WpRun.ops [0, 1, 2, 3] [4, 6, 5, 7] (by kernel_rfl) ?_
    refine kp 50 (.pointer (some ⟨0, 0, none⟩)) ?_
    refine kp 51 (.int IntKind.i64 N) ?_
    refine kp 52 (.pointer (some ⟨0, 1, none⟩)) ?_
    refine kp 53 (.iface 48 (Value.iface (List.length ls) (Value.iface 0 (Value.agg (List.toArray (lcs ls)))))) ?_
    refine WpOps.nil ?_
    refine WpRun.callro 4 [6, 5, 7] 54 59 [FS 48 ls.length 0 (lcs ls).toArray] rfl (by kernel_rfl) (by kernel_rfl) (by kernel_rfl) (by kernel_rfl) (fun cf => by kernel_rfl) (many_at _ _ _ _ _) ?_
    refine WpRun.ops [6, 5, 7] [] (by kernel_rfl) ?_
    refine md 11 (.pointer (some ⟨4, 0, none⟩)) (Blk.mk 24 true [Value.int .i64 0, Value.slice none 0 0]) ?_
    refine kp 55 (.agg #[Value.int .i64 N, Value.slice (some (Addr.mk (Heap.next (Heap.ro (Heap.set (Heap.alloc (Heap.alloc (Heap.alloc Heap.none (Blk.mk 24 true [Value.int .i64 N, Value.iface 48 (Value.iface (List.length ls) (Value.iface 0 (Value.agg (List.toArray (lcs ls)))))])) (Blk.mk 24 true [Value.int .i64 0, Value.slice none 0 0])) (Blk.mk 48 true [Value.int .i64 0, Value.int .i64 0, Value.int .i64 0])) 2 (some (Blk.mk 48 true [Value.int .i64 (if b < a then b else a), Value.int .i64 (if b > a then b else a), Value.int .i64 c]))))) 0 none)) (List.length ls) (List.length ls)]) ?_
    refine ld (.tuple #[]) (4) (Blk.mk 24 true [Value.int .i64 N, Value.slice (some (Addr.mk (Heap.next (Heap.ro (Heap.set (Heap.alloc (Heap.alloc (Heap.alloc Heap.none (Blk.mk 24 true [Value.int .i64 N, Value.iface 48 (Value.iface (List.length ls) (Value.iface 0 (Value.agg (List.toArray (lcs ls)))))])) (Blk.mk 24 true [Value.int .i64 0, Value.slice none 0 0])) (Blk.mk 48 true [Value.int .i64 0, Value.int .i64 0, Value.int .i64 0])) 2 (some (Blk.mk 48 true [Value.int .i64 (if b < a then b else a), Value.int .i64 (if b > a then b else a), Value.int .i64 c]))))) 0 none)) (List.length ls) (List.length ls)]) ?_
    refine WpOps.nil ?_
    exact WpRun.nil (View.of [0, 1, 2, 3, 4] [⟨24, true, [.int .i64 N, lks 0 ls]⟩, ⟨24, true, [.int .i64 0, .slice none 0 0]⟩, ⟨48, true, [.int .i64 (if b < a then b else a), .int .i64 (if b > a then b else a), .int .i64 c]⟩, ⟨48, true, lcs ls⟩, ⟨24, true, [.int .i64 N, .slice (some ⟨3, 0, none⟩) (ls.length) (ls.length)]⟩] _ (by decide) rfl ⟨⟨_, by kernel_rfl, CellsOk.eq rfl (by kernel_rfl)⟩, ⟨_, by kernel_rfl, CellsOk.eq rfl (by kernel_rfl)⟩, ⟨_, by kernel_rfl, CellsOk.eq rfl (by kernel_rfl)⟩, ⟨_, by kernel_rfl, CellsOk.eq rfl (lcs_flat _)⟩, ⟨[.int .i64 N, .slice (some ⟨3, 0, none⟩) (ls.length) (ls.length)], by kernel_rfl, by kernel_rfl, by kernel_rfl⟩, trivial⟩ ⟨⟨by kernel_rfl, rfl⟩, ⟨by kernel_rfl, rfl⟩, ⟨by kernel_rfl, rfl⟩, trivial⟩)
  · refine WpRun.ops [0, 1, 2, 3, 6] [4, 5, 7] (by kernel_rfl) ?_
    refine kp 50 (.pointer (some ⟨0, 0, none⟩)) ?_
    refine kp 51 (.int IntKind.i64 N) ?_
    refine kp 52 (.pointer (some ⟨0, 1, none⟩)) ?_
    refine kp 53 (.iface 48 (Value.iface (List.length ls) (Value.iface 0 (Value.agg (List.toArray (lcs ls)))))) ?_
    refine md 11 (.pointer (some ⟨3, 0, none⟩)) (Blk.mk 24 true [Value.int .i64 0, Value.slice none 0 0]) ?_
    refine WpOps.nil ?_
    refine WpRun.callro 4 [5, 7] 54 59 [FS 48 ls.length 0 (lcs ls).toArray] rfl (by kernel_rfl) (by kernel_rfl) (by kernel_rfl) (by kernel_rfl) (fun cf => by kernel_rfl) (many_at _ _ _ _ _) ?_
    refine WpRun.ops [5, 7] [] (by kernel_rfl) ?_
    refine kp 55 (.agg #[Value.int .i64 N, Value.slice (some (Addr.mk (Heap.next (Heap.ro (Heap.alloc (Heap.set (Heap.alloc (Heap.alloc (Heap.alloc Heap.none (Blk.mk 24 true [Value.int .i64 N, Value.iface 48 (Value.iface (List.length ls) (Value.iface 0 (Value.agg (List.toArray (lcs ls)))))])) (Blk.mk 24 true [Value.int .i64 0, Value.slice none 0 0])) (Blk.mk 48 true [Value.int .i64 0, Value.int .i64 0, Value.int .i64 0])) 2 (some (Blk.mk 48 true [Value.int .i64 (if b < a then b else a), Value.int .i64 (if b > a then b else a), Value.int .i64 c]))) (Blk.mk 24 true [Value.int .i64 0, Value.slice none 0 0])))) 0 none)) (List.length ls) (List.length ls)]) ?_
    refine ld (.tuple #[]) (3) (Blk.mk 24 true [Value.int .i64 N, Value.slice (some (Addr.mk (Heap.next (Heap.ro (Heap.alloc (Heap.set (Heap.alloc (Heap.alloc (Heap.alloc Heap.none (Blk.mk 24 true [Value.int .i64 N, Value.iface 48 (Value.iface (List.length ls) (Value.iface 0 (Value.agg (List.toArray (lcs ls)))))])) (Blk.mk 24 true [Value.int .i64 0, Value.slice none 0 0])) (Blk.mk 48 true [Value.int .i64 0, Value.int .i64 0, Value.int .i64 0])) 2 (some (Blk.mk 48 true [Value.int .i64 (if b < a then b else a), Value.int .i64 (if b > a then b else a), Value.int .i64 c]))) (Blk.mk 24 true [Value.int .i64 0, Value.slice none 0 0])))) 0 none)) (List.length ls) (List.length ls)]) ?_
    refine WpOps.nil ?_
    exact WpRun.nil (View.of [0, 1, 2, 4, 3] [⟨24, true, [.int .i64 N, lks 0 ls]⟩, ⟨24, true, [.int .i64 0, .slice none 0 0]⟩, ⟨48, true, [.int .i64 (if b < a then b else a), .int .i64 (if b > a then b else a), .int .i64 c]⟩, ⟨48, true, lcs ls⟩, ⟨24, true, [.int .i64 N, .slice (some ⟨3, 0, none⟩) (ls.length) (ls.length)]⟩] _ (by decide) rfl ⟨⟨_, by kernel_rfl, CellsOk.eq rfl (by kernel_rfl)⟩, ⟨_, by kernel_rfl, CellsOk.eq rfl (by kernel_rfl)⟩, ⟨_, by kernel_rfl, CellsOk.eq rfl (by kernel_rfl)⟩, ⟨_, by kernel_rfl, CellsOk.eq rfl (lcs_flat _)⟩, ⟨[.int .i64 N, .slice (some ⟨4, 0, none⟩) (ls.length) (ls.length)], by kernel_rfl, by kernel_rfl, by kernel_rfl⟩, trivial⟩ ⟨⟨by kernel_rfl, rfl⟩, ⟨by kernel_rfl, rfl⟩, ⟨by kernel_rfl, rfl⟩, trivial⟩)
  · unfold lks
    refine thenK_at (Wp.seq (Wp.seq (Wp.text ?_)))
    refine kp 56 (.pointer (some ⟨4, 1, none⟩)) ?_
    refine kp 57 (.slice (some ⟨3, 0, none⟩) (List.length ls) (List.length ls)) ?_
    refine kp 58 (.func (Fn.func 61) #[] #[Value.pointer (some ⟨2, 0, none⟩)]) ?_
    refine cl 59 60 [Value.slice (some ⟨3, 0, none⟩) (List.length ls) (List.length ls), Value.func (Fn.func 61) #[] #[Value.pointer (some ⟨2, 0, none⟩)]] ?_
    refine WpCall.enterL c5 rfl ?_
    refine kp 12 (.int IntKind.i64 (↑fi : Int)) ?_
    refine WpOps.nil (thenK_at (Wp.seq (Wp.text ?_)))
    refine kp 60 (.int IntKind.i64 (↑fi : Int)) ?_
    refine kp 61 (.bool (decide ((↑fi : Int) ≥ 0))) ?_
    refine WpOps.nil (thenK_at (on' (Wp.text ?_)))
    refine kp 62 (.pointer (some ⟨4, 1, none⟩)) ?_
    refine kp 63 (.slice (some ⟨3, 0, none⟩) (List.length ls) (List.length ls)) ?_
    refine kp 64 (.int IntKind.i64 (↑fi : Int)) ?_
    refine kp 65 (.agg #[Value.int .i64 (if b < a then b else a), Value.int .i64 (if b > a then b else a), Value.int .i64 c]) ?_
    refine kp 66 (.pointer (some (Addr.mk 3 (0 + Int.toNat (↑fi : Int) * 3) none))) ?_ (hop := fun _ => o_indexAddr (a := (↑fi : Int)) (bl := 3) (off := 0) (size := 3) 48 (List.length ls) g2)
    refine ld (.tuple #[]) (3) (Blk.mk 48 true (List.set (List.set (List.set (lcs ls) (0 + Int.toNat (↑fi : Int) * 3) (Value.int .i64 (if b < a then b else a))) (0 + Int.toNat (↑fi : Int) * 3 + 1) (Value.int .i64 (if b > a then b else a))) (0 + Int.toNat (↑fi : Int) * 3 + 1 + 1) (Value.int .i64 c))) ?_ (hop := fun _ => o_storeH (v := Value.agg #[Value.int IntKind.i64 (if b < a then b else a), Value.int IntKind.i64 (if b > a then b else a), Value.int IntKind.i64 c]) (xs := [Value.int IntKind.i64 (if b < a then b else a), Value.int IntKind.i64 (if b > a then b else a), Value.int IntKind.i64 c]) (cells := lcs ls) (el := 48) (3) (0 + Int.toNat (↑fi : Int) * 3) (by kernel_rfl) q1)
    refine WpOps.nil (thenK_at (Wp.seq (Wp.text ?_)))
    refine kp 73 (.agg #[Value.int .i64 N, Value.slice (some ⟨3, 0, none⟩) (List.length ls) (List.length ls)]) ?_
    refine ld (.tuple #[]) (1) (Blk.mk 24 true [Value.int .i64 N, Value.slice (some ⟨3, 0, none⟩) (List.length ls) (List.length ls)]) ?_
    refine kp 9 (.int IntKind.i64 0) ?_
    refine WpOps.nil (thenK_at (Wp.ret ?_))
    refine endK_retn [Value.agg #[Value.int IntKind.i64 N, Value.slice (some (Addr.mk 3 0 none)) (List.length ls) (List.length ls)], Value.int IntKind.i64 0] (Value.tuple #[Value.agg #[Value.int IntKind.i64 N, Value.slice (some (Addr.mk 3 0 none)) (List.length ls) (List.length ls)], Value.int IntKind.i64 0]) (by kernel_rfl) (by kernel_rfl) ?_
    rw [← hl]
    exact net_ice (links_ice (ls := ls.set fi ((if b < a then b else a), (if b > a then b else a), c)) (z := []) (by rw [List.append_nil]; exact congrArg (fun z => some (Blk.mk 48 true z)) hsn)) rfl
set_option maxHeartbeats 4000000 in
theorem join36_empty (N : Int) (a b c : Int) (c1 : Fun E 25 [netV N 0 []] (.bool true)) (hb : okJoin true N a b c = true) : Fun E 36 [netV N 0 [], .int .i64 a, .int .i64 b, .int .i64 c] (.tuple #[netV N 0 ([(mn a b, mx a b, c)]), .int .i64 0]) := by
  refine Fun.of f36 rfl (of_decide_eq_true (by kernel_rfl)) rfl ?_
  have c2 := node53 N 0 [] a
  have c3 := node53 N 0 [] b
  obtain ⟨h0, h1, h3', h4, h5, h6⟩ := okJoin_parts hb
  rw [h1] at c2
  rw [h3'] at c3
  have d1 : decide (c < 1) = false := decide_eq_false (by omega)
  have d2 : decide (c ≥ 16) = false := decide_eq_false (by omega)
  clear hb h0 h1 h3' h5 h6
  have c4 : ∀ g, SCall E 59 [FS 48 0 0 #[]] g (.slice (some ⟨g.next, 0, none⟩) 0 0) (g.alloc ⟨48, true, []⟩) := fun g => SCall.lend (h := g) (args := [FS 48 0 0 #[]]) [] clone59_empty List.nodup_nil trivial rfl
  have c5 : SCall E 60 [.slice (some ⟨3, 0, none⟩) (0) (0), .func (.func 61) #[] #[.pointer (some ⟨2, 0, none⟩)]] (heapOf [⟨24, true, [.int .i64 N, FS 48 0 0 #[]]⟩, ⟨24, true, [.int .i64 0, .slice none 0 0]⟩, ⟨48, true, [.int .i64 (if b < a then b else a), .int .i64 (if b > a then b else a), .int .i64 c]⟩, ⟨48, true, []⟩, ⟨24, true, [.int .i64 N, .slice (some ⟨3, 0, none⟩) (0) (0)]⟩]) (.int .i64 (-1)) (heapOf [⟨24, true, [.int .i64 N, FS 48 0 0 #[]]⟩, ⟨24, true, [.int .i64 0, .slice none 0 0]⟩, ⟨48, true, [.int .i64 (if b < a then b else a), .int .i64 (if b > a then b else a), .int .i64 c]⟩, ⟨48, true, []⟩, ⟨24, true, [.int .i64 N, .slice (some ⟨3, 0, none⟩) (0) (0)]⟩]) := SCall.closed 60 (by kernel_rfl)
  rw [show netV N 0 [] = .agg #[.int .i64 N, FS 48 0 0 #[]] from rfl] at *
  unfold mn mx at *
  refine Wp.seq (Wp.text ?_)
  refine md 4 (.pointer (some ⟨0, 0, none⟩)) (Blk.mk 24 true [Value.int .i64 N, Value.iface 48 (Value.iface 0 (Value.iface 0 (Value.agg #[])))]) ?_
  refine md 8 (.pointer (some ⟨1, 0, none⟩)) (Blk.mk 24 true [Value.int .i64 0, Value.slice none 0 0]) ?_
  refine kp 9 (.int IntKind.i64 0) ?_
  refine WpOps.nil (thenK_at (Wp.seq (Wp.seq (Wp.text ?_))))
  refine kp 13 (.agg #[Value.int .i64 N, Value.iface 48 (Value.iface 0 (Value.iface 0 (Value.agg #[])))]) ?_
  refine fr 14 25 [Value.agg #[Value.int .i64 N, Value.iface 48 (Value.iface 0 (Value.iface 0 (Value.agg #[])))]] ?_
  refine WpFun.of (c1) ?_
  refine kp 15 (.bool false) ?_
  refine kp 16 (.bool false) ?_
  refine kp 17 (.agg #[Value.int .i64 N, Value.iface 48 (Value.iface 0 (Value.iface 0 (Value.agg #[])))]) ?_
  refine kp 18 (.int IntKind.i64 a) ?_
  refine fr 19 53 [Value.agg #[Value.int .i64 N, Value.iface 48 (Value.iface 0 (Value.iface 0 (Value.agg #[])))], Value.int .i64 a] ?_
  refine WpFun.of (c2) ?_
  refine kp 20 (.bool false) ?_
  refine kp 21 (.bool false) ?_
  refine kp 22 (.bool false) ?_
  refine kp 23 (.agg #[Value.int .i64 N, Value.iface 48 (Value.iface 0 (Value.iface 0 (Value.agg #[])))]) ?_
  refine kp 24 (.int IntKind.i64 b) ?_
  refine fr 25 53 [Value.agg #[Value.int .i64 N, Value.iface 48 (Value.iface 0 (Value.iface 0 (Value.agg #[])))], Value.int .i64 b] ?_
  refine WpFun.of (c3) ?_
  refine kp 26 (.bool false) ?_
  refine kp 27 (.bool false) ?_
  refine kp 28 (.bool false) ?_
  refine kp 29 (.int IntKind.i64 a) ?_
  refine kp 30 (.int IntKind.i64 b) ?_
  refine kp 31 (.bool false) ?_ (hop := fun _ => by_fact h4)
  refine kp 32 (.bool false) ?_
  refine kp 33 (.bool false) ?_
  refine kp 34 (.int IntKind.i64 c) ?_
  refine kp 35 (.bool false) ?_ (hop := fun _ => by_fact d1)
  refine kp 36 (.bool false) ?_
  refine kp 37 (.bool false) ?_
  refine kp 38 (.int IntKind.i64 c) ?_
  refine kp 39 (.bool false) ?_ (hop := fun _ => by_fact d2)
  refine kp 40 (.bool false) ?_
  refine WpOps.nil (thenK_at (off' (Wp.skip (thenK_at (Wp.seq (Wp.text ?_))))))
  refine kp 42 (.int IntKind.i64 a) ?_
  refine kp 43 (.int IntKind.i64 b) ?_
  refine kp 44 (.int IntKind.i64 (if b < a then b else a)) ?_
  refine kp 45 (.int IntKind.i64 a) ?_
  refine kp 46 (.int IntKind.i64 b) ?_
  refine kp 47 (.int IntKind.i64 (if b > a then b else a)) ?_
  refine kp 48 (.int IntKind.i64 c) ?_
  refine kp 49 (.agg #[Value.int .i64 (if b < a then b else a), Value.int .i64 (if b > a then b else a), Value.int .i64 c]) ?_
  refine md 10 (.pointer (some ⟨2, 0, none⟩)) (Blk.mk 48 true [Value.int .i64 0, Value.int .i64 0, Value.int .i64 0]) ?_
  refine ld (.tuple #[]) (2) (Blk.mk 48 true [Value.int .i64 (if b < a then b else a), Value.int .i64 (if b > a then b else a), Value.int .i64 c]) ?_
  refine WpOps.nil (thenK_at (Wp.seq ?_))
  refine Wp.regionG (fun _ => many 59 [FS 48 0 0 #[]] (fun g => .slice (some ⟨g.next, 0, none⟩) (0) (0)) (fun g => g.alloc ⟨48, true, []⟩)) (fun ok _ => many_sim ok c4) [[0, 1, 2, 3, 4, 6, 5, 7], [0, 1, 2, 3, 6, 4, 5, 7]] (by kernel_rfl)
    [(8, .pointer (some ⟨1, 0, none⟩)), (10, .pointer (some ⟨2, 0, none⟩)), (11, .pointer (some ⟨4, 0, none⟩))] [⟨24, true, [.int .i64 N, FS 48 0 0 #[]]⟩, ⟨24, true, [.int .i64 0, .slice none 0 0]⟩, ⟨48, true, [.int .i64 (if b < a then b else a), .int .i64 (if b > a then b else a), .int .i64 c]⟩, ⟨48, true, []⟩, ⟨24, true, [.int .i64 N, .slice (some ⟨3, 0, none⟩) (0) (0)]⟩] (allC ?_ (all1 ?_)) ?_
  · refine WpRun.ops [0, 1, 2, 3] [4, 6, 5, 7] (by kernel_rfl) ?_
    refine kp 50 (.pointer (some ⟨0, 0, none⟩)) ?_
    refine kp 51 (.int IntKind.i64 N) ?_
    refine kp 52 (.pointer (some ⟨0, 1, none⟩)) ?_
    refine kp 53 (.iface 48 (Value.iface 0 (Value.iface 0 (Value.agg #[])))) ?_
    refine WpOps.nil ?_
    refine WpRun.callro 4 [6, 5, 7] 54 59 [FS 48 0 0 #[]] rfl (by kernel_rfl) (by kernel_rfl) (by kernel_rfl) (by kernel_rfl) (fun cf => by kernel_rfl) (many_at _ _ _ _ _) ?_
    refine WpRun.ops [6, 5, 7] [] (by kernel_rfl) ?_
    refine md 11 (.pointer (some ⟨4, 0, none⟩)) (Blk.mk 24 true [Value.int .i64 0, Value.slice none 0 0]) ?_
    refine kp 55 (.agg #[Value.int .i64 N, Value.slice (some (Addr.mk (Heap.next (Heap.ro (Heap.set (Heap.alloc (Heap.alloc (Heap.alloc Heap.none (Blk.mk 24 true [Value.int .i64 N, Value.iface 48 (Value.iface 0 (Value.iface 0 (Value.agg #[])))])) (Blk.mk 24 true [Value.int .i64 0, Value.slice none 0 0])) (Blk.mk 48 true [Value.int .i64 0, Value.int .i64 0, Value.int .i64 0])) 2 (some (Blk.mk 48 true [Value.int .i64 (if b < a then b else a), Value.int .i64 (if b > a then b else a), Value.int .i64 c]))))) 0 none)) 0 0]) ?_
    refine ld (.tuple #[]) (4) (Blk.mk 24 true [Value.int .i64 N, Value.slice (some (Addr.mk (Heap.next (Heap.ro (Heap.set (Heap.alloc (Heap.alloc (Heap.alloc Heap.none (Blk.mk 24 true [Value.int .i64 N, Value.iface 48 (Value.iface 0 (Value.iface 0 (Value.agg #[])))])) (Blk.mk 24 true [Value.int .i64 0, Value.slice none 0 0])) (Blk.mk 48 true [Value.int .i64 0, Value.int .i64 0, Value.int .i64 0])) 2 (some (Blk.mk 48 true [Value.int .i64 (if b < a then b else a), Value.int .i64 (if b > a then b else a), Value.int .i64 c]))))) 0 none)) 0 0]) ?_
    refine WpOps.nil ?_
    exact WpRun.nil (View.of [0, 1, 2, 3, 4] [⟨24, true, [.int .i64 N, FS 48 0 0 #[]]⟩, ⟨24, true, [.int .i64 0, .slice none 0 0]⟩, ⟨48, true, [.int .i64 (if b < a then b else a), .int .i64 (if b > a then b else a), .int .i64 c]⟩, ⟨48, true, []⟩, ⟨24, true, [.int .i64 N, .slice (some ⟨3, 0, none⟩) (0) (0)]⟩] _ (by decide) rfl ⟨⟨_, by kernel_rfl, CellsOk.eq rfl (by kernel_rfl)⟩, ⟨_, by kernel_rfl, CellsOk.eq rfl (by kernel_rfl)⟩, ⟨_, by kernel_rfl, CellsOk.eq rfl (by kernel_rfl)⟩, ⟨_, by kernel_rfl, CellsOk.eq rfl (by kernel_rfl)⟩, ⟨[.int .i64 N, .slice (some ⟨3, 0, none⟩) (0) (0)], by kernel_rfl, by kernel_rfl, by kernel_rfl⟩, trivial⟩ ⟨⟨by kernel_rfl, rfl⟩, ⟨by kernel_rfl, rfl⟩, ⟨by kernel_rfl, rfl⟩, trivial⟩)
  · refine WpRun.ops [0, 1, 2, 3, 6] [4, 5, 7] (by kernel_rfl) ?_
    refine kp 50 (.pointer (some ⟨0, 0, none⟩)) ?_
    refine kp 51 (.int IntKind.i64 N) ?_
    refine kp 52 (.pointer (some ⟨0, 1, none⟩)) ?_
    refine kp 53 (.iface 48 (Value.iface 0 (Value.iface 0 (Value.agg #[])))) ?_
    refine md 11 (.pointer (some ⟨3, 0, none⟩)) (Blk.mk 24 true [Value.int .i64 0, Value.slice none 0 0]) ?_
    refine WpOps.nil ?_
    refine WpRun.callro 4 [5, 7] 54 59 [FS 48 0 0 #[]] rfl (by kernel_rfl) (by kernel_rfl) (by kernel_rfl) (by kernel_rfl) (fun cf => by kernel_rfl) (many_at _ _ _ _ _) ?_
    refine WpRun.ops [5, 7] [] (by kernel_rfl) ?_
    refine kp 55 (.agg #[Value.int .i64 N, Value.slice (some (Addr.mk (Heap.next (Heap.ro (Heap.alloc (Heap.set (Heap.alloc (Heap.alloc (Heap.alloc Heap.none (Blk.mk 24 true [Value.int .i64 N, Value.iface 48 (Value.iface 0 (Value.iface 0 (Value.agg #[])))])) (Blk.mk 24 true [Value.int .i64 0, Value.slice none 0 0])) (Blk.mk 48 true [Value.int .i64 0, Value.int .i64 0, Value.int .i64 0])) 2 (some (Blk.mk 48 true [Value.int .i64 (if b < a then b else a), Value.int .i64 (if b > a then b else a), Value.int .i64 c]))) (Blk.mk 24 true [Value.int .i64 0, Value.slice none 0 0])))) 0 none)) 0 0]) ?_
    refine ld (.tuple #[]) (3) (Blk.mk 24 true [Value.int .i64 N, Value.slice (some (Addr.mk (Heap.next (Heap.ro (Heap.alloc (Heap.set (Heap.alloc (Heap.alloc (Heap.alloc Heap.none (Blk.mk 24 true [Value.int .i64 N, Value.iface 48 (Value.iface 0 (Value.iface 0 (Value.agg #[])))])) (Blk.mk 24 true [Value.int .i64 0, Value.slice none 0 0])) (Blk.mk 48 true [Value.int .i64 0, Value.int .i64 0, Value.int .i64 0])) 2 (some (Blk.mk 48 true [Value.int .i64 (if b < a then b else a), Value.int .i64 (if b > a then b else a), Value.int .i64 c]))) (Blk.mk 24 true [Value.int .i64 0, Value.slice none 0 0])))) 0 none)) 0 0]) ?_
    refine WpOps.nil ?_
    exact WpRun.nil (View.of [0, 1, 2, 4, 3] [⟨24, true, [.int .i64 N, FS 48 0 0 #[]]⟩, ⟨24, true, [.int .i64 0, .slice none 0 0]⟩, ⟨48, true, [.int .i64 (if b < a then b else a), .int .i64 (if b > a then b else a), .int .i64 c]⟩, ⟨48, true, []⟩, ⟨24, true, [.int .i64 N, .slice (some ⟨3, 0, none⟩) (0) (0)]⟩] _ (by decide) rfl ⟨⟨_, by kernel_rfl, CellsOk.eq rfl (by kernel_rfl)⟩, ⟨_, by kernel_rfl, CellsOk.eq rfl (by kernel_rfl)⟩, ⟨_, by kernel_rfl, CellsOk.eq rfl (by kernel_rfl)⟩, ⟨_, by kernel_rfl, CellsOk.eq rfl (by kernel_rfl)⟩, ⟨[.int .i64 N, .slice (some ⟨4, 0, none⟩) (0) (0)], by kernel_rfl, by kernel_rfl, by kernel_rfl⟩, trivial⟩ ⟨⟨by kernel_rfl, rfl⟩, ⟨by kernel_rfl, rfl⟩, ⟨by kernel_rfl, rfl⟩, trivial⟩)
  · refine thenK_at (Wp.seq (Wp.seq (Wp.text ?_)))
    refine kp 56 (.pointer (some ⟨4, 1, none⟩)) ?_
    refine kp 57 (.slice (some ⟨3, 0, none⟩) 0 0) ?_
    refine kp 58 (.func (Fn.func 61) #[] #[Value.pointer (some ⟨2, 0, none⟩)]) ?_
    refine cl 59 60 [Value.slice (some ⟨3, 0, none⟩) 0 0, Value.func (Fn.func 61) #[] #[Value.pointer (some ⟨2, 0, none⟩)]] ?_
    refine WpCall.enterL c5 rfl ?_
    refine kp 12 (.int IntKind.i64 (-1)) ?_
    refine WpOps.nil (thenK_at (Wp.seq (Wp.text ?_)))
    refine kp 60 (.int IntKind.i64 (-1)) ?_
    refine kp 61 (.bool false) ?_
    refine WpOps.nil (thenK_at (off' (Wp.text ?_)))
    refine kp 67 (.pointer (some ⟨4, 1, none⟩)) ?_
    refine kp 68 (.slice (some ⟨3, 0, none⟩) 0 0) ?_
    refine kp 69 (.agg #[Value.int .i64 (if b < a then b else a), Value.int .i64 (if b > a then b else a), Value.int .i64 c]) ?_
    refine cg 70 (.slice (some ⟨5, 0, none⟩) 1 1) (Heap.alloc (heapOf [Blk.mk 24 true [Value.int .i64 N, Value.iface 48 (Value.iface 0 (Value.iface 0 (Value.agg #[])))], Blk.mk 24 true [Value.int .i64 0, Value.slice none 0 0], Blk.mk 48 true [Value.int .i64 (if b < a then b else a), Value.int .i64 (if b > a then b else a), Value.int .i64 c], Blk.mk 48 true [], Blk.mk 24 true [Value.int .i64 N, Value.slice (some ⟨3, 0, none⟩) 0 0]]) (Blk.mk 48 true [Value.int .i64 (if b < a then b else a), Value.int .i64 (if b > a then b else a), Value.int .i64 c])) ?_
    refine ra 71 (.slice (some ⟨6, 0, none⟩) 1 1) (3) (Blk.mk 48 true [Value.int .i64 (if b < a then b else a), Value.int .i64 (if b > a then b else a), Value.int .i64 c]) ?_
    refine kp 72 (.pointer (some ⟨4, 1, none⟩)) ?_
    refine ld (.tuple #[]) (4) (Blk.mk 24 true [Value.int .i64 N, Value.slice (some ⟨6, 0, none⟩) 1 1]) ?_
    refine WpOps.nil (thenK_at (Wp.seq (Wp.text ?_)))
    refine kp 73 (.agg #[Value.int .i64 N, Value.slice (some ⟨6, 0, none⟩) 1 1]) ?_
    refine ld (.tuple #[]) (1) (Blk.mk 24 true [Value.int .i64 N, Value.slice (some ⟨6, 0, none⟩) 1 1]) ?_
    refine kp 9 (.int IntKind.i64 0) ?_
    refine WpOps.nil (thenK_at (Wp.ret ?_))
    refine endK_retn [Value.agg #[Value.int IntKind.i64 N, Value.slice (some (Addr.mk 6 0 none)) 1 1], Value.int IntKind.i64 0] (Value.tuple #[Value.agg #[Value.int IntKind.i64 N, Value.slice (some (Addr.mk 6 0 none)) 1 1], Value.int IntKind.i64 0]) (by kernel_rfl) (by kernel_rfl) ?_
    exact net_ice (links_ice (ls := [((if b < a then b else a), (if b > a then b else a), c)]) (z := []) (by kernel_rfl)) rfl
set_option maxHeartbeats 4000000 in
theorem join36_nil (N : Int) (a b c : Int) (c1 : Fun E 25 [netV N 2 []] (.bool true)) (hb : okJoin true N a b c = true) : Fun E 36 [netV N 2 [], .int .i64 a, .int .i64 b, .int .i64 c] (.tuple #[netV N 0 ([(mn a b, mx a b, c)]), .int .i64 0]) := by
  refine Fun.of f36 rfl (of_decide_eq_true (by kernel_rfl)) rfl ?_
  have c2 := node53 N 2 [] a
  have c3 := node53 N 2 [] b
  obtain ⟨h0, h1, h3', h4, h5, h6⟩ := okJoin_parts hb
  rw [h1] at c2
  rw [h3'] at c3
  have d1 : decide (c < 1) = false := decide_eq_false (by omega)
  have d2 : decide (c ≥ 16) = false := decide_eq_false (by omega)
  clear hb h0 h1 h3' h5 h6
  have c4 : ∀ g, SCall E 59 [FS 48 0 2 #[]] g (.slice none 0 0) (g) := fun g => SCall.lend (h := g) (args := [FS 48 0 2 #[]]) [] clone59_nil List.nodup_nil trivial rfl
  have c5 : SCall E 60 [.slice none 0 0, .func (.func 61) #[] #[.pointer (some ⟨2, 0, none⟩)]] (heapOf [⟨24, true, [.int .i64 N, FS 48 0 2 #[]]⟩, ⟨24, true, [.int .i64 0, .slice none 0 0]⟩, ⟨48, true, [.int .i64 (if b < a then b else a), .int .i64 (if b > a then b else a), .int .i64 c]⟩, ⟨24, true, [.int .i64 N, .slice none 0 0]⟩]) (.int .i64 (-1)) (heapOf [⟨24, true, [.int .i64 N, FS 48 0 2 #[]]⟩, ⟨24, true, [.int .i64 0, .slice none 0 0]⟩, ⟨48, true, [.int .i64 (if b < a then b else a), .int .i64 (if b > a then b else a), .int .i64 c]⟩, ⟨24, true, [.int .i64 N, .slice none 0 0]⟩]) := SCall.closed 60 (by kernel_rfl)
  rw [show netV N 2 [] = .agg #[.int .i64 N, FS 48 0 2 #[]] from rfl] at *
  unfold mn mx at *
  refine Wp.seq (Wp.text ?_)
  refine md 4 (.pointer (some ⟨0, 0, none⟩)) (Blk.mk 24 true [Value.int .i64 N, Value.iface 48 (Value.iface 0 (Value.iface 2 (Value.agg #[])))]) ?_
  refine md 8 (.pointer (some ⟨1, 0, none⟩)) (Blk.mk 24 true [Value.int .i64 0, Value.slice none 0 0]) ?_
  refine kp 9 (.int IntKind.i64 0) ?_
  refine WpOps.nil (thenK_at (Wp.seq (Wp.seq (Wp.text ?_))))
  refine kp 13 (.agg #[Value.int .i64 N, Value.iface 48 (Value.iface 0 (Value.iface 2 (Value.agg #[])))]) ?_
  refine fr 14 25 [Value.agg #[Value.int .i64 N, Value.iface 48 (Value.iface 0 (Value.iface 2 (Value.agg #[])))]] ?_
  refine WpFun.of (c1) ?_
  refine kp 15 (.bool false) ?_
  refine kp 16 (.bool false) ?_
  refine kp 17 (.agg #[Value.int .i64 N, Value.iface 48 (Value.iface 0 (Value.iface 2 (Value.agg #[])))]) ?_
  refine kp 18 (.int IntKind.i64 a) ?_
  refine fr 19 53 [Value.agg #[Value.int .i64 N, Value.iface 48 (Value.iface 0 (Value.iface 2 (Value.agg #[])))], Value.int .i64 a] ?_
  refine WpFun.of (c2) ?_
  refine kp 20 (.bool false) ?_
  refine kp 21 (.bool false) ?_
  refine kp 22 (.bool false) ?_
  refine kp 23 (.agg #[Value.int .i64 N, Value.iface 48 (Value.iface 0 (Value.iface 2 (Value.agg #[])))]) ?_
  refine kp 24 (.int IntKind.i64 b) ?_
  refine fr 25 53 [Value.agg #[Value.int .i64 N, Value.iface 48 (Value.iface 0 (Value.iface 2 (Value.agg #[])))], Value.int .i64 b] ?_
  refine WpFun.of (c3) ?_
  refine kp 26 (.bool false) ?_
  refine kp 27 (.bool false) ?_
  refine kp 28 (.bool false) ?_
  refine kp 29 (.int IntKind.i64 a) ?_
  refine kp 30 (.int IntKind.i64 b) ?_
  refine kp 31 (.bool false) ?_ (hop := fun _ => by_fact h4)
  refine kp 32 (.bool false) ?_
  refine kp 33 (.bool false) ?_
  refine kp 34 (.int IntKind.i64 c) ?_
  refine kp 35 (.bool false) ?_ (hop := fun _ => by_fact d1)
  refine kp 36 (.bool false) ?_
  refine kp 37 (.bool false) ?_
  refine kp 38 (.int IntKind.i64 c) ?_
  refine kp 39 (.bool false) ?_ (hop := fun _ => by_fact d2)
  refine kp 40 (.bool false) ?_
  refine WpOps.nil (thenK_at (off' (Wp.skip (thenK_at (Wp.seq (Wp.text ?_))))))
  refine kp 42 (.int IntKind.i64 a) ?_
  refine kp 43 (.int IntKind.i64 b) ?_
  refine kp 44 (.int IntKind.i64 (if b < a then b else a)) ?_
  refine kp 45 (.int IntKind.i64 a) ?_
  refine kp 46 (.int IntKind.i64 b) ?_
  refine kp 47 (.int IntKind.i64 (if b > a then b else a)) ?_
  refine kp 48 (.int IntKind.i64 c) ?_
  refine kp 49 (.agg #[Value.int .i64 (if b < a then b else a), Value.int .i64 (if b > a then b else a), Value.int .i64 c]) ?_
  refine md 10 (.pointer (some ⟨2, 0, none⟩)) (Blk.mk 48 true [Value.int .i64 0, Value.int .i64 0, Value.int .i64 0]) ?_
  refine ld (.tuple #[]) (2) (Blk.mk 48 true [Value.int .i64 (if b < a then b else a), Value.int .i64 (if b > a then b else a), Value.int .i64 c]) ?_
  refine WpOps.nil (thenK_at (Wp.seq ?_))
  refine Wp.regionG (fun _ => many 59 [FS 48 0 2 #[]] (fun g => .slice none 0 0) (fun g => g)) (fun ok _ => many_sim ok c4) [[0, 1, 2, 3, 4, 6, 5, 7], [0, 1, 2, 3, 6, 4, 5, 7]] (by kernel_rfl)
    [(8, .pointer (some ⟨1, 0, none⟩)), (10, .pointer (some ⟨2, 0, none⟩)), (11, .pointer (some ⟨3, 0, none⟩))] [⟨24, true, [.int .i64 N, FS 48 0 2 #[]]⟩, ⟨24, true, [.int .i64 0, .slice none 0 0]⟩, ⟨48, true, [.int .i64 (if b < a then b else a), .int .i64 (if b > a then b else a), .int .i64 c]⟩, ⟨24, true, [.int .i64 N, .slice none 0 0]⟩] (allC ?_ (all1 ?_)) ?_
  · refine WpRun.ops [0, 1, 2, 3] [4, 6, 5, 7] (by kernel_rfl) ?_
    refine kp 50 (.pointer (some ⟨0, 0, none⟩)) ?_
    refine kp 51 (.int IntKind.i64 N) ?_
    refine kp 52 (.pointer (some ⟨0, 1, none⟩)) ?_
    refine kp 53 (.iface 48 (Value.iface 0 (Value.iface 2 (Value.agg #[])))) ?_
    refine WpOps.nil ?_
    refine WpRun.callro 4 [6, 5, 7] 54 59 [FS 48 0 2 #[]] rfl (by kernel_rfl) (by kernel_rfl) (by kernel_rfl) (by kernel_rfl) (fun cf => by kernel_rfl) (many_at _ _ _ _ _) ?_
    refine WpRun.ops [6, 5, 7] [] (by kernel_rfl) ?_
    refine md 11 (.pointer (some ⟨3, 0, none⟩)) (Blk.mk 24 true [Value.int .i64 0, Value.slice none 0 0]) ?_
    refine kp 55 (.agg #[Value.int .i64 N, Value.slice none 0 0]) ?_
    refine ld (.tuple #[]) (3) (Blk.mk 24 true [Value.int .i64 N, Value.slice none 0 0]) ?_
    refine WpOps.nil ?_
    exact WpRun.nil (View.of [0, 1, 2, 3] [⟨24, true, [.int .i64 N, FS 48 0 2 #[]]⟩, ⟨24, true, [.int .i64 0, .slice none 0 0]⟩, ⟨48, true, [.int .i64 (if b < a then b else a), .int .i64 (if b > a then b else a), .int .i64 c]⟩, ⟨24, true, [.int .i64 N, .slice none 0 0]⟩] _ (by decide) rfl ⟨⟨_, by kernel_rfl, CellsOk.eq rfl (by kernel_rfl)⟩, ⟨_, by kernel_rfl, CellsOk.eq rfl (by kernel_rfl)⟩, ⟨_, by kernel_rfl, CellsOk.eq rfl (by kernel_rfl)⟩, ⟨[.int .i64 N, .slice none 0 0], by kernel_rfl, by kernel_rfl, by kernel_rfl⟩, trivial⟩ ⟨⟨by kernel_rfl, rfl⟩, ⟨by kernel_rfl, rfl⟩, ⟨by kernel_rfl, rfl⟩, trivial⟩)
  · refine WpRun.ops [0, 1, 2, 3, 6] [4, 5, 7] (by kernel_rfl) ?_
    refine kp 50 (.pointer (some ⟨0, 0, none⟩)) ?_
    refine kp 51 (.int IntKind.i64 N) ?_
    refine kp 52 (.pointer (some ⟨0, 1, none⟩)) ?_
    refine kp 53 (.iface 48 (Value.iface 0 (Value.iface 2 (Value.agg #[])))) ?_
    refine md 11 (.pointer (some ⟨3, 0, none⟩)) (Blk.mk 24 true [Value.int .i64 0, Value.slice none 0 0]) ?_
    refine WpOps.nil ?_
    refine WpRun.callro 4 [5, 7] 54 59 [FS 48 0 2 #[]] rfl (by kernel_rfl) (by kernel_rfl) (by kernel_rfl) (by kernel_rfl) (fun cf => by kernel_rfl) (many_at _ _ _ _ _) ?_
    refine WpRun.ops [5, 7] [] (by kernel_rfl) ?_
    refine kp 55 (.agg #[Value.int .i64 N, Value.slice none 0 0]) ?_
    refine ld (.tuple #[]) (3) (Blk.mk 24 true [Value.int .i64 N, Value.slice none 0 0]) ?_
    refine WpOps.nil ?_
    exact WpRun.nil (View.of [0, 1, 2, 3] [⟨24, true, [.int .i64 N, FS 48 0 2 #[]]⟩, ⟨24, true, [.int .i64 0, .slice none 0 0]⟩, ⟨48, true, [.int .i64 (if b < a then b else a), .int .i64 (if b > a then b else a), .int .i64 c]⟩, ⟨24, true, [.int .i64 N, .slice none 0 0]⟩] _ (by decide) rfl ⟨⟨_, by kernel_rfl, CellsOk.eq rfl (by kernel_rfl)⟩, ⟨_, by kernel_rfl, CellsOk.eq rfl (by kernel_rfl)⟩, ⟨_, by kernel_rfl, CellsOk.eq rfl (by kernel_rfl)⟩, ⟨[.int .i64 N, .slice none 0 0], by kernel_rfl, by kernel_rfl, by kernel_rfl⟩, trivial⟩ ⟨⟨by kernel_rfl, rfl⟩, ⟨by kernel_rfl, rfl⟩, ⟨by kernel_rfl, rfl⟩, trivial⟩)
  · refine thenK_at (Wp.seq (Wp.seq (Wp.text ?_)))
    refine kp 56 (.pointer (some ⟨3, 1, none⟩)) ?_
    refine kp 57 (.slice none 0 0) ?_
    refine kp 58 (.func (Fn.func 61) #[] #[Value.pointer (some ⟨2, 0, none⟩)]) ?_
    refine cl 59 60 [Value.slice none 0 0, Value.func (Fn.func 61) #[] #[Value.pointer (some ⟨2, 0, none⟩)]] ?_
    refine WpCall.enterL c5 rfl ?_
    refine kp 12 (.int IntKind.i64 (-1)) ?_
    refine WpOps.nil (thenK_at (Wp.seq (Wp.text ?_)))
    refine kp 60 (.int IntKind.i64 (-1)) ?_
    refine kp 61 (.bool false) ?_
    refine WpOps.nil (thenK_at (off' (Wp.text ?_)))
    refine kp 67 (.pointer (some ⟨3, 1, none⟩)) ?_
    refine kp 68 (.slice none 0 0) ?_
    refine kp 69 (.agg #[Value.int .i64 (if b < a then b else a), Value.int .i64 (if b > a then b else a), Value.int .i64 c]) ?_
    refine cg 70 (.slice (some ⟨4, 0, none⟩) 1 1) (Heap.alloc (heapOf [Blk.mk 24 true [Value.int .i64 N, Value.iface 48 (Value.iface 0 (Value.iface 2 (Value.agg #[])))], Blk.mk 24 true [Value.int .i64 0, Value.slice none 0 0], Blk.mk 48 true [Value.int .i64 (if b < a then b else a), Value.int .i64 (if b > a then b else a), Value.int .i64 c], Blk.mk 24 true [Value.int .i64 N, Value.slice none 0 0]]) (Blk.mk 48 true [Value.int .i64 (if b < a then b else a), Value.int .i64 (if b > a then b else a), Value.int .i64 c])) ?_
    refine md 71 (.slice (some ⟨5, 0, none⟩) 1 1) (Blk.mk 48 true [Value.int .i64 (if b < a then b else a), Value.int .i64 (if b > a then b else a), Value.int .i64 c]) ?_
    refine kp 72 (.pointer (some ⟨3, 1, none⟩)) ?_
    refine ld (.tuple #[]) (3) (Blk.mk 24 true [Value.int .i64 N, Value.slice (some ⟨5, 0, none⟩) 1 1]) ?_
    refine WpOps.nil (thenK_at (Wp.seq (Wp.text ?_)))
    refine kp 73 (.agg #[Value.int .i64 N, Value.slice (some ⟨5, 0, none⟩) 1 1]) ?_
    refine ld (.tuple #[]) (1) (Blk.mk 24 true [Value.int .i64 N, Value.slice (some ⟨5, 0, none⟩) 1 1]) ?_
    refine kp 9 (.int IntKind.i64 0) ?_
    refine WpOps.nil (thenK_at (Wp.ret ?_))
    refine endK_retn [Value.agg #[Value.int IntKind.i64 N, Value.slice (some (Addr.mk 5 0 none)) 1 1], Value.int IntKind.i64 0] (Value.tuple #[Value.agg #[Value.int IntKind.i64 N, Value.slice (some (Addr.mk 5 0 none)) 1 1], Value.int IntKind.i64 0]) (by kernel_rfl) (by kernel_rfl) ?_
    exact net_ice (links_ice (ls := [((if b < a then b else a), (if b > a then b else a), c)]) (z := []) (by kernel_rfl)) rfl
theorem okJoin_nest (v x y z s t : Bool) : (bif (bif (bif (bif (bif !v then true else !x) then true else !y) then true else z) then true else !s) then true else !t) = !(v && x && y && !z && s && t) := by
  cases v <;> cases x <;> cases y <;> cases z <;> cases s <;> cases t <;> rfl
theorem join36_bad (N : Int) (x : Nat) (ls : List Lk) (a b c : Int) (ok : Bool) (c1 : Fun E 25 [netV N x ls] (.bool ok)) (hb : okJoin ok N a b c = false) : Fun E 36 [netV N x ls, .int .i64 a, .int .i64 b, .int .i64 c] (.tuple #[netV 0 2 [], .int .i64 1]) := by
  refine Fun.ofN f36 rfl (of_decide_eq_true (by kernel_rfl)) (by kernel_rfl) ?_
  have c2 := node53 N x ls a
  have c3 := node53 N x ls b
  have hab : ∃ z, (a == b) = z := ⟨_, rfl⟩
  obtain ⟨z, hz⟩ := hab
  unfold netV lks at c1 c2 c3
  unfold okJoin at hb
  rw [hz] at hb
  generalize nodeB N a = p at c2 hb
  generalize nodeB N b = q at c3 hb
  unfold netV lks
  refine Wp.seq (Wp.text ?_)
  refine md 4 (.pointer (some ⟨0, 0, none⟩)) (Blk.mk 24 true [Value.int .i64 N, Value.iface 48 (Value.iface (List.length ls) (Value.iface x (Value.agg (List.toArray (lcs ls)))))]) ?_
  refine md 8 (.pointer (some ⟨1, 0, none⟩)) (Blk.mk 24 true [Value.int .i64 0, Value.slice none 0 0]) ?_
  refine kp 9 (.int IntKind.i64 0) ?_
  refine WpOps.nil (thenK_at (Wp.seq (Wp.seq (Wp.text ?_))))
  refine kp 13 (.agg #[Value.int .i64 N, Value.iface 48 (Value.iface (List.length ls) (Value.iface x (Value.agg (List.toArray (lcs ls)))))]) ?_
  refine fr 14 25 [Value.agg #[Value.int .i64 N, Value.iface 48 (Value.iface (List.length ls) (Value.iface x (Value.agg (List.toArray (lcs ls)))))]] ?_
  refine WpFun.of (c1) ?_
  refine kp 15 (.bool !ok) ?_
  refine kp 16 (.bool !ok) ?_
  refine WpOps.fork 5 (!ok) [17, 18, 19, 20, 21] 21 (true) (!p) (by kernel_rfl) (fun g21 => ?_) (fun g21 => ?_) (fun f_21 b21 hb21 => ?_)
  · refine um 17 ?_ (hw := wants_tf g21)
    refine um 18 ?_ (hw := wants_tf g21)
    refine um 19 ?_ (hw := wants_tf g21)
    refine um 20 ?_ (hw := wants_tf g21)
    refine kp 21 (.bool true) ?_ (hop := fun _ => o_pickT g21)
    refine WpOps.nil ?_
    exact ⟨rfl, (.upd rfl (.upd rfl (.upd rfl (.upd rfl (.upd rfl .refl))))), (by kernel_rfl)⟩
  · refine kp 17 (.agg #[Value.int .i64 N, Value.iface 48 (Value.iface (List.length ls) (Value.iface x (Value.agg (List.toArray (lcs ls)))))]) ?_ (hw := wants_ff g21)
    refine kp 18 (.int IntKind.i64 a) ?_ (hw := wants_ff g21)
    refine fr 19 53 [Value.agg #[Value.int .i64 N, Value.iface 48 (Value.iface (List.length ls) (Value.iface x (Value.agg (List.toArray (lcs ls)))))], Value.int .i64 a] ?_ (hw := wants_ff g21)
    refine WpFun.of (c2) ?_
    refine kp 20 (.bool !p) ?_ (hw := wants_ff g21)
    refine kp 21 (.bool !p) ?_ (hop := fun _ => o_pickF g21)
    refine WpOps.nil ?_
    exact ⟨rfl, (.upd rfl (.upd rfl (.upd rfl (.upd rfl (.upd rfl .refl))))), (by kernel_rfl)⟩
  refine kp 22 (.bool b21) ?_
  refine WpOps.fork 5 (b21) [23, 24, 25, 26, 27] 27 (true) (!q) (by kernel_rfl) (fun g27 => ?_) (fun g27 => ?_) (fun f_27 b27 hb27 => ?_)
  · refine um 23 ?_ (hw := wants_tf g27)
    refine um 24 ?_ (hw := wants_tf g27)
    refine um 25 ?_ (hw := wants_tf g27)
    refine um 26 ?_ (hw := wants_tf g27)
    refine kp 27 (.bool true) ?_ (hop := fun _ => o_pickT g27)
    refine WpOps.nil ?_
    exact ⟨rfl, (.upd rfl (.upd rfl (.upd rfl (.upd rfl (.upd rfl .refl))))), (by kernel_rfl)⟩
  · refine kp 23 (.agg #[Value.int .i64 N, Value.iface 48 (Value.iface (List.length ls) (Value.iface x (Value.agg (List.toArray (lcs ls)))))]) ?_ (hw := wants_ff g27)
    refine kp 24 (.int IntKind.i64 b) ?_ (hw := wants_ff g27)
    refine fr 25 53 [Value.agg #[Value.int .i64 N, Value.iface 48 (Value.iface (List.length ls) (Value.iface x (Value.agg (List.toArray (lcs ls)))))], Value.int .i64 b] ?_ (hw := wants_ff g27)
    refine WpFun.of (c3) ?_
    refine kp 26 (.bool !q) ?_ (hw := wants_ff g27)
    refine kp 27 (.bool !q) ?_ (hop := fun _ => o_pickF g27)
    refine WpOps.nil ?_
    exact ⟨rfl, (.upd rfl (.upd rfl (.upd rfl (.upd rfl (.upd rfl .refl))))), (by kernel_rfl)⟩
  refine kp 28 (.bool b27) ?_
  refine WpOps.fork 4 (b27) [29, 30, 31, 32] 32 (true) (a == b) (by kernel_rfl) (fun g32 => ?_) (fun g32 => ?_) (fun f_32 b32 hb32 => ?_)
  · refine um 29 ?_ (hw := wants_tf g32)
    refine um 30 ?_ (hw := wants_tf g32)
    refine um 31 ?_ (hw := wants_tf g32)
    refine kp 32 (.bool true) ?_ (hop := fun _ => o_pickT g32)
    refine WpOps.nil ?_
    exact ⟨rfl, (.upd rfl (.upd rfl (.upd rfl (.upd rfl .refl)))), (by kernel_rfl)⟩
  · refine kp 29 (.int IntKind.i64 a) ?_ (hw := wants_ff g32)
    refine kp 30 (.int IntKind.i64 b) ?_ (hw := wants_ff g32)
    refine kp 31 (.bool (a == b)) ?_ (hw := wants_ff g32)
    refine kp 32 (.bool (a == b)) ?_ (hop := fun _ => o_pickF g32)
    refine WpOps.nil ?_
    exact ⟨rfl, (.upd rfl (.upd rfl (.upd rfl (.upd rfl .refl)))), (by kernel_rfl)⟩
  refine kp 33 (.bool b32) ?_
  refine WpOps.fork 3 (b32) [34, 35, 36] 36 (true) (decide (c < 1)) (by kernel_rfl) (fun g36 => ?_) (fun g36 => ?_) (fun f_36 b36 hb36 => ?_)
  · refine um 34 ?_ (hw := wants_tf g36)
    refine um 35 ?_ (hw := wants_tf g36)
    refine kp 36 (.bool true) ?_ (hop := fun _ => o_pickT g36)
    refine WpOps.nil ?_
    exact ⟨rfl, (.upd rfl (.upd rfl (.upd rfl .refl))), (by kernel_rfl)⟩
  · refine kp 34 (.int IntKind.i64 c) ?_ (hw := wants_ff g36)
    refine kp 35 (.bool (decide (c < 1))) ?_ (hw := wants_ff g36)
    refine kp 36 (.bool (decide (c < 1))) ?_ (hop := fun _ => o_pickF g36)
    refine WpOps.nil ?_
    exact ⟨rfl, (.upd rfl (.upd rfl (.upd rfl .refl))), (by kernel_rfl)⟩
  refine kp 37 (.bool b36) ?_
  refine WpOps.fork 3 (b36) [38, 39, 40] 40 (true) (decide (c ≥ 16)) (by kernel_rfl) (fun g40 => ?_) (fun g40 => ?_) (fun f_40 b40 hb40 => ?_)
  · refine um 38 ?_ (hw := wants_tf g40)
    refine um 39 ?_ (hw := wants_tf g40)
    refine kp 40 (.bool true) ?_ (hop := fun _ => o_pickT g40)
    refine WpOps.nil ?_
    exact ⟨rfl, (.upd rfl (.upd rfl (.upd rfl .refl))), (by kernel_rfl)⟩
  · refine kp 38 (.int IntKind.i64 c) ?_ (hw := wants_ff g40)
    refine kp 39 (.bool (decide (c ≥ 16))) ?_ (hw := wants_ff g40)
    refine kp 40 (.bool (decide (c ≥ 16))) ?_ (hop := fun _ => o_pickF g40)
    refine WpOps.nil ?_
    exact ⟨rfl, (.upd rfl (.upd rfl (.upd rfl .refl))), (by kernel_rfl)⟩
  refine WpOps.nil (thenK_at ?_)
  have e1 : decide (c < 1) = !decide (1 ≤ c) := by rw [← decide_not]; exact decide_eq_decide.2 (by omega)
  have e2 : decide (c ≥ 16) = !decide (c ≤ 15) := by rw [← decide_not]; exact decide_eq_decide.2 (by omega)
  obtain rfl : b40 = true := by
    rw [hb40, hb36, hb32, hb27, hb21, hz, e1, e2, okJoin_nest, hb]
    rfl
  refine on' (Wp.seq (Wp.text ?_))
  refine kp 41 (.agg #[Value.int .i64 0, Value.slice none 0 0]) ?_
  refine ld (.tuple #[]) (1) (Blk.mk 24 true [Value.int .i64 0, Value.slice none 0 0]) ?_
  refine kp 9 (.int IntKind.i64 1) ?_
  refine WpOps.nil (thenK_at (Wp.ret (thenK_ret ?_)))
  refine endK_retn [Value.agg #[Value.int IntKind.i64 0, Value.slice none 0 0], Value.int IntKind.i64 1] (Value.tuple #[Value.agg #[Value.int IntKind.i64 0, Value.slice none 0 0], Value.int IntKind.i64 1]) (by kernel_rfl) (by kernel_rfl) ?_
  obtain ⟨ti, ht⟩ := E48
  exact ⟨_, by kernel_rfl, .tuple (.cons (.agg (.cons (.inl rfl) (.cons (.inr ⟨rfl, 48, ti, ht, rfl⟩) .nil))) (.cons (.c (.inl rfl)) .nil))⟩
/-- The net with a link more, or a link's cost anew. -/
def joinL (a b c : Int) (ls : List Lk) : List Lk := match ls.findIdx? (hit a b) with
  | some k => ls.set k (mn a b, mx a b, c)
  | none => ls ++ [(mn a b, mx a b, c)]
theorem getD_lt {ls : List Lk} {j : Nat} (h : j < ls.length) : ls.getD j (0, 0, 0) = ls[j] := by rw [List.getD_eq_getElem?_getD, List.getElem?_eq_getElem h]; rfl
/-- Join, of the program. -/
theorem join36 (N : Int) (x : Nat) (ls : List Lk) (a b c : Int) (hx : x = 0 ∨ (x = 2 ∧ ls = [])) (hn : ls.length * 24 ≤ 140737488351232) (c1 : Fun E 25 [netV N x ls] (.bool true)) (hb : okJoin true N a b c = true) : Fun E 36 [netV N x ls, .int .i64 a, .int .i64 b, .int .i64 c] (.tuple #[netV N 0 (joinL a b c ls), .int .i64 0]) := by
  unfold joinL
  cases e : ls.findIdx? (hit a b) with
  | none =>
    have h2 : ∀ j, j < ls.length → hit a b (ls.getD j (0, 0, 0)) = false := fun j hj => by
      rw [getD_lt hj]
      exact List.findIdx?_eq_none_iff.1 e _ (List.getElem_mem hj)
    rcases Nat.eq_zero_or_pos ls.length with h0 | h0
    · obtain rfl := List.eq_nil_of_length_eq_zero h0
      rcases hx with rfl | ⟨rfl, _⟩
      · exact join36_empty N a b c c1 hb
      · exact join36_nil N a b c c1 hb
    · rcases hx with rfl | ⟨rfl, rfl⟩
      · exact join36_no N ls a b c hn h0 h2 c1 hb
      · cases h0
  | some k =>
    obtain ⟨hk, hp, hq⟩ := List.findIdx?_eq_some_iff_getElem.1 e
    rcases hx with rfl | ⟨rfl, rfl⟩
    · refine join36_hit N ls a b c k hn hk (fun j hj => ?_) (by rw [getD_lt hk]; exact hp) c1 hb
      rw [getD_lt (by omega)]
      have := hq j hj
      simpa using this
    · cases hk
open Go.Fw Go.RowKit

theorem f34 : E.funcs 34 = some Try.f34 := by kernel_rfl
theorem cut34_bad (N : Int) (x : Nat) (ls : List Lk) (a b : Int) (ok : Bool) (c1 : Fun E 26 [netV N x ls] (.bool ok)) (hb : okCut ok N a b = false) : Fun E 34 [netV N x ls, .int .i64 a, .int .i64 b] (.tuple #[netV 0 2 [], .int .i64 1]) := by
  refine Fun.ofN f34 rfl (of_decide_eq_true (by kernel_rfl)) (by kernel_rfl) ?_
  have c2 := node55 N x ls a
  have c3 := node55 N x ls b
  have hab : ∃ z, (a == b) = z := ⟨_, rfl⟩
  obtain ⟨z, hz⟩ := hab
  unfold netV lks at c1 c2 c3
  unfold okCut at hb
  rw [hz] at hb
  generalize nodeB N a = p at c2 hb
  generalize nodeB N b = q at c3 hb
  unfold netV lks
  refine Wp.seq (Wp.text ?_)
  refine md 3 (.pointer (some ⟨0, 0, none⟩)) (Blk.mk 34 true [Value.int .i64 N, Value.iface 48 (Value.iface (List.length ls) (Value.iface x (Value.agg (List.toArray (lcs ls)))))]) ?_
  refine md 6 (.pointer (some ⟨1, 0, none⟩)) (Blk.mk 34 true [Value.int .i64 0, Value.slice none 0 0]) ?_
  refine kp 7 (.int IntKind.i64 0) ?_
  refine WpOps.nil (thenK_at (Wp.seq (Wp.seq (Wp.text ?_))))
  refine kp 8 (.agg #[Value.int .i64 N, Value.iface 48 (Value.iface (List.length ls) (Value.iface x (Value.agg (List.toArray (lcs ls)))))]) ?_
  refine fr 9 26 [Value.agg #[Value.int .i64 N, Value.iface 48 (Value.iface (List.length ls) (Value.iface x (Value.agg (List.toArray (lcs ls)))))]] ?_
  refine WpFun.of (c1) ?_
  refine kp 10 (.bool !ok) ?_
  refine kp 11 (.bool !ok) ?_
  refine WpOps.fork 5 (!ok) [12, 13, 14, 15, 16] 16 (true) (!p) (by kernel_rfl) (fun g16 => ?_) (fun g16 => ?_) (fun f_16 b16 hb16 => ?_)
  · refine um 12 ?_ (hw := wants_tf g16)
    refine um 13 ?_ (hw := wants_tf g16)
    refine um 14 ?_ (hw := wants_tf g16)
    refine um 15 ?_ (hw := wants_tf g16)
    refine kp 16 (.bool true) ?_ (hop := fun _ => o_pickT g16)
    refine WpOps.nil ?_
    exact ⟨rfl, (.upd rfl (.upd rfl (.upd rfl (.upd rfl (.upd rfl .refl))))), (by kernel_rfl)⟩
  · refine kp 12 (.agg #[Value.int .i64 N, Value.iface 48 (Value.iface (List.length ls) (Value.iface x (Value.agg (List.toArray (lcs ls)))))]) ?_ (hw := wants_ff g16)
    refine kp 13 (.int IntKind.i64 a) ?_ (hw := wants_ff g16)
    refine fr 14 55 [Value.agg #[Value.int .i64 N, Value.iface 48 (Value.iface (List.length ls) (Value.iface x (Value.agg (List.toArray (lcs ls)))))], Value.int .i64 a] ?_ (hw := wants_ff g16)
    refine WpFun.of (c2) ?_
    refine kp 15 (.bool !p) ?_ (hw := wants_ff g16)
    refine kp 16 (.bool !p) ?_ (hop := fun _ => o_pickF g16)
    refine WpOps.nil ?_
    exact ⟨rfl, (.upd rfl (.upd rfl (.upd rfl (.upd rfl (.upd rfl .refl))))), (by kernel_rfl)⟩
  refine kp 17 (.bool b16) ?_
  refine WpOps.fork 5 (b16) [18, 19, 20, 21, 22] 22 (true) (!q) (by kernel_rfl) (fun g22 => ?_) (fun g22 => ?_) (fun f_22 b22 hb22 => ?_)
  · refine um 18 ?_ (hw := wants_tf g22)
    refine um 19 ?_ (hw := wants_tf g22)
    refine um 20 ?_ (hw := wants_tf g22)
    refine um 21 ?_ (hw := wants_tf g22)
    refine kp 22 (.bool true) ?_ (hop := fun _ => o_pickT g22)
    refine WpOps.nil ?_
    exact ⟨rfl, (.upd rfl (.upd rfl (.upd rfl (.upd rfl (.upd rfl .refl))))), (by kernel_rfl)⟩
  · refine kp 18 (.agg #[Value.int .i64 N, Value.iface 48 (Value.iface (List.length ls) (Value.iface x (Value.agg (List.toArray (lcs ls)))))]) ?_ (hw := wants_ff g22)
    refine kp 19 (.int IntKind.i64 b) ?_ (hw := wants_ff g22)
    refine fr 20 55 [Value.agg #[Value.int .i64 N, Value.iface 48 (Value.iface (List.length ls) (Value.iface x (Value.agg (List.toArray (lcs ls)))))], Value.int .i64 b] ?_ (hw := wants_ff g22)
    refine WpFun.of (c3) ?_
    refine kp 21 (.bool !q) ?_ (hw := wants_ff g22)
    refine kp 22 (.bool !q) ?_ (hop := fun _ => o_pickF g22)
    refine WpOps.nil ?_
    exact ⟨rfl, (.upd rfl (.upd rfl (.upd rfl (.upd rfl (.upd rfl .refl))))), (by kernel_rfl)⟩
  refine kp 23 (.bool b22) ?_
  refine WpOps.fork 4 (b22) [24, 25, 26, 27] 27 (true) (a == b) (by kernel_rfl) (fun g27 => ?_) (fun g27 => ?_) (fun f_27 b27 hb27 => ?_)
  · refine um 24 ?_ (hw := wants_tf g27)
    refine um 25 ?_ (hw := wants_tf g27)
    refine um 26 ?_ (hw := wants_tf g27)
    refine kp 27 (.bool true) ?_ (hop := fun _ => o_pickT g27)
    refine WpOps.nil ?_
    exact ⟨rfl, (.upd rfl (.upd rfl (.upd rfl (.upd rfl .refl)))), (by kernel_rfl)⟩
  · refine kp 24 (.int IntKind.i64 a) ?_ (hw := wants_ff g27)
    refine kp 25 (.int IntKind.i64 b) ?_ (hw := wants_ff g27)
    refine kp 26 (.bool (a == b)) ?_ (hw := wants_ff g27)
    refine kp 27 (.bool (a == b)) ?_ (hop := fun _ => o_pickF g27)
    refine WpOps.nil ?_
    exact ⟨rfl, (.upd rfl (.upd rfl (.upd rfl (.upd rfl .refl)))), (by kernel_rfl)⟩
  refine WpOps.nil (thenK_at ?_)
  obtain rfl : b27 = true := by
    rw [hb27, hb22, hb16, hz, okCut_nest, hb]
    rfl
  refine on' (Wp.seq (Wp.text ?_))
  refine kp 28 (.agg #[Value.int .i64 0, Value.slice none 0 0]) ?_
  refine ld (.tuple #[]) (1) (Blk.mk 34 true [Value.int .i64 0, Value.slice none 0 0]) ?_
  refine kp 7 (.int IntKind.i64 1) ?_
  refine WpOps.nil (thenK_at (Wp.ret (thenK_ret ?_)))
  refine endK_retn [Value.agg #[Value.int IntKind.i64 0, Value.slice none 0 0], Value.int IntKind.i64 1] (Value.tuple #[Value.agg #[Value.int IntKind.i64 0, Value.slice none 0 0], Value.int IntKind.i64 1]) (by kernel_rfl) (by kernel_rfl) ?_
  obtain ⟨ti, ht⟩ := E48
  exact ⟨_, by kernel_rfl, .tuple (.cons (.agg (.cons (.inl rfl) (.cons (.inr ⟨rfl, 48, ti, ht, rfl⟩) .nil))) (.cons (.c (.inl rfl)) .nil))⟩
theorem cut34_none (N : Int) (x : Nat) (ls : List Lk) (a b : Int) (c1 : Fun E 26 [netV N x ls] (.bool true)) (hb : okCut true N a b = true) (hn : ls.length ≤ 17592186044416) (hc : costF ls a b = 0) : Fun E 34 [netV N x ls, .int .i64 a, .int .i64 b] (.tuple #[netV 0 2 [], .int .i64 3]) := by
  refine Fun.ofN f34 rfl (of_decide_eq_true (by kernel_rfl)) (by kernel_rfl) ?_
  have c2 := node55 N x ls a
  have c3 := node55 N x ls b
  have c4 := cost52 N x ls a b hn
  rw [hc] at c4
  obtain ⟨h0, h1, h2, h3⟩ := okCut_parts hb
  rw [h1] at c2
  rw [h2] at c3
  clear hb h0 h1 h2
  unfold netV lks at *
  refine Wp.seq (Wp.text ?_)
  refine md 3 (.pointer (some ⟨0, 0, none⟩)) (Blk.mk 34 true [Value.int .i64 N, Value.iface 48 (Value.iface (List.length ls) (Value.iface x (Value.agg (List.toArray (lcs ls)))))]) ?_
  refine md 6 (.pointer (some ⟨1, 0, none⟩)) (Blk.mk 34 true [Value.int .i64 0, Value.slice none 0 0]) ?_
  refine kp 7 (.int IntKind.i64 0) ?_
  refine WpOps.nil (thenK_at (Wp.seq (Wp.seq (Wp.text ?_))))
  refine kp 8 (.agg #[Value.int .i64 N, Value.iface 48 (Value.iface (List.length ls) (Value.iface x (Value.agg (List.toArray (lcs ls)))))]) ?_
  refine fr 9 26 [Value.agg #[Value.int .i64 N, Value.iface 48 (Value.iface (List.length ls) (Value.iface x (Value.agg (List.toArray (lcs ls)))))]] ?_
  refine WpFun.of (c1) ?_
  refine kp 10 (.bool false) ?_
  refine kp 11 (.bool false) ?_
  refine kp 12 (.agg #[Value.int .i64 N, Value.iface 48 (Value.iface (List.length ls) (Value.iface x (Value.agg (List.toArray (lcs ls)))))]) ?_
  refine kp 13 (.int IntKind.i64 a) ?_
  refine fr 14 55 [Value.agg #[Value.int .i64 N, Value.iface 48 (Value.iface (List.length ls) (Value.iface x (Value.agg (List.toArray (lcs ls)))))], Value.int .i64 a] ?_
  refine WpFun.of (c2) ?_
  refine kp 15 (.bool false) ?_
  refine kp 16 (.bool false) ?_
  refine kp 17 (.bool false) ?_
  refine kp 18 (.agg #[Value.int .i64 N, Value.iface 48 (Value.iface (List.length ls) (Value.iface x (Value.agg (List.toArray (lcs ls)))))]) ?_
  refine kp 19 (.int IntKind.i64 b) ?_
  refine fr 20 55 [Value.agg #[Value.int .i64 N, Value.iface 48 (Value.iface (List.length ls) (Value.iface x (Value.agg (List.toArray (lcs ls)))))], Value.int .i64 b] ?_
  refine WpFun.of (c3) ?_
  refine kp 21 (.bool false) ?_
  refine kp 22 (.bool false) ?_
  refine kp 23 (.bool false) ?_
  refine kp 24 (.int IntKind.i64 a) ?_
  refine kp 25 (.int IntKind.i64 b) ?_
  refine kp 26 (.bool false) ?_ (hop := fun _ => by_fact h3)
  refine kp 27 (.bool false) ?_
  refine WpOps.nil (thenK_at (off' (Wp.skip (thenK_at (Wp.seq (Wp.seq (Wp.text ?_)))))))
  refine kp 29 (.agg #[Value.int .i64 N, Value.iface 48 (Value.iface (List.length ls) (Value.iface x (Value.agg (List.toArray (lcs ls)))))]) ?_
  refine kp 30 (.int IntKind.i64 a) ?_
  refine kp 31 (.int IntKind.i64 b) ?_
  refine fr 32 52 [Value.agg #[Value.int .i64 N, Value.iface 48 (Value.iface (List.length ls) (Value.iface x (Value.agg (List.toArray (lcs ls)))))], Value.int .i64 a, Value.int .i64 b] ?_
  refine WpFun.of (c4) ?_
  refine kp 33 (.bool true) ?_
  refine WpOps.nil (thenK_at (on' (Wp.seq (Wp.text ?_))))
  refine kp 34 (.agg #[Value.int .i64 0, Value.slice none 0 0]) ?_
  refine ld (.tuple #[]) (1) (Blk.mk 34 true [Value.int .i64 0, Value.slice none 0 0]) ?_
  refine kp 7 (.int IntKind.i64 3) ?_
  refine WpOps.nil (thenK_at (Wp.ret (thenK_ret ?_)))
  refine endK_retn [Value.agg #[Value.int IntKind.i64 0, Value.slice none 0 0], Value.int IntKind.i64 3] (Value.tuple #[Value.agg #[Value.int IntKind.i64 0, Value.slice none 0 0], Value.int IntKind.i64 3]) (by kernel_rfl) (by kernel_rfl) ?_
  obtain ⟨ti, ht⟩ := E48
  exact ⟨_, by kernel_rfl, .tuple (.cons (.agg (.cons (.inl rfl) (.cons (.inr ⟨rfl, 48, ti, ht, rfl⟩) .nil))) (.cons (.c (.inl rfl)) .nil))⟩
theorem cut34_ok (N : Int) (x : Nat) (ls : List Lk) (a b : Int) (c1 : Fun E 26 [netV N x ls] (.bool true)) (hb : okCut true N a b = true) (hn : ls.length * 24 ≤ 140737488351232) (hc : (costF ls a b == 0) = false) : Fun E 34 [netV N x ls, .int .i64 a, .int .i64 b] (.tuple #[netV N (xOf (cutL (hit a b) ls)) (cutL (hit a b) ls), .int .i64 0]) := by
  refine Fun.of f34 rfl (of_decide_eq_true (by kernel_rfl)) rfl ?_
  have c2 := node55 N x ls a
  have c3 := node55 N x ls b
  have c4 := cost52 N x ls a b (by omega)
  have c5 := wo58 N x ls a b hn
  generalize cutL (hit a b) ls = K at c5 ⊢
  obtain ⟨h0, h1, h2, h3⟩ := okCut_parts hb
  rw [h1] at c2
  rw [h2] at c3
  clear hb h0 h1 h2
  unfold netV lks at *
  refine Wp.seq (Wp.text ?_)
  refine md 3 (.pointer (some ⟨0, 0, none⟩)) (Blk.mk 34 true [Value.int .i64 N, Value.iface 48 (Value.iface (List.length ls) (Value.iface x (Value.agg (List.toArray (lcs ls)))))]) ?_
  refine md 6 (.pointer (some ⟨1, 0, none⟩)) (Blk.mk 34 true [Value.int .i64 0, Value.slice none 0 0]) ?_
  refine kp 7 (.int IntKind.i64 0) ?_
  refine WpOps.nil (thenK_at (Wp.seq (Wp.seq (Wp.text ?_))))
  refine kp 8 (.agg #[Value.int .i64 N, Value.iface 48 (Value.iface (List.length ls) (Value.iface x (Value.agg (List.toArray (lcs ls)))))]) ?_
  refine fr 9 26 [Value.agg #[Value.int .i64 N, Value.iface 48 (Value.iface (List.length ls) (Value.iface x (Value.agg (List.toArray (lcs ls)))))]] ?_
  refine WpFun.of (c1) ?_
  refine kp 10 (.bool false) ?_
  refine kp 11 (.bool false) ?_
  refine kp 12 (.agg #[Value.int .i64 N, Value.iface 48 (Value.iface (List.length ls) (Value.iface x (Value.agg (List.toArray (lcs ls)))))]) ?_
  refine kp 13 (.int IntKind.i64 a) ?_
  refine fr 14 55 [Value.agg #[Value.int .i64 N, Value.iface 48 (Value.iface (List.length ls) (Value.iface x (Value.agg (List.toArray (lcs ls)))))], Value.int .i64 a] ?_
  refine WpFun.of (c2) ?_
  refine kp 15 (.bool false) ?_
  refine kp 16 (.bool false) ?_
  refine kp 17 (.bool false) ?_
  refine kp 18 (.agg #[Value.int .i64 N, Value.iface 48 (Value.iface (List.length ls) (Value.iface x (Value.agg (List.toArray (lcs ls)))))]) ?_
  refine kp 19 (.int IntKind.i64 b) ?_
  refine fr 20 55 [Value.agg #[Value.int .i64 N, Value.iface 48 (Value.iface (List.length ls) (Value.iface x (Value.agg (List.toArray (lcs ls)))))], Value.int .i64 b] ?_
  refine WpFun.of (c3) ?_
  refine kp 21 (.bool false) ?_
  refine kp 22 (.bool false) ?_
  refine kp 23 (.bool false) ?_
  refine kp 24 (.int IntKind.i64 a) ?_
  refine kp 25 (.int IntKind.i64 b) ?_
  refine kp 26 (.bool false) ?_ (hop := fun _ => by_fact h3)
  refine kp 27 (.bool false) ?_
  refine WpOps.nil (thenK_at (off' (Wp.skip (thenK_at (Wp.seq (Wp.seq (Wp.text ?_)))))))
  refine kp 29 (.agg #[Value.int .i64 N, Value.iface 48 (Value.iface (List.length ls) (Value.iface x (Value.agg (List.toArray (lcs ls)))))]) ?_
  refine kp 30 (.int IntKind.i64 a) ?_
  refine kp 31 (.int IntKind.i64 b) ?_
  refine fr 32 52 [Value.agg #[Value.int .i64 N, Value.iface 48 (Value.iface (List.length ls) (Value.iface x (Value.agg (List.toArray (lcs ls)))))], Value.int .i64 a, Value.int .i64 b] ?_
  refine WpFun.of (c4) ?_
  refine kp 33 (.bool false) ?_ (hop := fun _ => by_fact hc)
  refine WpOps.nil (thenK_at (off' (Wp.skip (thenK_at (Wp.seq (Wp.text ?_))))))
  refine kp 35 (.agg #[Value.int .i64 N, Value.iface 48 (Value.iface (List.length ls) (Value.iface x (Value.agg (List.toArray (lcs ls)))))]) ?_
  refine kp 36 (.int IntKind.i64 a) ?_
  refine kp 37 (.int IntKind.i64 b) ?_
  refine fr 38 58 [Value.agg #[Value.int .i64 N, Value.iface 48 (Value.iface (List.length ls) (Value.iface x (Value.agg (List.toArray (lcs ls)))))], Value.int .i64 a, Value.int .i64 b] ?_
  refine WpFun.of (c5) ?_
  refine ld (.tuple #[]) (1) (Blk.mk 34 true [Value.int .i64 N, Value.iface 48 (Value.iface (List.length K) (Value.iface (xOf K) (Value.agg (List.toArray (lcs K)))))]) ?_
  refine kp 7 (.int IntKind.i64 0) ?_
  refine WpOps.nil (thenK_at (Wp.ret ?_))
  refine endK_retn [Value.agg #[Value.int IntKind.i64 N, Value.iface 48 (Value.iface (List.length K) (Value.iface (xOf K) (Value.agg (List.toArray (lcs K)))))], Value.int IntKind.i64 0] (Value.tuple #[Value.agg #[Value.int IntKind.i64 N, Value.iface 48 (Value.iface (List.length K) (Value.iface (xOf K) (Value.agg (List.toArray (lcs K)))))], Value.int IntKind.i64 0]) (by kernel_rfl) (by kernel_rfl) ?_
  rfl
/-- The links, with a cost anew. -/
def mapL (a b c : Int) (ls : List Lk) : List Lk := ls.map fun l => if hit a b l = true then (l.1, l.2.1, c) else l
def joinR (a b c : Int) (ls : List Lk) : List Lk := if ls.any (hit a b) = true then mapL a b c ls else mapL a b c ls ++ [(mn a b, mx a b, c)]
theorem mapL_len (a b c : Int) (ls : List Lk) : (mapL a b c ls).length = ls.length := by simp [mapL]
theorem mapL_snoc (a b c : Int) {ls : List Lk} {k : Nat} (h : k < ls.length) : mapL a b c (ls.take (k + 1)) = mapL a b c (ls.take k) ++ [if hit a b (ls.getD k (0, 0, 0)) = true then ((ls.getD k (0, 0, 0)).1, (ls.getD k (0, 0, 0)).2.1, c) else ls.getD k (0, 0, 0)] := by
  rw [take_snoc ls k h]
  unfold mapL
  rw [List.map_append]
  rfl
theorem any_snoc (P : Lk → Bool) {ls : List Lk} {k : Nat} (h : k < ls.length) : (ls.take (k + 1)).any P = ((ls.take k).any P || P (ls.getD k (0, 0, 0))) := by
  rw [take_snoc ls k h, List.any_append]
  simp
theorem f37 : E.funcs 37 = some Try.f37 := by kernel_rfl
theorem join37_bad (N : Int) (x : Nat) (ls : List Lk) (a b c : Int) (ok : Bool) (c1 : Fun E 26 [netV N x ls] (.bool ok)) (hb : okJoin ok N a b c = false) : Fun E 37 [netV N x ls, .int .i64 a, .int .i64 b, .int .i64 c] (.tuple #[netV 0 2 [], .int .i64 1]) := by
  refine Fun.ofN f37 rfl (of_decide_eq_true (by kernel_rfl)) (by kernel_rfl) ?_
  have c2 := node55 N x ls a
  have c3 := node55 N x ls b
  have hab : ∃ z, (a == b) = z := ⟨_, rfl⟩
  obtain ⟨z, hz⟩ := hab
  unfold netV lks at c1 c2 c3
  unfold okJoin at hb
  rw [hz] at hb
  generalize nodeB N a = p at c2 hb
  generalize nodeB N b = q at c3 hb
  unfold netV lks
  refine Wp.seq (Wp.text ?_)
  refine md 4 (.pointer (some ⟨0, 0, none⟩)) (Blk.mk 34 true [Value.int .i64 N, Value.iface 48 (Value.iface (List.length ls) (Value.iface x (Value.agg (List.toArray (lcs ls)))))]) ?_
  refine md 8 (.pointer (some ⟨1, 0, none⟩)) (Blk.mk 34 true [Value.int .i64 0, Value.slice none 0 0]) ?_
  refine kp 9 (.int IntKind.i64 0) ?_
  refine WpOps.nil (thenK_at (Wp.seq (Wp.seq (Wp.text ?_))))
  refine kp 14 (.agg #[Value.int .i64 N, Value.iface 48 (Value.iface (List.length ls) (Value.iface x (Value.agg (List.toArray (lcs ls)))))]) ?_
  refine fr 15 26 [Value.agg #[Value.int .i64 N, Value.iface 48 (Value.iface (List.length ls) (Value.iface x (Value.agg (List.toArray (lcs ls)))))]] ?_
  refine WpFun.of (c1) ?_
  refine kp 16 (.bool !ok) ?_
  refine kp 17 (.bool !ok) ?_
  refine WpOps.fork 5 (!ok) [18, 19, 20, 21, 22] 22 (true) (!p) (by kernel_rfl) (fun g22 => ?_) (fun g22 => ?_) (fun f_22 b22 hb22 => ?_)
  · refine um 18 ?_ (hw := wants_tf g22)
    refine um 19 ?_ (hw := wants_tf g22)
    refine um 20 ?_ (hw := wants_tf g22)
    refine um 21 ?_ (hw := wants_tf g22)
    refine kp 22 (.bool true) ?_ (hop := fun _ => o_pickT g22)
    refine WpOps.nil ?_
    exact ⟨rfl, (.upd rfl (.upd rfl (.upd rfl (.upd rfl (.upd rfl .refl))))), (by kernel_rfl)⟩
  · refine kp 18 (.agg #[Value.int .i64 N, Value.iface 48 (Value.iface (List.length ls) (Value.iface x (Value.agg (List.toArray (lcs ls)))))]) ?_ (hw := wants_ff g22)
    refine kp 19 (.int IntKind.i64 a) ?_ (hw := wants_ff g22)
    refine fr 20 55 [Value.agg #[Value.int .i64 N, Value.iface 48 (Value.iface (List.length ls) (Value.iface x (Value.agg (List.toArray (lcs ls)))))], Value.int .i64 a] ?_ (hw := wants_ff g22)
    refine WpFun.of (c2) ?_
    refine kp 21 (.bool !p) ?_ (hw := wants_ff g22)
    refine kp 22 (.bool !p) ?_ (hop := fun _ => o_pickF g22)
    refine WpOps.nil ?_
    exact ⟨rfl, (.upd rfl (.upd rfl (.upd rfl (.upd rfl (.upd rfl .refl))))), (by kernel_rfl)⟩
  refine kp 23 (.bool b22) ?_
  refine WpOps.fork 5 (b22) [24, 25, 26, 27, 28] 28 (true) (!q) (by kernel_rfl) (fun g28 => ?_) (fun g28 => ?_) (fun f_28 b28 hb28 => ?_)
  · refine um 24 ?_ (hw := wants_tf g28)
    refine um 25 ?_ (hw := wants_tf g28)
    refine um 26 ?_ (hw := wants_tf g28)
    refine um 27 ?_ (hw := wants_tf g28)
    refine kp 28 (.bool true) ?_ (hop := fun _ => o_pickT g28)
    refine WpOps.nil ?_
    exact ⟨rfl, (.upd rfl (.upd rfl (.upd rfl (.upd rfl (.upd rfl .refl))))), (by kernel_rfl)⟩
  · refine kp 24 (.agg #[Value.int .i64 N, Value.iface 48 (Value.iface (List.length ls) (Value.iface x (Value.agg (List.toArray (lcs ls)))))]) ?_ (hw := wants_ff g28)
    refine kp 25 (.int IntKind.i64 b) ?_ (hw := wants_ff g28)
    refine fr 26 55 [Value.agg #[Value.int .i64 N, Value.iface 48 (Value.iface (List.length ls) (Value.iface x (Value.agg (List.toArray (lcs ls)))))], Value.int .i64 b] ?_ (hw := wants_ff g28)
    refine WpFun.of (c3) ?_
    refine kp 27 (.bool !q) ?_ (hw := wants_ff g28)
    refine kp 28 (.bool !q) ?_ (hop := fun _ => o_pickF g28)
    refine WpOps.nil ?_
    exact ⟨rfl, (.upd rfl (.upd rfl (.upd rfl (.upd rfl (.upd rfl .refl))))), (by kernel_rfl)⟩
  refine kp 29 (.bool b28) ?_
  refine WpOps.fork 4 (b28) [30, 31, 32, 33] 33 (true) (a == b) (by kernel_rfl) (fun g33 => ?_) (fun g33 => ?_) (fun f_33 b33 hb33 => ?_)
  · refine um 30 ?_ (hw := wants_tf g33)
    refine um 31 ?_ (hw := wants_tf g33)
    refine um 32 ?_ (hw := wants_tf g33)
    refine kp 33 (.bool true) ?_ (hop := fun _ => o_pickT g33)
    refine WpOps.nil ?_
    exact ⟨rfl, (.upd rfl (.upd rfl (.upd rfl (.upd rfl .refl)))), (by kernel_rfl)⟩
  · refine kp 30 (.int IntKind.i64 a) ?_ (hw := wants_ff g33)
    refine kp 31 (.int IntKind.i64 b) ?_ (hw := wants_ff g33)
    refine kp 32 (.bool (a == b)) ?_ (hw := wants_ff g33)
    refine kp 33 (.bool (a == b)) ?_ (hop := fun _ => o_pickF g33)
    refine WpOps.nil ?_
    exact ⟨rfl, (.upd rfl (.upd rfl (.upd rfl (.upd rfl .refl)))), (by kernel_rfl)⟩
  refine kp 34 (.bool b33) ?_
  refine WpOps.fork 3 (b33) [35, 36, 37] 37 (true) (decide (c < 1)) (by kernel_rfl) (fun g37 => ?_) (fun g37 => ?_) (fun f_37 b37 hb37 => ?_)
  · refine um 35 ?_ (hw := wants_tf g37)
    refine um 36 ?_ (hw := wants_tf g37)
    refine kp 37 (.bool true) ?_ (hop := fun _ => o_pickT g37)
    refine WpOps.nil ?_
    exact ⟨rfl, (.upd rfl (.upd rfl (.upd rfl .refl))), (by kernel_rfl)⟩
  · refine kp 35 (.int IntKind.i64 c) ?_ (hw := wants_ff g37)
    refine kp 36 (.bool (decide (c < 1))) ?_ (hw := wants_ff g37)
    refine kp 37 (.bool (decide (c < 1))) ?_ (hop := fun _ => o_pickF g37)
    refine WpOps.nil ?_
    exact ⟨rfl, (.upd rfl (.upd rfl (.upd rfl .refl))), (by kernel_rfl)⟩
  refine kp 38 (.bool b37) ?_
  refine WpOps.fork 3 (b37) [39, 40, 41] 41 (true) (decide (c > 15)) (by kernel_rfl) (fun g41 => ?_) (fun g41 => ?_) (fun f_41 b41 hb41 => ?_)
  · refine um 39 ?_ (hw := wants_tf g41)
    refine um 40 ?_ (hw := wants_tf g41)
    refine kp 41 (.bool true) ?_ (hop := fun _ => o_pickT g41)
    refine WpOps.nil ?_
    exact ⟨rfl, (.upd rfl (.upd rfl (.upd rfl .refl))), (by kernel_rfl)⟩
  · refine kp 39 (.int IntKind.i64 c) ?_ (hw := wants_ff g41)
    refine kp 40 (.bool (decide (c > 15))) ?_ (hw := wants_ff g41)
    refine kp 41 (.bool (decide (c > 15))) ?_ (hop := fun _ => o_pickF g41)
    refine WpOps.nil ?_
    exact ⟨rfl, (.upd rfl (.upd rfl (.upd rfl .refl))), (by kernel_rfl)⟩
  refine WpOps.nil (thenK_at ?_)
  have e1 : decide (c < 1) = !decide (1 ≤ c) := by rw [← decide_not]; exact decide_eq_decide.2 (by omega)
  have e2 : decide (c > 15) = !decide (c ≤ 15) := by rw [← decide_not]; exact decide_eq_decide.2 (by omega)
  obtain rfl : b41 = true := by
    rw [hb41, hb37, hb33, hb28, hb22, hz, e1, e2, okJoin_nest, hb]
    rfl
  refine on' (Wp.seq (Wp.text ?_))
  refine kp 42 (.agg #[Value.int .i64 0, Value.slice none 0 0]) ?_
  refine ld (.tuple #[]) (1) (Blk.mk 34 true [Value.int .i64 0, Value.slice none 0 0]) ?_
  refine kp 9 (.int IntKind.i64 1) ?_
  refine WpOps.nil (thenK_at (Wp.ret (thenK_ret ?_)))
  refine endK_retn [Value.agg #[Value.int IntKind.i64 0, Value.slice none 0 0], Value.int IntKind.i64 1] (Value.tuple #[Value.agg #[Value.int IntKind.i64 0, Value.slice none 0 0], Value.int IntKind.i64 1]) (by kernel_rfl) (by kernel_rfl) ?_
  obtain ⟨ti, ht⟩ := E48
  exact ⟨_, by kernel_rfl, .tuple (.cons (.agg (.cons (.inl rfl) (.cons (.inr ⟨rfl, 48, ti, ht, rfl⟩) .nil))) (.cons (.c (.inl rfl)) .nil))⟩
set_option maxHeartbeats 8000000 in
theorem join37_ok (N : Int) (x : Nat) (ls : List Lk) (a b c : Int) (hn : ls.length * 24 ≤ 140737488351232) (c1 : Fun E 26 [netV N x ls] (.bool true)) (hb : okJoin true N a b c = true) : Fun E 37 [netV N x ls, .int .i64 a, .int .i64 b, .int .i64 c] (.tuple #[netV N (xOf (joinR a b c ls)) (joinR a b c ls), .int .i64 0]) := by
  refine Fun.ofN f37 rfl (of_decide_eq_true (by kernel_rfl)) (by kernel_rfl) ?_
  have c2 := node55 N x ls a
  have c3 := node55 N x ls b
  obtain ⟨h0, h1, h3', h4, h5, h6⟩ := okJoin_parts hb
  rw [h1] at c2
  rw [h3'] at c3
  have d1' : decide (c < 1) = false := decide_eq_false (by omega)
  have d2' : decide (c > 15) = false := decide_eq_false (by omega)
  clear hb h0 h1 h3' h5 h6
  unfold netV lks at c1 c2 c3 ⊢
  refine Wp.seq (Wp.text ?_)
  refine md 4 (.pointer (some ⟨0, 0, none⟩)) (Blk.mk 34 true [Value.int .i64 N, Value.iface 48 (Value.iface (List.length ls) (Value.iface x (Value.agg (List.toArray (lcs ls)))))]) ?_
  refine md 8 (.pointer (some ⟨1, 0, none⟩)) (Blk.mk 34 true [Value.int .i64 0, Value.slice none 0 0]) ?_
  refine kp 9 (.int IntKind.i64 0) ?_
  refine WpOps.nil (thenK_at (Wp.seq (Wp.seq (Wp.text ?_))))
  refine kp 14 (.agg #[Value.int .i64 N, Value.iface 48 (Value.iface (List.length ls) (Value.iface x (Value.agg (List.toArray (lcs ls)))))]) ?_
  refine fr 15 26 [Value.agg #[Value.int .i64 N, Value.iface 48 (Value.iface (List.length ls) (Value.iface x (Value.agg (List.toArray (lcs ls)))))]] ?_
  refine WpFun.of (c1) ?_
  refine kp 16 (.bool false) ?_
  refine kp 17 (.bool false) ?_
  refine kp 18 (.agg #[Value.int .i64 N, Value.iface 48 (Value.iface (List.length ls) (Value.iface x (Value.agg (List.toArray (lcs ls)))))]) ?_
  refine kp 19 (.int IntKind.i64 a) ?_
  refine fr 20 55 [Value.agg #[Value.int .i64 N, Value.iface 48 (Value.iface (List.length ls) (Value.iface x (Value.agg (List.toArray (lcs ls)))))], Value.int .i64 a] ?_
  refine WpFun.of (c2) ?_
  refine kp 21 (.bool false) ?_
  refine kp 22 (.bool false) ?_
  refine kp 23 (.bool false) ?_
  refine kp 24 (.agg #[Value.int .i64 N, Value.iface 48 (Value.iface (List.length ls) (Value.iface x (Value.agg (List.toArray (lcs ls)))))]) ?_
  refine kp 25 (.int IntKind.i64 b) ?_
  refine fr 26 55 [Value.agg #[Value.int .i64 N, Value.iface 48 (Value.iface (List.length ls) (Value.iface x (Value.agg (List.toArray (lcs ls)))))], Value.int .i64 b] ?_
  refine WpFun.of (c3) ?_
  refine kp 27 (.bool false) ?_
  refine kp 28 (.bool false) ?_
  refine kp 29 (.bool false) ?_
  refine kp 30 (.int IntKind.i64 a) ?_
  refine kp 31 (.int IntKind.i64 b) ?_
  refine kp 32 (.bool false) ?_ (hop := fun _ => by_fact h4)
  refine kp 33 (.bool false) ?_
  refine kp 34 (.bool false) ?_
  refine kp 35 (.int IntKind.i64 c) ?_
  refine kp 36 (.bool false) ?_ (hop := fun _ => by_fact d1')
  refine kp 37 (.bool false) ?_
  refine kp 38 (.bool false) ?_
  refine kp 39 (.int IntKind.i64 c) ?_
  refine kp 40 (.bool false) ?_ (hop := fun _ => by_fact d2')
  refine kp 41 (.bool false) ?_
  refine WpOps.nil (thenK_at (off' (Wp.skip (thenK_at (Wp.seq (Wp.text ?_))))))
  refine kp 43 (.pointer (some ⟨0, 0, none⟩)) ?_
  refine kp 44 (.int IntKind.i64 N) ?_
  refine kp 45 (.agg #[Value.int .i64 N, Value.slice none 0 0]) ?_
  refine md 10 (.pointer (some ⟨2, 0, none⟩)) (Blk.mk 34 true [Value.int .i64 0, Value.slice none 0 0]) ?_
  refine ld (.tuple #[]) (2) (Blk.mk 34 true [Value.int .i64 N, Value.slice none 0 0]) ?_
  refine WpOps.nil (thenK_at (Wp.seq (Wp.text ?_)))
  refine kp 11 (.bool false) ?_
  refine WpOps.nil (thenK_at (Wp.seq (Wp.seq (Wp.text ?_))))
  refine kp 12 (.int IntKind.i64 0) ?_
  refine WpOps.nil (thenK_at (Wp.block ?_))
  refine Wp.loop (G := Nat) (fun k => layj [(1, .int .i64 a), (2, .int .i64 b), (3, .int .i64 c), (4, .pointer (some ⟨0, 0, none⟩)), (8, .pointer (some ⟨1, 0, none⟩)), (10, .pointer (some ⟨2, 0, none⟩)), (11, .bool ((ls.take k).any (hit a b))), (12, .int .i64 k)]) (fun k => heapOf ([⟨34, true, [.int .i64 N, lks x ls]⟩, ⟨34, true, [.int .i64 0, .slice none 0 0]⟩, oN N 3 (mapL a b c (ls.take k))] ++ oB 48 (mapL a b c (ls.take k)).length (lcs (mapL a b c (ls.take k))))) (fun k => ls.length - k) (fun k => k ≤ ls.length) 0
    (View.of [0, 1, 2] [⟨34, true, [.int .i64 N, lks x ls]⟩, ⟨34, true, [.int .i64 0, .slice none 0 0]⟩, ⟨34, true, [.int .i64 N, .slice none 0 0]⟩] _ (by decide) rfl ⟨⟨_, by kernel_rfl, CellsOk.eq rfl (by kernel_rfl)⟩, ⟨_, by kernel_rfl, CellsOk.eq rfl (by kernel_rfl)⟩, ⟨_, by kernel_rfl, CellsOk.eq rfl (by kernel_rfl)⟩, trivial⟩ ⟨⟨by kernel_rfl, rfl⟩, ⟨by kernel_rfl, rfl⟩, ⟨by kernel_rfl, rfl⟩, ⟨by kernel_rfl, rfl⟩, ⟨by kernel_rfl, rfl⟩, ⟨by kernel_rfl, rfl⟩, ⟨by kernel_rfl, rfl⟩, ⟨by kernel_rfl, rfl⟩, trivial⟩) (Nat.zero_le _) ?_
  intro k hk
  by_cases hlt : k < ls.length
  · have d1 : decide ((k : Int) < ls.length) = true := decide_eq_true (by omega)
    have g1 : 0 ≤ (k : Int) ∧ (k : Int) < ls.length := by omega
    have v1 := lcs_cells ls k (0, 0, 0) hlt
    have hml : (mapL a b c (ls.take k)).length = k := by rw [mapL_len, List.length_take]; omega
    have hm := mapL_snoc a b c hlt
    have ha := any_snoc (hit a b) hlt
    generalize ls.getD k (0, 0, 0) = l at v1 hm ha
    generalize mapL a b c (ls.take k) = K at hml hm ⊢
    generalize (ls.take k).any (hit a b) = dn at ha ⊢
    unfold lc at v1
    have hno : (bif l.1 == (if b < a then b else a) then l.2.1 == (if b > a then b else a) else false) = hit a b l := rfl
    by_cases h0 : K.length = 0
    · have hK := List.eq_nil_of_length_eq_zero h0
      unfold oN
      rw [oV_z h0, oB_z h0]
      unfold lks
      refine Wp.seq (Wp.seq (Wp.text ?_))
      refine kp 46 (.int IntKind.i64 (↑k : Int)) ?_
      refine kp 47 (.pointer (some ⟨0, 1, none⟩)) ?_
      refine kp 48 (.iface 48 (Value.iface (List.length ls) (Value.iface x (Value.agg (List.toArray (lcs ls)))))) ?_
      refine kp 49 (.int IntKind.i64 (↑(List.length ls) : Int)) ?_
      refine kp 50 (.bool true) ?_ (hop := fun _ => by_fact d1)
      refine WpOps.nil (thenK_at (on' (Wp.skip (thenK_at (Wp.seq (Wp.block (Wp.seq (Wp.text ?_))))))))
      refine kp 53 (.pointer (some ⟨0, 1, none⟩)) ?_
      refine kp 54 (.iface 48 (Value.iface (List.length ls) (Value.iface x (Value.agg (List.toArray (lcs ls)))))) ?_
      refine kp 55 (.int IntKind.i64 (↑k : Int)) ?_
      refine kp 56 (.iface 48 (Value.iface (Int.toNat (↑k : Int) * 3) (Value.agg (List.toArray (lcs ls))))) ?_ (hop := fun _ => o_indexI (e := 48) (size := 3) (a := (↑k : Int)) g1)
      refine kp 57 (.agg #[Value.int .i64 (Prod.fst l), Value.int .i64 (Prod.fst (Prod.snd l)), Value.int .i64 (Prod.snd (Prod.snd l))]) ?_ (hop := fun _ => o_loadIA (Int.toNat (↑k : Int) * 3) v1)
      refine md 13 (.pointer (some ⟨3, 0, none⟩)) (Blk.mk 48 true [Value.int .i64 0, Value.int .i64 0, Value.int .i64 0]) ?_
      refine ld (.tuple #[]) (3) (Blk.mk 48 true [Value.int .i64 (Prod.fst l), Value.int .i64 (Prod.fst (Prod.snd l)), Value.int .i64 (Prod.snd (Prod.snd l))]) ?_
      refine WpOps.nil (thenK_at (Wp.seq (Wp.seq (Wp.text ?_))))
      refine kp 58 (.pointer (some ⟨3, 0, none⟩)) ?_
      refine kp 59 (.int IntKind.i64 (Prod.fst l)) ?_
      refine kp 60 (.int IntKind.i64 a) ?_
      refine kp 61 (.int IntKind.i64 b) ?_
      refine kp 62 (.int IntKind.i64 (if b < a then b else a)) ?_
      refine kp 63 (.bool (Prod.fst l == if b < a then b else a)) ?_
      refine kp 64 (.bool (Prod.fst l == if b < a then b else a)) ?_
      refine WpOps.fork 7 (Prod.fst l == if b < a then b else a) [65, 66, 67, 68, 69, 70, 71] 71 (Prod.fst (Prod.snd l) == if b > a then b else a) (false) (by kernel_rfl) (fun g71 => ?_) (fun g71 => ?_) (fun f_71 b71 hb71 => ?_)
      · refine kp 65 (.pointer (some ⟨3, 1, none⟩)) ?_ (hw := wants_tt g71)
        refine kp 66 (.int IntKind.i64 (Prod.fst (Prod.snd l))) ?_ (hw := wants_tt g71)
        refine kp 67 (.int IntKind.i64 a) ?_ (hw := wants_tt g71)
        refine kp 68 (.int IntKind.i64 b) ?_ (hw := wants_tt g71)
        refine kp 69 (.int IntKind.i64 (if b > a then b else a)) ?_ (hw := wants_tt g71)
        refine kp 70 (.bool (Prod.fst (Prod.snd l) == if b > a then b else a)) ?_ (hw := wants_tt g71)
        refine kp 71 (.bool (Prod.fst (Prod.snd l) == if b > a then b else a)) ?_ (hop := fun _ => o_pickT g71)
        refine WpOps.nil ?_
        exact ⟨rfl, (.upd rfl (.upd rfl (.upd rfl (.upd rfl (.upd rfl (.upd rfl (.upd rfl .refl))))))), (by kernel_rfl)⟩
      · refine um 65 ?_ (hw := wants_ft g71)
        refine um 66 ?_ (hw := wants_ft g71)
        refine um 67 ?_ (hw := wants_ft g71)
        refine um 68 ?_ (hw := wants_ft g71)
        refine um 69 ?_ (hw := wants_ft g71)
        refine um 70 ?_ (hw := wants_ft g71)
        refine kp 71 (.bool false) ?_ (hop := fun _ => o_pickF g71)
        refine WpOps.nil ?_
        exact ⟨rfl, (.upd rfl (.upd rfl (.upd rfl (.upd rfl (.upd rfl (.upd rfl (.upd rfl .refl))))))), (by kernel_rfl)⟩
      refine WpOps.nil (thenK_at ?_)
      have hb71' := hb71.trans hno
      cases hp : hit a b l with
      | true =>
        rw [hp] at hb71' hm ha
        obtain rfl : b71 = true := hb71'
        rw [if_pos rfl] at hm
        have hsn := lcs_snoc K (l.1, l.2.1, c)
        subst hK
        refine on' (Wp.seq (Wp.text ?_))
        refine kp 72 (.int IntKind.i64 c) ?_
        refine kp 73 (.pointer (some ⟨3, 2, none⟩)) ?_
        refine ld (.tuple #[]) (3) (Blk.mk 48 true [Value.int .i64 (Prod.fst l), Value.int .i64 (Prod.fst (Prod.snd l)), Value.int .i64 c]) ?_
        refine WpOps.nil (thenK_at (Wp.text ?_))
        refine kp 11 (.bool true) ?_
        refine WpOps.nil (thenK_at (Wp.text ?_))
        refine kp 74 (.pointer (some ⟨2, 1, none⟩)) ?_
        refine kp 75 (.slice none 0 0) ?_
        refine kp 76 (.agg #[Value.int .i64 (Prod.fst l), Value.int .i64 (Prod.fst (Prod.snd l)), Value.int .i64 c]) ?_
        refine md 77 (.slice (some ⟨4, 0, none⟩) 1 1) (Blk.mk 48 true [Value.int .i64 (Prod.fst l), Value.int .i64 (Prod.fst (Prod.snd l)), Value.int .i64 c]) ?_
        refine md 78 (.slice (some ⟨5, 0, none⟩) 1 1) (Blk.mk 48 true [Value.int .i64 (Prod.fst l), Value.int .i64 (Prod.fst (Prod.snd l)), Value.int .i64 c]) ?_
        refine kp 79 (.pointer (some ⟨2, 1, none⟩)) ?_
        refine ld (.tuple #[]) (2) (Blk.mk 34 true [Value.int .i64 N, Value.slice (some ⟨5, 0, none⟩) 1 1]) ?_
        refine WpOps.nil (blockK_norm (thenK_at (Wp.text ?_)))
        refine kp 51 (.int IntKind.i64 (↑k : Int)) ?_
        refine kp 52 (.int IntKind.i64 (IntKind.wrap .i64 ((↑k : Int) + 1))) ?_
        refine kp 12 (.int IntKind.i64 (IntKind.wrap .i64 ((↑k : Int) + 1))) ?_
        refine WpOps.nil (thenK_at ?_)
        refine ⟨k + 1, by omega, by omega, ?_⟩
        try dsimp only
        rw [hm, ha, Bool.or_true]
        rw [oV_own (nz_len _), oB_own (nz_len _)]
        exact View.of [0, 1, 2, 5] [⟨34, true, [.int .i64 N, lks x ls]⟩, ⟨34, true, [.int .i64 0, .slice none 0 0]⟩, ⟨34, true, [.int .i64 N, .slice (some ⟨3, 0, none⟩) (([] : List Lk) ++ [(l.1, l.2.1, c)]).length (([] : List Lk) ++ [(l.1, l.2.1, c)]).length]⟩, ⟨48, true, lcs (([] : List Lk) ++ [(l.1, l.2.1, c)])⟩] _ (by decide) rfl ⟨⟨_, by kernel_rfl, CellsOk.eq rfl (by kernel_rfl)⟩, ⟨_, by kernel_rfl, CellsOk.eq rfl (by kernel_rfl)⟩, ⟨[.int .i64 N, .slice (some ⟨5, 0, none⟩) 1 1], by kernel_rfl, by kernel_rfl, by kernel_rfl⟩, ⟨_, by kernel_rfl, CellsOk.eq hsn (lcs_flat _)⟩, trivial⟩ ⟨⟨by kernel_rfl, rfl⟩, ⟨by kernel_rfl, rfl⟩, ⟨by kernel_rfl, rfl⟩, ⟨by kernel_rfl, rfl⟩, ⟨by kernel_rfl, rfl⟩, ⟨by kernel_rfl, rfl⟩, ⟨by kernel_rfl, rfl⟩, ⟨congrArg (Value.int .i64) (wr _ (by omega) (by omega)), rfl⟩, trivial⟩
      | false =>
        rw [hp] at hb71' hm ha
        obtain rfl : b71 = false := hb71'
        rw [if_neg (by decide)] at hm
        have hsn := lcs_snoc K l
        subst hK
        refine off' (Wp.skip (thenK_at (Wp.text ?_)))
        refine kp 74 (.pointer (some ⟨2, 1, none⟩)) ?_
        refine kp 75 (.slice none 0 0) ?_
        refine kp 76 (.agg #[Value.int .i64 (Prod.fst l), Value.int .i64 (Prod.fst (Prod.snd l)), Value.int .i64 (Prod.snd (Prod.snd l))]) ?_
        refine md 77 (.slice (some ⟨4, 0, none⟩) 1 1) (Blk.mk 48 true [Value.int .i64 (Prod.fst l), Value.int .i64 (Prod.fst (Prod.snd l)), Value.int .i64 (Prod.snd (Prod.snd l))]) ?_
        refine md 78 (.slice (some ⟨5, 0, none⟩) 1 1) (Blk.mk 48 true [Value.int .i64 (Prod.fst l), Value.int .i64 (Prod.fst (Prod.snd l)), Value.int .i64 (Prod.snd (Prod.snd l))]) ?_
        refine kp 79 (.pointer (some ⟨2, 1, none⟩)) ?_
        refine ld (.tuple #[]) (2) (Blk.mk 34 true [Value.int .i64 N, Value.slice (some ⟨5, 0, none⟩) 1 1]) ?_
        refine WpOps.nil (blockK_norm (thenK_at (Wp.text ?_)))
        refine kp 51 (.int IntKind.i64 (↑k : Int)) ?_
        refine kp 52 (.int IntKind.i64 (IntKind.wrap .i64 ((↑k : Int) + 1))) ?_
        refine kp 12 (.int IntKind.i64 (IntKind.wrap .i64 ((↑k : Int) + 1))) ?_
        refine WpOps.nil (thenK_at ?_)
        refine ⟨k + 1, by omega, by omega, ?_⟩
        try dsimp only
        rw [hm, ha, Bool.or_false]
        rw [oV_own (nz_len _), oB_own (nz_len _)]
        exact View.of [0, 1, 2, 5] [⟨34, true, [.int .i64 N, lks x ls]⟩, ⟨34, true, [.int .i64 0, .slice none 0 0]⟩, ⟨34, true, [.int .i64 N, .slice (some ⟨3, 0, none⟩) (([] : List Lk) ++ [l]).length (([] : List Lk) ++ [l]).length]⟩, ⟨48, true, lcs (([] : List Lk) ++ [l])⟩] _ (by decide) rfl ⟨⟨_, by kernel_rfl, CellsOk.eq rfl (by kernel_rfl)⟩, ⟨_, by kernel_rfl, CellsOk.eq rfl (by kernel_rfl)⟩, ⟨[.int .i64 N, .slice (some ⟨5, 0, none⟩) 1 1], by kernel_rfl, by kernel_rfl, by kernel_rfl⟩, ⟨_, by kernel_rfl, CellsOk.eq hsn (lcs_flat _)⟩, trivial⟩ ⟨⟨by kernel_rfl, rfl⟩, ⟨by kernel_rfl, rfl⟩, ⟨by kernel_rfl, rfl⟩, ⟨by kernel_rfl, rfl⟩, ⟨by kernel_rfl, rfl⟩, ⟨by kernel_rfl, rfl⟩, ⟨by kernel_rfl, rfl⟩, ⟨congrArg (Value.int .i64) (wr _ (by omega) (by omega)), rfl⟩, trivial⟩
    · unfold oN
      rw [oV_own h0, oB_own h0]
      unfold lks
      have q1 : ¬ (K.length + 1 ≤ K.length) := by omega
      have q2 : 1 ≤ 24 ∧ (K.length + 1) * 24 ≤ 140737488355328 ∧ 3 = 3 ∧ K.length + 1 ≤ 9223372036854775807 := by omega
      have q3 := cells_whole (lcs K) (K.length * 3) (lcs_len K)
      refine Wp.seq (Wp.seq (Wp.text ?_))
      refine kp 46 (.int IntKind.i64 (↑k : Int)) ?_
      refine kp 47 (.pointer (some ⟨0, 1, none⟩)) ?_
      refine kp 48 (.iface 48 (Value.iface (List.length ls) (Value.iface x (Value.agg (List.toArray (lcs ls)))))) ?_
      refine kp 49 (.int IntKind.i64 (↑(List.length ls) : Int)) ?_
      refine kp 50 (.bool true) ?_ (hop := fun _ => by_fact d1)
      refine WpOps.nil (thenK_at (on' (Wp.skip (thenK_at (Wp.seq (Wp.block (Wp.seq (Wp.text ?_))))))))
      refine kp 53 (.pointer (some ⟨0, 1, none⟩)) ?_
      refine kp 54 (.iface 48 (Value.iface (List.length ls) (Value.iface x (Value.agg (List.toArray (lcs ls)))))) ?_
      refine kp 55 (.int IntKind.i64 (↑k : Int)) ?_
      refine kp 56 (.iface 48 (Value.iface (Int.toNat (↑k : Int) * 3) (Value.agg (List.toArray (lcs ls))))) ?_ (hop := fun _ => o_indexI (e := 48) (size := 3) (a := (↑k : Int)) g1)
      refine kp 57 (.agg #[Value.int .i64 (Prod.fst l), Value.int .i64 (Prod.fst (Prod.snd l)), Value.int .i64 (Prod.snd (Prod.snd l))]) ?_ (hop := fun _ => o_loadIA (Int.toNat (↑k : Int) * 3) v1)
      refine md 13 (.pointer (some ⟨4, 0, none⟩)) (Blk.mk 48 true [Value.int .i64 0, Value.int .i64 0, Value.int .i64 0]) ?_
      refine ld (.tuple #[]) (4) (Blk.mk 48 true [Value.int .i64 (Prod.fst l), Value.int .i64 (Prod.fst (Prod.snd l)), Value.int .i64 (Prod.snd (Prod.snd l))]) ?_
      refine WpOps.nil (thenK_at (Wp.seq (Wp.seq (Wp.text ?_))))
      refine kp 58 (.pointer (some ⟨4, 0, none⟩)) ?_
      refine kp 59 (.int IntKind.i64 (Prod.fst l)) ?_
      refine kp 60 (.int IntKind.i64 a) ?_
      refine kp 61 (.int IntKind.i64 b) ?_
      refine kp 62 (.int IntKind.i64 (if b < a then b else a)) ?_
      refine kp 63 (.bool (Prod.fst l == if b < a then b else a)) ?_
      refine kp 64 (.bool (Prod.fst l == if b < a then b else a)) ?_
      refine WpOps.fork 7 (Prod.fst l == if b < a then b else a) [65, 66, 67, 68, 69, 70, 71] 71 (Prod.fst (Prod.snd l) == if b > a then b else a) (false) (by kernel_rfl) (fun g71 => ?_) (fun g71 => ?_) (fun f_71 b71 hb71 => ?_)
      · refine kp 65 (.pointer (some ⟨4, 1, none⟩)) ?_ (hw := wants_tt g71)
        refine kp 66 (.int IntKind.i64 (Prod.fst (Prod.snd l))) ?_ (hw := wants_tt g71)
        refine kp 67 (.int IntKind.i64 a) ?_ (hw := wants_tt g71)
        refine kp 68 (.int IntKind.i64 b) ?_ (hw := wants_tt g71)
        refine kp 69 (.int IntKind.i64 (if b > a then b else a)) ?_ (hw := wants_tt g71)
        refine kp 70 (.bool (Prod.fst (Prod.snd l) == if b > a then b else a)) ?_ (hw := wants_tt g71)
        refine kp 71 (.bool (Prod.fst (Prod.snd l) == if b > a then b else a)) ?_ (hop := fun _ => o_pickT g71)
        refine WpOps.nil ?_
        exact ⟨rfl, (.upd rfl (.upd rfl (.upd rfl (.upd rfl (.upd rfl (.upd rfl (.upd rfl .refl))))))), (by kernel_rfl)⟩
      · refine um 65 ?_ (hw := wants_ft g71)
        refine um 66 ?_ (hw := wants_ft g71)
        refine um 67 ?_ (hw := wants_ft g71)
        refine um 68 ?_ (hw := wants_ft g71)
        refine um 69 ?_ (hw := wants_ft g71)
        refine um 70 ?_ (hw := wants_ft g71)
        refine kp 71 (.bool false) ?_ (hop := fun _ => o_pickF g71)
        refine WpOps.nil ?_
        exact ⟨rfl, (.upd rfl (.upd rfl (.upd rfl (.upd rfl (.upd rfl (.upd rfl (.upd rfl .refl))))))), (by kernel_rfl)⟩
      refine WpOps.nil (thenK_at ?_)
      have hb71' := hb71.trans hno
      cases hp : hit a b l with
      | true =>
        rw [hp] at hb71' hm ha
        obtain rfl : b71 = true := hb71'
        rw [if_pos rfl] at hm
        have hsn := lcs_snoc K (l.1, l.2.1, c)
        refine on' (Wp.seq (Wp.text ?_))
        refine kp 72 (.int IntKind.i64 c) ?_
        refine kp 73 (.pointer (some ⟨4, 2, none⟩)) ?_
        refine ld (.tuple #[]) (4) (Blk.mk 48 true [Value.int .i64 (Prod.fst l), Value.int .i64 (Prod.fst (Prod.snd l)), Value.int .i64 c]) ?_
        refine WpOps.nil (thenK_at (Wp.text ?_))
        refine kp 11 (.bool true) ?_
        refine WpOps.nil (thenK_at (Wp.text ?_))
        refine kp 74 (.pointer (some ⟨2, 1, none⟩)) ?_
        refine kp 75 (.slice (some ⟨3, 0, none⟩) (List.length K) (List.length K)) ?_
        refine kp 76 (.agg #[Value.int .i64 (Prod.fst l), Value.int .i64 (Prod.fst (Prod.snd l)), Value.int .i64 c]) ?_
        refine md 77 (.slice (some ⟨5, 0, none⟩) 1 1) (Blk.mk 48 true [Value.int .i64 (Prod.fst l), Value.int .i64 (Prod.fst (Prod.snd l)), Value.int .i64 c]) ?_
        refine ra 78 (.slice (some ⟨6, 0, none⟩) (List.length K + 1) (List.length K + 1)) (3) (Blk.mk 48 true (lcs K ++ [Value.int .i64 (Prod.fst l), Value.int .i64 (Prod.fst (Prod.snd l)), Value.int .i64 c])) ?_ (hop := fun _ => o_append (e := 48) (3) (0) (List.length K) _ (List.length K) q1 q2 q3)
        refine kp 79 (.pointer (some ⟨2, 1, none⟩)) ?_
        refine ld (.tuple #[]) (2) (Blk.mk 34 true [Value.int .i64 N, Value.slice (some ⟨6, 0, none⟩) (List.length K + 1) (List.length K + 1)]) ?_
        refine WpOps.nil (blockK_norm (thenK_at (Wp.text ?_)))
        refine kp 51 (.int IntKind.i64 (↑k : Int)) ?_
        refine kp 52 (.int IntKind.i64 (IntKind.wrap .i64 ((↑k : Int) + 1))) ?_
        refine kp 12 (.int IntKind.i64 (IntKind.wrap .i64 ((↑k : Int) + 1))) ?_
        refine WpOps.nil (thenK_at ?_)
        refine ⟨k + 1, by omega, by omega, ?_⟩
        try dsimp only
        rw [hm, ha, Bool.or_true]
        rw [oV_own (nz_len _), oB_own (nz_len _)]
        have hlen : (K ++ [(l.1, l.2.1, c)]).length = K.length + 1 := by simp
        exact View.of [0, 1, 2, 6] [⟨34, true, [.int .i64 N, lks x ls]⟩, ⟨34, true, [.int .i64 0, .slice none 0 0]⟩, ⟨34, true, [.int .i64 N, .slice (some ⟨3, 0, none⟩) (K ++ [(l.1, l.2.1, c)]).length (K ++ [(l.1, l.2.1, c)]).length]⟩, ⟨48, true, lcs (K ++ [(l.1, l.2.1, c)])⟩] _ (by decide) rfl ⟨⟨_, by kernel_rfl, CellsOk.eq rfl (by kernel_rfl)⟩, ⟨_, by kernel_rfl, CellsOk.eq rfl (by kernel_rfl)⟩, ⟨[.int .i64 N, .slice (some ⟨6, 0, none⟩) (K.length + 1) (K.length + 1)], by kernel_rfl, by rw [hlen]; rfl, by rw [hlen]; rfl⟩, ⟨_, by kernel_rfl, CellsOk.eq hsn (lcs_flat _)⟩, trivial⟩ ⟨⟨by kernel_rfl, rfl⟩, ⟨by kernel_rfl, rfl⟩, ⟨by kernel_rfl, rfl⟩, ⟨by kernel_rfl, rfl⟩, ⟨by kernel_rfl, rfl⟩, ⟨by kernel_rfl, rfl⟩, ⟨by kernel_rfl, rfl⟩, ⟨congrArg (Value.int .i64) (wr _ (by omega) (by omega)), rfl⟩, trivial⟩
      | false =>
        rw [hp] at hb71' hm ha
        obtain rfl : b71 = false := hb71'
        rw [if_neg (by decide)] at hm
        have hsn := lcs_snoc K l
        refine off' (Wp.skip (thenK_at (Wp.text ?_)))
        refine kp 74 (.pointer (some ⟨2, 1, none⟩)) ?_
        refine kp 75 (.slice (some ⟨3, 0, none⟩) (List.length K) (List.length K)) ?_
        refine kp 76 (.agg #[Value.int .i64 (Prod.fst l), Value.int .i64 (Prod.fst (Prod.snd l)), Value.int .i64 (Prod.snd (Prod.snd l))]) ?_
        refine md 77 (.slice (some ⟨5, 0, none⟩) 1 1) (Blk.mk 48 true [Value.int .i64 (Prod.fst l), Value.int .i64 (Prod.fst (Prod.snd l)), Value.int .i64 (Prod.snd (Prod.snd l))]) ?_
        refine ra 78 (.slice (some ⟨6, 0, none⟩) (List.length K + 1) (List.length K + 1)) (3) (Blk.mk 48 true (lcs K ++ [Value.int .i64 (Prod.fst l), Value.int .i64 (Prod.fst (Prod.snd l)), Value.int .i64 (Prod.snd (Prod.snd l))])) ?_ (hop := fun _ => o_append (e := 48) (3) (0) (List.length K) _ (List.length K) q1 q2 q3)
        refine kp 79 (.pointer (some ⟨2, 1, none⟩)) ?_
        refine ld (.tuple #[]) (2) (Blk.mk 34 true [Value.int .i64 N, Value.slice (some ⟨6, 0, none⟩) (List.length K + 1) (List.length K + 1)]) ?_
        refine WpOps.nil (blockK_norm (thenK_at (Wp.text ?_)))
        refine kp 51 (.int IntKind.i64 (↑k : Int)) ?_
        refine kp 52 (.int IntKind.i64 (IntKind.wrap .i64 ((↑k : Int) + 1))) ?_
        refine kp 12 (.int IntKind.i64 (IntKind.wrap .i64 ((↑k : Int) + 1))) ?_
        refine WpOps.nil (thenK_at ?_)
        refine ⟨k + 1, by omega, by omega, ?_⟩
        try dsimp only
        rw [hm, ha, Bool.or_false]
        rw [oV_own (nz_len _), oB_own (nz_len _)]
        have hlen : (K ++ [l]).length = K.length + 1 := by simp
        exact View.of [0, 1, 2, 6] [⟨34, true, [.int .i64 N, lks x ls]⟩, ⟨34, true, [.int .i64 0, .slice none 0 0]⟩, ⟨34, true, [.int .i64 N, .slice (some ⟨3, 0, none⟩) (K ++ [l]).length (K ++ [l]).length]⟩, ⟨48, true, lcs (K ++ [l])⟩] _ (by decide) rfl ⟨⟨_, by kernel_rfl, CellsOk.eq rfl (by kernel_rfl)⟩, ⟨_, by kernel_rfl, CellsOk.eq rfl (by kernel_rfl)⟩, ⟨[.int .i64 N, .slice (some ⟨6, 0, none⟩) (K.length + 1) (K.length + 1)], by kernel_rfl, by rw [hlen]; rfl, by rw [hlen]; rfl⟩, ⟨_, by kernel_rfl, CellsOk.eq hsn (lcs_flat _)⟩, trivial⟩ ⟨⟨by kernel_rfl, rfl⟩, ⟨by kernel_rfl, rfl⟩, ⟨by kernel_rfl, rfl⟩, ⟨by kernel_rfl, rfl⟩, ⟨by kernel_rfl, rfl⟩, ⟨by kernel_rfl, rfl⟩, ⟨by kernel_rfl, rfl⟩, ⟨congrArg (Value.int .i64) (wr _ (by omega) (by omega)), rfl⟩, trivial⟩
  · obtain rfl : k = ls.length := by omega
    have d1 : decide (((ls.length : Nat) : Int) < ls.length) = false := decide_eq_false (by omega)
    rw [List.take_length]
    unfold joinR
    have hml := mapL_len a b c ls
    generalize mapL a b c ls = K at hml ⊢
    generalize ls.any (hit a b) = dn
    cases dn with
    | true =>
      rw [if_pos rfl]
      by_cases h0 : K.length = 0
      · have hK := List.eq_nil_of_length_eq_zero h0
        unfold oN
        rw [oV_z h0, oB_z h0]
        subst hK
        unfold lks
        refine Wp.seq (Wp.seq (Wp.text ?_))
        refine kp 46 (.int IntKind.i64 (↑(List.length ls) : Int)) ?_
        refine kp 47 (.pointer (some ⟨0, 1, none⟩)) ?_
        refine kp 48 (.iface 48 (Value.iface (List.length ls) (Value.iface x (Value.agg (List.toArray (lcs ls)))))) ?_
        refine kp 49 (.int IntKind.i64 (↑(List.length ls) : Int)) ?_
        refine kp 50 (.bool false) ?_ (hop := fun _ => by_fact d1)
        refine WpOps.nil (thenK_at (off' (Wp.exit (thenK_exit (thenK_exit (blockK_hit (thenK_at (Wp.seq (Wp.seq (Wp.text ?_))))))))))
        refine kp 80 (.bool true) ?_
        refine kp 81 (.bool false) ?_
        refine WpOps.nil (thenK_at (off' (Wp.skip (thenK_at (Wp.seq (Wp.text ?_))))))
        refine kp 95 (.agg #[Value.int .i64 N, Value.slice none 0 0]) ?_
        refine ld (.tuple #[]) (1) (Blk.mk 34 true [Value.int .i64 N, Value.slice none 0 0]) ?_
        refine kp 9 (.int IntKind.i64 0) ?_
        refine WpOps.nil (thenK_at (Wp.ret ?_))
        refine endK_retn [Value.agg #[Value.int IntKind.i64 N, Value.slice none 0 0], Value.int IntKind.i64 0] (Value.tuple #[Value.agg #[Value.int IntKind.i64 N, Value.slice none 0 0], Value.int IntKind.i64 0]) (by kernel_rfl) (by kernel_rfl) ?_
        obtain ⟨ti, ht⟩ := E48
        exact ⟨_, by kernel_rfl, .tuple (.cons (.agg (.cons (.inl rfl) (.cons (.inr ⟨rfl, 48, ti, ht, rfl⟩) .nil))) (.cons (.c (.inl rfl)) .nil))⟩
      · unfold oN
        rw [oV_own h0, oB_own h0]
        unfold lks
        refine Wp.seq (Wp.seq (Wp.text ?_))
        refine kp 46 (.int IntKind.i64 (↑(List.length ls) : Int)) ?_
        refine kp 47 (.pointer (some ⟨0, 1, none⟩)) ?_
        refine kp 48 (.iface 48 (Value.iface (List.length ls) (Value.iface x (Value.agg (List.toArray (lcs ls)))))) ?_
        refine kp 49 (.int IntKind.i64 (↑(List.length ls) : Int)) ?_
        refine kp 50 (.bool false) ?_ (hop := fun _ => by_fact d1)
        refine WpOps.nil (thenK_at (off' (Wp.exit (thenK_exit (thenK_exit (blockK_hit (thenK_at (Wp.seq (Wp.seq (Wp.text ?_))))))))))
        refine kp 80 (.bool true) ?_
        refine kp 81 (.bool false) ?_
        refine WpOps.nil (thenK_at (off' (Wp.skip (thenK_at (Wp.seq (Wp.text ?_))))))
        refine kp 95 (.agg #[Value.int .i64 N, Value.slice (some ⟨3, 0, none⟩) (List.length K) (List.length K)]) ?_
        refine ld (.tuple #[]) (1) (Blk.mk 34 true [Value.int .i64 N, Value.slice (some ⟨3, 0, none⟩) (List.length K) (List.length K)]) ?_
        refine kp 9 (.int IntKind.i64 0) ?_
        refine WpOps.nil (thenK_at (Wp.ret ?_))
        refine endK_retn [Value.agg #[Value.int IntKind.i64 N, Value.slice (some (Addr.mk 3 0 none)) (List.length K) (List.length K)], Value.int IntKind.i64 0] (Value.tuple #[Value.agg #[Value.int IntKind.i64 N, Value.slice (some (Addr.mk 3 0 none)) (List.length K) (List.length K)], Value.int IntKind.i64 0]) (by kernel_rfl) (by kernel_rfl) ?_
        refine ⟨_, net_ice (links_ice (b := 3) (ls := K) (z := []) (by rw [List.append_nil]; rfl)) rfl, ?_⟩
        unfold xOf
        rw [if_neg h0]
        exact .w (.c (.inl rfl))
    | false =>
      rw [if_neg (by decide)]
      have hsn := lcs_snoc K (mn a b, mx a b, c)
      have hl : K.length + 1 = (K ++ [(mn a b, mx a b, c)]).length := by simp
      have hx : xOf (K ++ [(mn a b, mx a b, c)]) = 0 := if_neg (nz_len _)
      rw [hx]
      unfold mn mx at *
      by_cases h0 : K.length = 0
      · have hK := List.eq_nil_of_length_eq_zero h0
        unfold oN
        rw [oV_z h0, oB_z h0]
        subst hK
        unfold lks
        refine Wp.seq (Wp.seq (Wp.text ?_))
        refine kp 46 (.int IntKind.i64 (↑(List.length ls) : Int)) ?_
        refine kp 47 (.pointer (some ⟨0, 1, none⟩)) ?_
        refine kp 48 (.iface 48 (Value.iface (List.length ls) (Value.iface x (Value.agg (List.toArray (lcs ls)))))) ?_
        refine kp 49 (.int IntKind.i64 (↑(List.length ls) : Int)) ?_
        refine kp 50 (.bool false) ?_ (hop := fun _ => by_fact d1)
        refine WpOps.nil (thenK_at (off' (Wp.exit (thenK_exit (thenK_exit (blockK_hit (thenK_at (Wp.seq (Wp.seq (Wp.text ?_))))))))))
        refine kp 80 (.bool false) ?_
        refine kp 81 (.bool true) ?_
        refine WpOps.nil (thenK_at (on' (Wp.text ?_)))
        refine kp 82 (.pointer (some ⟨2, 1, none⟩)) ?_
        refine kp 83 (.slice none 0 0) ?_
        refine kp 84 (.int IntKind.i64 a) ?_
        refine kp 85 (.int IntKind.i64 b) ?_
        refine kp 86 (.int IntKind.i64 (if b < a then b else a)) ?_
        refine kp 87 (.int IntKind.i64 a) ?_
        refine kp 88 (.int IntKind.i64 b) ?_
        refine kp 89 (.int IntKind.i64 (if b > a then b else a)) ?_
        refine kp 90 (.int IntKind.i64 c) ?_
        refine kp 91 (.agg #[Value.int .i64 (if b < a then b else a), Value.int .i64 (if b > a then b else a), Value.int .i64 c]) ?_
        refine md 92 (.slice (some ⟨3, 0, none⟩) 1 1) (Blk.mk 48 true [Value.int .i64 (if b < a then b else a), Value.int .i64 (if b > a then b else a), Value.int .i64 c]) ?_
        refine md 93 (.slice (some ⟨4, 0, none⟩) 1 1) (Blk.mk 48 true [Value.int .i64 (if b < a then b else a), Value.int .i64 (if b > a then b else a), Value.int .i64 c]) ?_
        refine kp 94 (.pointer (some ⟨2, 1, none⟩)) ?_
        refine ld (.tuple #[]) (2) (Blk.mk 34 true [Value.int .i64 N, Value.slice (some ⟨4, 0, none⟩) 1 1]) ?_
        refine WpOps.nil (thenK_at (Wp.seq (Wp.text ?_)))
        refine kp 95 (.agg #[Value.int .i64 N, Value.slice (some ⟨4, 0, none⟩) 1 1]) ?_
        refine ld (.tuple #[]) (1) (Blk.mk 34 true [Value.int .i64 N, Value.slice (some ⟨4, 0, none⟩) 1 1]) ?_
        refine kp 9 (.int IntKind.i64 0) ?_
        refine WpOps.nil (thenK_at (Wp.ret ?_))
        refine endK_retn [Value.agg #[Value.int IntKind.i64 N, Value.slice (some (Addr.mk 4 0 none)) 1 1], Value.int IntKind.i64 0] (Value.tuple #[Value.agg #[Value.int IntKind.i64 N, Value.slice (some (Addr.mk 4 0 none)) 1 1], Value.int IntKind.i64 0]) (by kernel_rfl) (by kernel_rfl) ?_
        exact ⟨_, net_ice (links_ice (ls := [((if b < a then b else a), (if b > a then b else a), c)]) (z := []) (by kernel_rfl)) rfl, .w (.c (.inl rfl))⟩
      · unfold oN
        rw [oV_own h0, oB_own h0]
        unfold lks
        have q1 : ¬ (K.length + 1 ≤ K.length) := by omega
        have q2 : 1 ≤ 24 ∧ (K.length + 1) * 24 ≤ 140737488355328 ∧ 3 = 3 ∧ K.length + 1 ≤ 9223372036854775807 := by omega
        have q3 := cells_whole (lcs K) (K.length * 3) (lcs_len K)
        refine Wp.seq (Wp.seq (Wp.text ?_))
        refine kp 46 (.int IntKind.i64 (↑(List.length ls) : Int)) ?_
        refine kp 47 (.pointer (some ⟨0, 1, none⟩)) ?_
        refine kp 48 (.iface 48 (Value.iface (List.length ls) (Value.iface x (Value.agg (List.toArray (lcs ls)))))) ?_
        refine kp 49 (.int IntKind.i64 (↑(List.length ls) : Int)) ?_
        refine kp 50 (.bool false) ?_ (hop := fun _ => by_fact d1)
        refine WpOps.nil (thenK_at (off' (Wp.exit (thenK_exit (thenK_exit (blockK_hit (thenK_at (Wp.seq (Wp.seq (Wp.text ?_))))))))))
        refine kp 80 (.bool false) ?_
        refine kp 81 (.bool true) ?_
        refine WpOps.nil (thenK_at (on' (Wp.text ?_)))
        refine kp 82 (.pointer (some ⟨2, 1, none⟩)) ?_
        refine kp 83 (.slice (some ⟨3, 0, none⟩) (List.length K) (List.length K)) ?_
        refine kp 84 (.int IntKind.i64 a) ?_
        refine kp 85 (.int IntKind.i64 b) ?_
        refine kp 86 (.int IntKind.i64 (if b < a then b else a)) ?_
        refine kp 87 (.int IntKind.i64 a) ?_
        refine kp 88 (.int IntKind.i64 b) ?_
        refine kp 89 (.int IntKind.i64 (if b > a then b else a)) ?_
        refine kp 90 (.int IntKind.i64 c) ?_
        refine kp 91 (.agg #[Value.int .i64 (if b < a then b else a), Value.int .i64 (if b > a then b else a), Value.int .i64 c]) ?_
        refine md 92 (.slice (some ⟨4, 0, none⟩) 1 1) (Blk.mk 48 true [Value.int .i64 (if b < a then b else a), Value.int .i64 (if b > a then b else a), Value.int .i64 c]) ?_
        refine ra 93 (.slice (some ⟨5, 0, none⟩) (List.length K + 1) (List.length K + 1)) (3) (Blk.mk 48 true (lcs K ++ [Value.int .i64 (if b < a then b else a), Value.int .i64 (if b > a then b else a), Value.int .i64 c])) ?_ (hop := fun _ => o_append (e := 48) (3) (0) (List.length K) _ (List.length K) q1 q2 q3)
        refine kp 94 (.pointer (some ⟨2, 1, none⟩)) ?_
        refine ld (.tuple #[]) (2) (Blk.mk 34 true [Value.int .i64 N, Value.slice (some ⟨5, 0, none⟩) (List.length K + 1) (List.length K + 1)]) ?_
        refine WpOps.nil (thenK_at (Wp.seq (Wp.text ?_)))
        refine kp 95 (.agg #[Value.int .i64 N, Value.slice (some ⟨5, 0, none⟩) (List.length K + 1) (List.length K + 1)]) ?_
        refine ld (.tuple #[]) (1) (Blk.mk 34 true [Value.int .i64 N, Value.slice (some ⟨5, 0, none⟩) (List.length K + 1) (List.length K + 1)]) ?_
        refine kp 9 (.int IntKind.i64 0) ?_
        refine WpOps.nil (thenK_at (Wp.ret ?_))
        refine endK_retn [Value.agg #[Value.int IntKind.i64 N, Value.slice (some (Addr.mk 5 0 none)) (List.length K + 1) (List.length K + 1)], Value.int IntKind.i64 0] (Value.tuple #[Value.agg #[Value.int IntKind.i64 N, Value.slice (some (Addr.mk 5 0 none)) (List.length K + 1) (List.length K + 1)], Value.int IntKind.i64 0]) (by kernel_rfl) (by kernel_rfl) ?_
        rw [hl]
        exact ⟨_, net_ice (links_ice (ls := K ++ [((if b < a then b else a), (if b > a then b else a), c)]) (z := []) (by rw [List.append_nil]; exact congrArg (fun z => some (Blk.mk 48 true z)) hsn)) rfl, .w (.c (.inl rfl))⟩
open Go.Fw Go.RowKit

/-! ## validity in plain terms -/
def distL : List Lk → Prop
  | [] => True
  | l :: r => (∀ m ∈ r, sameE l m = false) ∧ distL r
theorem distL_of : ∀ (ls : List Lk), (∀ k, k < ls.length → ∀ j, j < k → sameE (lk ls j) (lk ls k) = false) → distL ls
  | [], _ => trivial
  | l :: r, h => by
    refine ⟨fun m hm => ?_, distL_of r fun k hk j hj => ?_⟩
    · obtain ⟨k, hk, rfl⟩ := lk_mem hm
      have := h (k + 1) (by simp; omega) 0 (by omega)
      exact this
    · have := h (k + 1) (by simp; omega) (j + 1) (by omega)
      exact this
theorem of_distL : ∀ {ls : List Lk}, distL ls → ∀ k, k < ls.length → ∀ j, j < k → sameE (lk ls j) (lk ls k) = false
  | [], _, k, hk, _, _ => absurd hk (Nat.not_lt_zero _)
  | l :: r, ⟨h1, h2⟩, 0, _, j, hj => absurd hj (Nat.not_lt_zero _)
  | l :: r, ⟨h1, h2⟩, k + 1, hk, 0, hj => by
    have hk' : k < r.length := by simpa using hk
    refine h1 (lk r k) ?_
    unfold lk
    rw [List.getD_eq_getElem?_getD, List.getElem?_eq_getElem hk']
    exact List.getElem_mem _
  | l :: r, ⟨h1, h2⟩, k + 1, hk, j + 1, hj => of_distL h2 k (by simpa using hk) j (by omega)
theorem distL_filter {p : Lk → Bool} : ∀ {ls : List Lk}, distL ls → distL (ls.filter p)
  | [], _ => trivial
  | l :: r, ⟨h1, h2⟩ => by
    rw [List.filter_cons]
    split
    · exact ⟨fun m hm => h1 m (List.mem_filter.1 hm).1, distL_filter h2⟩
    · exact distL_filter h2
theorem valid_iff {N : Int} {ls : List Lk} : valid N ls = true ↔ (1 ≤ N ∧ N ≤ 20) ∧ (∀ l ∈ ls, okB N l = true) ∧ distL ls := by
  constructor
  · intro h
    unfold valid at h
    simp only [Bool.and_eq_true, decide_eq_true_eq] at h
    obtain ⟨h1, h3⟩ := h
    have hk : ∀ k, k < ls.length → okB N (lk ls k) = true ∧ ∀ j, j < k → sameE (lk ls j) (lk ls k) = false := fun k hk => by
      have := allR_at h3 hk
      unfold linkB at this
      rw [Bool.and_eq_true] at this
      refine ⟨this.1, fun j hj => ?_⟩
      have h4 := allR_at this.2 hj
      simpa using h4
    refine ⟨h1, fun l hl => ?_, distL_of ls fun k hk2 => (hk k hk2).2⟩
    obtain ⟨k, hk2, rfl⟩ := lk_mem hl
    exact (hk k hk2).1
  · rintro ⟨h1, h2, h3⟩
    unfold valid
    simp only [Bool.and_eq_true, decide_eq_true_eq]
    refine ⟨h1, allR_true fun k hk => ?_⟩
    unfold linkB
    rw [Bool.and_eq_true]
    refine ⟨h2 _ ?_, allR_true fun j hj => ?_⟩
    · unfold lk
      rw [List.getD_eq_getElem?_getD, List.getElem?_eq_getElem hk]
      exact List.getElem_mem _
    · rw [of_distL h3 k hk j hj]
      rfl
theorem valid_cut {N : Int} {ls : List Lk} {P : Lk → Bool} (h : valid N ls = true) : valid N (cutL P ls) = true := by
  obtain ⟨h1, h2, h3⟩ := valid_iff.1 h
  exact valid_iff.2 ⟨h1, fun l hl => h2 l (List.mem_filter.1 hl).1, distL_filter h3⟩
theorem hit_self {l : Lk} (h : l.1 < l.2.1) : hit l.1 l.2.1 l = true := by
  unfold hit
  rw [if_neg (by omega), if_pos (by omega)]
  simp
theorem below_len : ∀ (n : Nat) (l : List Nat), l.Nodup → (∀ x ∈ l, x < n) → l.length ≤ n
  | 0, l, _, h => by
    cases l with
    | nil => exact Nat.le_refl _
    | cons a r => exact absurd (h a (by simp)) (Nat.not_lt_zero _)
  | n + 1, l, hn, h => by
    have h1 := below_len n (l.erase n) (hn.erase n) fun x hx => by
      have h2 := (hn.mem_erase_iff).1 hx
      have := h x h2.2
      have := h2.1
      omega
    have h2 : l.length ≤ (l.erase n).length + 1 := by
      rw [List.length_erase]
      split <;> omega
    omega
theorem sameE_iff {l m : Lk} : sameE l m = true ↔ l.1 = m.1 ∧ l.2.1 = m.2.1 := by
  unfold sameE
  simp
theorem okB_parts {N : Int} {l : Lk} (h : okB N l = true) : 0 ≤ l.1 ∧ l.1 < l.2.1 ∧ l.2.1 < N ∧ 1 ≤ l.2.2 ∧ l.2.2 ≤ 15 := by
  unfold okB at h
  simp only [Bool.and_eq_true, decide_eq_true_eq] at h
  exact ⟨h.1.1.1.1, h.1.1.1.2, h.1.1.2, h.1.2, h.2⟩
theorem distL_keys {N : Int} (hN : N ≤ 20) : ∀ {ls : List Lk}, distL ls → (∀ l ∈ ls, okB N l = true) → (ls.map fun l : Lk => (l.1 * 20 + l.2.1).toNat).Nodup
  | [], _, _ => List.nodup_nil
  | l :: r, ⟨h1, h2⟩, h => by
    rw [List.map_cons, List.nodup_cons]
    refine ⟨fun hm => ?_, distL_keys hN h2 fun m hm => h m (List.mem_cons_of_mem _ hm)⟩
    obtain ⟨m, hm, e⟩ := List.mem_map.1 hm
    have a1 := okB_parts (h l (by simp))
    have a2 := okB_parts (h m (List.mem_cons_of_mem _ hm))
    have h3 := h1 m hm
    have : sameE l m = true := sameE_iff.2 (by omega)
    rw [this] at h3
    cases h3
theorem valid_len {N : Int} {ls : List Lk} (h : valid N ls = true) : ls.length ≤ 400 := by
  obtain ⟨hN, h1, h2⟩ := valid_iff.1 h
  have := below_len 400 _ (distL_keys hN.2 h2 h1) fun x hx => by
    obtain ⟨m, hm, rfl⟩ := List.mem_map.1 hx
    have := okB_parts (h1 m hm)
    omega
  simpa using this
theorem hit_ends {a b : Int} {l : Lk} : hit a b l = true ↔ l.1 = mn a b ∧ l.2.1 = mx a b := by
  unfold hit mn mx
  cases h : (l.1 == (if b < a then b else a))
  · simp only [cond_false]
    simp at h
    simp [h]
  · simp only [cond_true]
    simp at h
    simp [h]
theorem hit_swap (a b : Int) : hit b a = hit a b := by
  have e1 : mn b a = mn a b := by unfold mn; split <;> split <;> omega
  have e2 : mx b a = mx a b := by unfold mx; split <;> split <;> omega
  funext l
  show hitP (mn b a) (mx b a) l = hitP (mn a b) (mx a b) l
  rw [e1, e2]
theorem hit_new (a b c : Int) : hit a b (mn a b, mx a b, c) = true := hit_ends.2 ⟨rfl, rfl⟩
theorem hit_cost (a b c : Int) (l : Lk) : hit a b (l.1, l.2.1, c) = hit a b l := rfl
theorem mapL_none {a b c : Int} {ls : List Lk} (h : ∀ l ∈ ls, hit a b l = false) : mapL a b c ls = ls := by
  unfold mapL
  conv => rhs; rw [← List.map_id ls]
  refine List.map_congr_left fun l hl => ?_
  rw [h l hl, if_neg (by decide)]
  rfl
/-- Both Joins are one. -/
theorem joinL_is {a b c : Int} {ls : List Lk} (hd : distL ls) : joinL a b c ls = joinR a b c ls := by
  unfold joinL joinR
  cases e : ls.findIdx? (hit a b) with
  | none =>
    have h0 := List.findIdx?_eq_none_iff.1 e
    have h1 : ls.any (hit a b) = false := by
      rw [List.any_eq_false]
      intro l hl
      rw [h0 l hl]
      decide
    rw [h1, mapL_none h0]
    rfl
  | some k =>
    obtain ⟨hk, hp, hq⟩ := List.findIdx?_eq_some_iff_getElem.1 e
    have h1 : ls.any (hit a b) = true := List.any_eq_true.2 ⟨_, List.getElem_mem hk, hp⟩
    rw [if_pos h1]
    have hp2 := hit_ends.1 hp
    apply List.ext_getElem?
    intro j
    unfold mapL
    rw [List.getElem?_map, List.getElem?_set]
    by_cases hj : k = j
    · subst hj
      rw [if_pos rfl, if_pos hk, List.getElem?_eq_getElem hk]
      show _ = some (if hit a b ls[k] = true then (ls[k].1, ls[k].2.1, c) else ls[k])
      rw [if_pos hp, hp2.1, hp2.2]
    · rw [if_neg hj]
      by_cases hlt : j < ls.length
      · rw [List.getElem?_eq_getElem hlt]
        show _ = some (if hit a b ls[j] = true then (ls[j].1, ls[j].2.1, c) else ls[j])
        have hn : hit a b ls[j] = false := by
          cases hh : hit a b ls[j] with
          | false => rfl
          | true =>
            exfalso
            have hh2 := hit_ends.1 hh
            have e1 : lk ls j = ls[j] := by simp [lk, List.getD_eq_getElem?_getD, List.getElem?_eq_getElem hlt]
            have e2 : lk ls k = ls[k] := by simp [lk, List.getD_eq_getElem?_getD, List.getElem?_eq_getElem hk]
            have hs : ∀ {x y : Lk}, x.1 = mn a b ∧ x.2.1 = mx a b → y.1 = mn a b ∧ y.2.1 = mx a b → sameE x y = true := fun hx hy => sameE_iff.2 ⟨hx.1.trans hy.1.symm, hx.2.trans hy.2.symm⟩
            rcases Nat.lt_or_gt_of_ne hj with h | h
            · have h3 := of_distL hd j hlt k h
              rw [e1, e2, hs hp2 hh2] at h3
              cases h3
            · have h3 := of_distL hd k hk j h
              rw [e1, e2, hs hh2 hp2] at h3
              cases h3
        rw [hn, if_neg (by decide)]
      · rw [List.getElem?_eq_none (by omega)]
        rfl
theorem distL_map {f : Lk → Lk} (hf : ∀ l, (f l).1 = l.1 ∧ (f l).2.1 = l.2.1) : ∀ {ls : List Lk}, distL ls → distL (ls.map f)
  | [], _ => trivial
  | l :: r, ⟨h1, h2⟩ => ⟨fun m hm => by
      obtain ⟨m', hm', rfl⟩ := List.mem_map.1 hm
      have := h1 m' hm'
      unfold sameE at this ⊢
      rw [(hf l).1, (hf l).2, (hf m').1, (hf m').2]
      exact this, distL_map hf h2⟩
theorem distL_snoc {x : Lk} : ∀ {ls : List Lk}, distL ls → (∀ l ∈ ls, sameE l x = false) → distL (ls ++ [x])
  | [], _, _ => ⟨fun m hm => (List.not_mem_nil hm).elim, trivial⟩
  | l :: r, ⟨h1, h2⟩, h => ⟨fun m hm => by
      rcases List.mem_append.1 hm with hm | hm
      · exact h1 m hm
      · rw [List.mem_singleton.1 hm]
        exact h l (by simp), distL_snoc h2 fun m hm => h m (List.mem_cons_of_mem _ hm)⟩
theorem new_ok {N a b c : Int} (h : okJoin true N a b c = true) : okB N (mn a b, mx a b, c) = true := by
  obtain ⟨_, h1, h2, h3, h4, h5⟩ := okJoin_parts h
  have h3' : a ≠ b := by simpa using h3
  have e : ∀ {v : Int}, nodeB N v = true → 0 ≤ v ∧ v < N := fun {v} hv => by
    unfold nodeB at hv
    by_cases hx : v ≥ 0
    · rw [decide_eq_true hx] at hv
      simp at hv
      exact ⟨hx, hv⟩
    · rw [decide_eq_false hx] at hv
      cases hv
  have a1 := e h1
  have a2 := e h2
  unfold okB mn mx
  simp only [Bool.and_eq_true, decide_eq_true_eq]
  refine ⟨⟨⟨⟨?_, ?_⟩, ?_⟩, h4⟩, h5⟩
  · split <;> omega
  · split <;> split <;> omega
  · split <;> omega
theorem valid_join {N a b c : Int} {ls : List Lk} (h : valid N ls = true) (hj : okJoin true N a b c = true) : valid N (joinR a b c ls) = true := by
  obtain ⟨hN, h1, h2⟩ := valid_iff.1 h
  have hm : ∀ l ∈ mapL a b c ls, okB N l = true := fun l hl => by
    obtain ⟨m, hm, rfl⟩ := List.mem_map.1 hl
    have a1 := okB_parts (h1 m hm)
    obtain ⟨_, _, _, _, h4, h5⟩ := okJoin_parts hj
    split
    · unfold okB
      simp only [Bool.and_eq_true, decide_eq_true_eq]
      exact ⟨⟨⟨⟨a1.1, a1.2.1⟩, a1.2.2.1⟩, h4⟩, h5⟩
    · exact h1 m hm
  have hd : distL (mapL a b c ls) := distL_map (fun l => by split <;> exact ⟨rfl, rfl⟩) h2
  unfold joinR
  split
  · exact valid_iff.2 ⟨hN, hm, hd⟩
  · rename_i hn
    have hn2 : ∀ l ∈ ls, hit a b l = false := fun l hl => by
      have := List.any_eq_false.1 (by simpa using hn : ls.any (hit a b) = false) l hl
      simpa using this
    rw [mapL_none hn2] at hm hd ⊢
    refine valid_iff.2 ⟨hN, fun l hl => ?_, distL_snoc hd fun l hl => ?_⟩
    · rcases List.mem_append.1 hl with hl | hl
      · exact hm l hl
      · rw [List.mem_singleton.1 hl]
        exact new_ok hj
    · cases hs : sameE l (mn a b, mx a b, c) with
      | false => rfl
      | true =>
        exfalso
        have := hit_ends.2 (sameE_iff.1 hs)
        rw [hn2 l hl] at this
        cases this
theorem cut_join (a b c : Int) (ls : List Lk) : cutL (hit a b) (joinR a b c ls) = cutL (hit a b) ls := by
  have hm : ∀ ls : List Lk, cutL (hit a b) (mapL a b c ls) = cutL (hit a b) ls := fun ls => by
    induction ls with
    | nil => rfl
    | cons l r ih =>
      unfold cutL mapL at ih ⊢
      rw [List.map_cons, List.filter_cons, List.filter_cons, ih]
      cases h : hit a b l with
      | true => rw [if_pos rfl, hit_cost, h]; rfl
      | false => rw [if_neg Bool.false_ne_true, h]
  unfold joinR
  split
  · exact hm ls
  · have : cutL (hit a b) (mapL a b c ls ++ [(mn a b, mx a b, c)]) = cutL (hit a b) (mapL a b c ls) := by
      unfold cutL
      rw [List.filter_append, List.filter_cons, hit_new]
      simp
    rw [this, hm]
theorem find_join (a b c : Int) (ls : List Lk) : (joinR a b c ls).find? (hit a b) ≠ none := by
  intro e
  have h := List.find?_eq_none.1 e
  unfold joinR at h
  split at h
  · rename_i hn
    obtain ⟨l, hl, hh⟩ := List.any_eq_true.1 hn
    refine h (l.1, l.2.1, c) ?_ hh
    unfold mapL
    refine List.mem_map.2 ⟨l, hl, ?_⟩
    rw [if_pos hh]
  · exact h (mn a b, mx a b, c) (by simp) (hit_new a b c)
theorem self_find : ∀ {ls : List Lk} {l : Lk}, distL ls → l ∈ ls → l.1 < l.2.1 → ls.find? (hit l.1 l.2.1) = some l
  | m :: r, l, ⟨h1, h2⟩, hl, hlt => by
    have hself := hit_self hlt
    have hends := hit_ends.1 hself
    rw [List.find?_cons]
    cases hh : hit l.1 l.2.1 m with
    | true =>
      have he := hit_ends.1 hh
      rcases List.mem_cons.1 hl with rfl | hl
      · rfl
      · exfalso
        have := h1 l hl
        rw [sameE_iff.2 ⟨he.1.trans hends.1.symm, he.2.trans hends.2.symm⟩] at this
        cases this
    | false =>
      rcases List.mem_cons.1 hl with rfl | hl
      · rw [hself] at hh
        cases hh
      · exact self_find h2 hl hlt
theorem self_cost {N : Int} {ls : List Lk} (h : valid N ls = true) : ∀ k, k < ls.length → costF ls (ls.getD k (0, 0, 0)).1 (ls.getD k (0, 0, 0)).2.1 = (ls.getD k (0, 0, 0)).2.2 := by
  obtain ⟨_, h1, h2⟩ := valid_iff.1 h
  intro k hk
  rw [getD_lt hk]
  have hm := List.getElem_mem hk
  unfold costF
  rw [self_find h2 hm (okB_parts (h1 _ hm)).2.1]
theorem cost_none {ls : List Lk} {a b : Int} (h : ls.find? (hit a b) = none) : costF ls a b = 0 := by
  unfold costF
  rw [h]
theorem cost_some {N : Int} {ls : List Lk} {a b : Int} (hv : valid N ls = true) (h : ls.find? (hit a b) ≠ none) : (costF ls a b == 0) = false := by
  unfold costF
  cases e : ls.find? (hit a b) with
  | none => exact absurd e h
  | some l =>
    have := okB_parts ((valid_iff.1 hv).2.1 l (List.mem_of_find?_eq_some e))
    show (l.2.2 == 0) = false
    exact beq_eq_false_iff_ne.2 (by omega)
theorem cut_none {ls : List Lk} {a b : Int} (h : ls.find? (hit a b) = none) : cutL (hit a b) ls = ls := by
  unfold cutL
  rw [List.filter_eq_self]
  intro l hl
  have := List.find?_eq_none.1 h l hl
  simpa using this
theorem okJoin_cut {ok : Bool} {N a b c : Int} (h : okCut ok N a b = false) : okJoin ok N a b c = false := by
  unfold okCut at h
  unfold okJoin
  rw [h]
  rfl
theorem okCut_swap {ok : Bool} {N a b : Int} (h : okCut ok N a b = true) : okCut ok N b a = true := by
  obtain ⟨h0, h1, h2, h3⟩ := okCut_parts h
  have : (b == a) = false := by
    have h4 : a ≠ b := by simpa using h3
    exact beq_eq_false_iff_ne.2 fun e => h4 e.symm
  unfold okCut
  rw [h0, h1, h2, this]
  rfl
open Go.Fw Go.RowKit

/-- A net, a link. -/
def caseV (N : Int) (x : Nat) (ls : List Lk) (a b c : Int) : Value := .agg #[.int .i64 N, lks x ls, .int .i64 a, .int .i64 b, .int .i64 c]
theorem f8 : E.funcs 8 = some Try.f8 := by kernel_rfl
theorem same35_0 (x : Nat) : Fun E 35 [netV 0 0 [], netV 0 x []] (.bool true) := same35 0 0 x [] (by decide) (fun k hk => absurd hk (Nat.not_lt_zero _))
theorem to14_0 : Fun E 14 [netV 0 2 []] (netV 0 0 []) := to14 0 2 [] (by decide)
set_option maxHeartbeats 8000000 in
theorem law8_bad (N : Int) (x : Nat) (ls : List Lk) (a b c : Int) (t0 : Fun E 14 [netV N x ls] (netV N 0 ls)) (k1 : Fun E 33 [netV N x ls, .int .i64 a, .int .i64 b] (.tuple #[netV 0 2 [], .int .i64 1])) (k2 : Fun E 34 [netV N 0 ls, .int .i64 a, .int .i64 b] (.tuple #[netV 0 2 [], .int .i64 1])) (j1 : Fun E 36 [netV N x ls, .int .i64 a, .int .i64 b, .int .i64 c] (.tuple #[netV 0 2 [], .int .i64 1])) (j2 : Fun E 37 [netV N 0 ls, .int .i64 a, .int .i64 b, .int .i64 c] (.tuple #[netV 0 2 [], .int .i64 1])) : Fun E 8 [caseV N x ls a b c] (.bool true) := by
  have c0 := sane17
  have t2 := to14_0
  have s0 := same35_0 2
  rw [show netV 0 2 [] = .agg #[.int .i64 0, FS 48 0 2 #[]] from rfl] at *
  rw [show netV 0 0 [] = .agg #[.int .i64 0, FS 48 0 0 #[]] from rfl] at *
  refine Fun.of f8 rfl (of_decide_eq_true (by kernel_rfl)) rfl ?_
  unfold caseV
  unfold netV lks at *
  refine Wp.seq (Wp.text ?_)
  refine md 1 (.pointer (some ⟨0, 0, none⟩)) (Blk.mk 71 true [Value.int .i64 N, Value.iface 48 (Value.iface (List.length ls) (Value.iface x (Value.agg (List.toArray (lcs ls))))), Value.int .i64 a, Value.int .i64 b, Value.int .i64 c]) ?_
  refine kp 2 (.bool false) ?_
  refine WpOps.nil (thenK_at (Wp.seq (Wp.text ?_)))
  refine kp 13 (.pointer (some ⟨0, 0, none⟩)) ?_
  refine kp 14 (.agg #[Value.int .i64 N, Value.iface 48 (Value.iface (List.length ls) (Value.iface x (Value.agg (List.toArray (lcs ls)))))]) ?_
  refine kp 15 (.pointer (some ⟨0, 2, none⟩)) ?_
  refine kp 16 (.int IntKind.i64 a) ?_
  refine kp 17 (.pointer (some ⟨0, 3, none⟩)) ?_
  refine kp 18 (.int IntKind.i64 b) ?_
  refine fr 19 33 [Value.agg #[Value.int .i64 N, Value.iface 48 (Value.iface (List.length ls) (Value.iface x (Value.agg (List.toArray (lcs ls)))))], Value.int .i64 a, Value.int .i64 b] ?_
  refine WpFun.of (k1) ?_
  refine kp 12 (.tuple #[Value.agg #[Value.int .i64 0, Value.iface 48 (Value.iface 0 (Value.iface 2 (Value.agg #[])))], Value.int .i64 1]) ?_
  refine kp 20 (.agg #[Value.int .i64 0, Value.iface 48 (Value.iface 0 (Value.iface 2 (Value.agg #[])))]) ?_
  refine kp 21 (.int IntKind.i64 1) ?_
  refine md 3 (.pointer (some ⟨1, 0, none⟩)) (Blk.mk 24 true [Value.int .i64 0, Value.slice none 0 0]) ?_
  refine ld (.tuple #[]) (1) (Blk.mk 24 true [Value.int .i64 0, Value.iface 48 (Value.iface 0 (Value.iface 2 (Value.agg #[])))]) ?_
  refine kp 4 (.int IntKind.i64 1) ?_
  refine WpOps.nil (thenK_at (Wp.seq ?_))
  refine Wp.region (by kernel_rfl) ?_
  refine kp 23 (.pointer (some ⟨0, 0, none⟩)) ?_
  refine kp 24 (.agg #[Value.int .i64 N, Value.iface 48 (Value.iface (List.length ls) (Value.iface x (Value.agg (List.toArray (lcs ls)))))]) ?_
  refine fr 25 14 [Value.agg #[Value.int .i64 N, Value.iface 48 (Value.iface (List.length ls) (Value.iface x (Value.agg (List.toArray (lcs ls)))))]] ?_
  refine WpFun.of (t0) ?_
  refine kp 26 (.pointer (some ⟨0, 2, none⟩)) ?_
  refine kp 27 (.int IntKind.i64 a) ?_
  refine kp 28 (.pointer (some ⟨0, 3, none⟩)) ?_
  refine kp 29 (.int IntKind.i64 b) ?_
  refine fr 30 34 [Value.agg #[Value.int .i64 N, FS 48 (List.length ls) 0 (List.toArray (lcs ls))], Value.int .i64 a, Value.int .i64 b] ?_
  refine WpFun.of (k2) ?_
  refine kp 22 (.tuple #[Value.agg #[Value.int .i64 0, Value.iface 48 (Value.iface 0 (Value.iface 2 (Value.agg #[])))], Value.int .i64 1]) ?_
  refine kp 31 (.agg #[Value.int .i64 0, Value.iface 48 (Value.iface 0 (Value.iface 2 (Value.agg #[])))]) ?_
  refine kp 32 (.int IntKind.i64 1) ?_
  refine md 5 (.pointer (some ⟨2, 0, none⟩)) (Blk.mk 34 true [Value.int .i64 0, Value.slice none 0 0]) ?_
  refine ld (.tuple #[]) (2) (Blk.mk 34 true [Value.int .i64 0, Value.iface 48 (Value.iface 0 (Value.iface 2 (Value.agg #[])))]) ?_
  refine kp 6 (.int IntKind.i64 1) ?_
  refine WpOps.nil (thenK_at (Wp.seq (Wp.seq ?_)))
  refine Wp.region (by kernel_rfl) ?_
  refine kp 33 (.int IntKind.i64 1) ?_
  refine kp 34 (.int IntKind.i64 1) ?_
  refine kp 35 (.bool false) ?_
  refine kp 36 (.bool false) ?_
  refine kp 37 (.agg #[Value.int .i64 0, Value.iface 48 (Value.iface 0 (Value.iface 2 (Value.agg #[])))]) ?_
  refine fr 38 14 [Value.agg #[Value.int .i64 0, Value.iface 48 (Value.iface 0 (Value.iface 2 (Value.agg #[])))]] ?_
  refine WpFun.of (t2) ?_
  refine kp 39 (.agg #[Value.int .i64 0, Value.iface 48 (Value.iface 0 (Value.iface 2 (Value.agg #[])))]) ?_
  refine fr 40 35 [Value.agg #[Value.int .i64 0, FS 48 0 0 #[]], Value.agg #[Value.int .i64 0, Value.iface 48 (Value.iface 0 (Value.iface 2 (Value.agg #[])))]] ?_
  refine WpFun.of (s0) ?_
  refine kp 41 (.bool false) ?_
  refine kp 42 (.bool false) ?_
  refine WpOps.nil (thenK_at (off' (Wp.skip (thenK_at (Wp.seq (Wp.text ?_))))))
  refine kp 44 (.pointer (some ⟨0, 0, none⟩)) ?_
  refine kp 45 (.agg #[Value.int .i64 N, Value.iface 48 (Value.iface (List.length ls) (Value.iface x (Value.agg (List.toArray (lcs ls)))))]) ?_
  refine kp 46 (.pointer (some ⟨0, 2, none⟩)) ?_
  refine kp 47 (.int IntKind.i64 a) ?_
  refine kp 48 (.pointer (some ⟨0, 3, none⟩)) ?_
  refine kp 49 (.int IntKind.i64 b) ?_
  refine kp 50 (.pointer (some ⟨0, 4, none⟩)) ?_
  refine kp 51 (.int IntKind.i64 c) ?_
  refine fr 52 36 [Value.agg #[Value.int .i64 N, Value.iface 48 (Value.iface (List.length ls) (Value.iface x (Value.agg (List.toArray (lcs ls)))))], Value.int .i64 a, Value.int .i64 b, Value.int .i64 c] ?_
  refine WpFun.of (j1) ?_
  refine kp 43 (.tuple #[Value.agg #[Value.int .i64 0, Value.iface 48 (Value.iface 0 (Value.iface 2 (Value.agg #[])))], Value.int .i64 1]) ?_
  refine kp 53 (.agg #[Value.int .i64 0, Value.iface 48 (Value.iface 0 (Value.iface 2 (Value.agg #[])))]) ?_
  refine kp 54 (.int IntKind.i64 1) ?_
  refine md 7 (.pointer (some ⟨3, 0, none⟩)) (Blk.mk 24 true [Value.int .i64 0, Value.slice none 0 0]) ?_
  refine ld (.tuple #[]) (3) (Blk.mk 24 true [Value.int .i64 0, Value.iface 48 (Value.iface 0 (Value.iface 2 (Value.agg #[])))]) ?_
  refine kp 8 (.int IntKind.i64 1) ?_
  refine WpOps.nil (thenK_at (Wp.seq ?_))
  refine Wp.region (by kernel_rfl) ?_
  refine kp 56 (.pointer (some ⟨0, 0, none⟩)) ?_
  refine kp 57 (.agg #[Value.int .i64 N, Value.iface 48 (Value.iface (List.length ls) (Value.iface x (Value.agg (List.toArray (lcs ls)))))]) ?_
  refine fr 58 14 [Value.agg #[Value.int .i64 N, Value.iface 48 (Value.iface (List.length ls) (Value.iface x (Value.agg (List.toArray (lcs ls)))))]] ?_
  refine WpFun.of (t0) ?_
  refine kp 59 (.pointer (some ⟨0, 2, none⟩)) ?_
  refine kp 60 (.int IntKind.i64 a) ?_
  refine kp 61 (.pointer (some ⟨0, 3, none⟩)) ?_
  refine kp 62 (.int IntKind.i64 b) ?_
  refine kp 63 (.pointer (some ⟨0, 4, none⟩)) ?_
  refine kp 64 (.int IntKind.i64 c) ?_
  refine fr 65 37 [Value.agg #[Value.int .i64 N, FS 48 (List.length ls) 0 (List.toArray (lcs ls))], Value.int .i64 a, Value.int .i64 b, Value.int .i64 c] ?_
  refine WpFun.of (j2) ?_
  refine kp 55 (.tuple #[Value.agg #[Value.int .i64 0, Value.iface 48 (Value.iface 0 (Value.iface 2 (Value.agg #[])))], Value.int .i64 1]) ?_
  refine kp 66 (.agg #[Value.int .i64 0, Value.iface 48 (Value.iface 0 (Value.iface 2 (Value.agg #[])))]) ?_
  refine kp 67 (.int IntKind.i64 1) ?_
  refine md 9 (.pointer (some ⟨4, 0, none⟩)) (Blk.mk 34 true [Value.int .i64 0, Value.slice none 0 0]) ?_
  refine ld (.tuple #[]) (4) (Blk.mk 34 true [Value.int .i64 0, Value.iface 48 (Value.iface 0 (Value.iface 2 (Value.agg #[])))]) ?_
  refine kp 10 (.int IntKind.i64 1) ?_
  refine WpOps.nil (thenK_at (Wp.seq (Wp.seq ?_)))
  refine Wp.region (by kernel_rfl) ?_
  refine kp 68 (.int IntKind.i64 1) ?_
  refine kp 69 (.int IntKind.i64 1) ?_
  refine kp 70 (.bool false) ?_
  refine kp 71 (.bool false) ?_
  refine kp 72 (.agg #[Value.int .i64 0, Value.iface 48 (Value.iface 0 (Value.iface 2 (Value.agg #[])))]) ?_
  refine fr 73 14 [Value.agg #[Value.int .i64 0, Value.iface 48 (Value.iface 0 (Value.iface 2 (Value.agg #[])))]] ?_
  refine WpFun.of (t2) ?_
  refine kp 74 (.agg #[Value.int .i64 0, Value.iface 48 (Value.iface 0 (Value.iface 2 (Value.agg #[])))]) ?_
  refine fr 75 35 [Value.agg #[Value.int .i64 0, FS 48 0 0 #[]], Value.agg #[Value.int .i64 0, Value.iface 48 (Value.iface 0 (Value.iface 2 (Value.agg #[])))]] ?_
  refine WpFun.of (s0) ?_
  refine kp 76 (.bool false) ?_
  refine kp 77 (.bool false) ?_
  refine WpOps.nil (thenK_at (off' (Wp.skip (thenK_at (Wp.seq (Wp.seq (Wp.text ?_)))))))
  refine kp 78 (.int IntKind.i64 1) ?_
  refine kp 79 (.bool true) ?_
  refine WpOps.nil (thenK_at (on' (Wp.seq (Wp.text ?_))))
  refine fr 80 17 [] ?_
  refine WpFun.of (c0) ?_
  refine kp 2 (.bool true) ?_
  refine WpOps.nil (thenK_at (Wp.ret (thenK_ret ?_)))
  refine endK_retn [Value.bool true] (Value.bool true) (by kernel_rfl) (by kernel_rfl) ?_
  rfl
set_option maxHeartbeats 8000000 in
theorem law8_none_bad (N : Int) (x : Nat) (ls : List Lk) (a b c : Int) (t0 : Fun E 14 [netV N x ls] (netV N 0 ls)) (k1 : Fun E 33 [netV N x ls, .int .i64 a, .int .i64 b] (.tuple #[netV 0 2 [], .int .i64 3])) (k2 : Fun E 34 [netV N 0 ls, .int .i64 a, .int .i64 b] (.tuple #[netV 0 2 [], .int .i64 3])) (j1 : Fun E 36 [netV N x ls, .int .i64 a, .int .i64 b, .int .i64 c] (.tuple #[netV 0 2 [], .int .i64 1])) (j2 : Fun E 37 [netV N 0 ls, .int .i64 a, .int .i64 b, .int .i64 c] (.tuple #[netV 0 2 [], .int .i64 1])) : Fun E 8 [caseV N x ls a b c] (.bool true) := by
  have c0 := sane17
  have t2 := to14_0
  have s0 := same35_0 2
  rw [show netV 0 2 [] = .agg #[.int .i64 0, FS 48 0 2 #[]] from rfl] at *
  rw [show netV 0 0 [] = .agg #[.int .i64 0, FS 48 0 0 #[]] from rfl] at *
  refine Fun.of f8 rfl (of_decide_eq_true (by kernel_rfl)) rfl ?_
  unfold caseV
  unfold netV lks at *
  refine Wp.seq (Wp.text ?_)
  refine md 1 (.pointer (some ⟨0, 0, none⟩)) (Blk.mk 71 true [Value.int .i64 N, Value.iface 48 (Value.iface (List.length ls) (Value.iface x (Value.agg (List.toArray (lcs ls))))), Value.int .i64 a, Value.int .i64 b, Value.int .i64 c]) ?_
  refine kp 2 (.bool false) ?_
  refine WpOps.nil (thenK_at (Wp.seq (Wp.text ?_)))
  refine kp 13 (.pointer (some ⟨0, 0, none⟩)) ?_
  refine kp 14 (.agg #[Value.int .i64 N, Value.iface 48 (Value.iface (List.length ls) (Value.iface x (Value.agg (List.toArray (lcs ls)))))]) ?_
  refine kp 15 (.pointer (some ⟨0, 2, none⟩)) ?_
  refine kp 16 (.int IntKind.i64 a) ?_
  refine kp 17 (.pointer (some ⟨0, 3, none⟩)) ?_
  refine kp 18 (.int IntKind.i64 b) ?_
  refine fr 19 33 [Value.agg #[Value.int .i64 N, Value.iface 48 (Value.iface (List.length ls) (Value.iface x (Value.agg (List.toArray (lcs ls)))))], Value.int .i64 a, Value.int .i64 b] ?_
  refine WpFun.of (k1) ?_
  refine kp 12 (.tuple #[Value.agg #[Value.int .i64 0, Value.iface 48 (Value.iface 0 (Value.iface 2 (Value.agg #[])))], Value.int .i64 3]) ?_
  refine kp 20 (.agg #[Value.int .i64 0, Value.iface 48 (Value.iface 0 (Value.iface 2 (Value.agg #[])))]) ?_
  refine kp 21 (.int IntKind.i64 3) ?_
  refine md 3 (.pointer (some ⟨1, 0, none⟩)) (Blk.mk 24 true [Value.int .i64 0, Value.slice none 0 0]) ?_
  refine ld (.tuple #[]) (1) (Blk.mk 24 true [Value.int .i64 0, Value.iface 48 (Value.iface 0 (Value.iface 2 (Value.agg #[])))]) ?_
  refine kp 4 (.int IntKind.i64 3) ?_
  refine WpOps.nil (thenK_at (Wp.seq ?_))
  refine Wp.region (by kernel_rfl) ?_
  refine kp 23 (.pointer (some ⟨0, 0, none⟩)) ?_
  refine kp 24 (.agg #[Value.int .i64 N, Value.iface 48 (Value.iface (List.length ls) (Value.iface x (Value.agg (List.toArray (lcs ls)))))]) ?_
  refine fr 25 14 [Value.agg #[Value.int .i64 N, Value.iface 48 (Value.iface (List.length ls) (Value.iface x (Value.agg (List.toArray (lcs ls)))))]] ?_
  refine WpFun.of (t0) ?_
  refine kp 26 (.pointer (some ⟨0, 2, none⟩)) ?_
  refine kp 27 (.int IntKind.i64 a) ?_
  refine kp 28 (.pointer (some ⟨0, 3, none⟩)) ?_
  refine kp 29 (.int IntKind.i64 b) ?_
  refine fr 30 34 [Value.agg #[Value.int .i64 N, FS 48 (List.length ls) 0 (List.toArray (lcs ls))], Value.int .i64 a, Value.int .i64 b] ?_
  refine WpFun.of (k2) ?_
  refine kp 22 (.tuple #[Value.agg #[Value.int .i64 0, Value.iface 48 (Value.iface 0 (Value.iface 2 (Value.agg #[])))], Value.int .i64 3]) ?_
  refine kp 31 (.agg #[Value.int .i64 0, Value.iface 48 (Value.iface 0 (Value.iface 2 (Value.agg #[])))]) ?_
  refine kp 32 (.int IntKind.i64 3) ?_
  refine md 5 (.pointer (some ⟨2, 0, none⟩)) (Blk.mk 34 true [Value.int .i64 0, Value.slice none 0 0]) ?_
  refine ld (.tuple #[]) (2) (Blk.mk 34 true [Value.int .i64 0, Value.iface 48 (Value.iface 0 (Value.iface 2 (Value.agg #[])))]) ?_
  refine kp 6 (.int IntKind.i64 3) ?_
  refine WpOps.nil (thenK_at (Wp.seq (Wp.seq ?_)))
  refine Wp.region (by kernel_rfl) ?_
  refine kp 33 (.int IntKind.i64 3) ?_
  refine kp 34 (.int IntKind.i64 3) ?_
  refine kp 35 (.bool false) ?_
  refine kp 36 (.bool false) ?_
  refine kp 37 (.agg #[Value.int .i64 0, Value.iface 48 (Value.iface 0 (Value.iface 2 (Value.agg #[])))]) ?_
  refine fr 38 14 [Value.agg #[Value.int .i64 0, Value.iface 48 (Value.iface 0 (Value.iface 2 (Value.agg #[])))]] ?_
  refine WpFun.of (t2) ?_
  refine kp 39 (.agg #[Value.int .i64 0, Value.iface 48 (Value.iface 0 (Value.iface 2 (Value.agg #[])))]) ?_
  refine fr 40 35 [Value.agg #[Value.int .i64 0, FS 48 0 0 #[]], Value.agg #[Value.int .i64 0, Value.iface 48 (Value.iface 0 (Value.iface 2 (Value.agg #[])))]] ?_
  refine WpFun.of (s0) ?_
  refine kp 41 (.bool false) ?_
  refine kp 42 (.bool false) ?_
  refine WpOps.nil (thenK_at (off' (Wp.skip (thenK_at (Wp.seq (Wp.text ?_))))))
  refine kp 44 (.pointer (some ⟨0, 0, none⟩)) ?_
  refine kp 45 (.agg #[Value.int .i64 N, Value.iface 48 (Value.iface (List.length ls) (Value.iface x (Value.agg (List.toArray (lcs ls)))))]) ?_
  refine kp 46 (.pointer (some ⟨0, 2, none⟩)) ?_
  refine kp 47 (.int IntKind.i64 a) ?_
  refine kp 48 (.pointer (some ⟨0, 3, none⟩)) ?_
  refine kp 49 (.int IntKind.i64 b) ?_
  refine kp 50 (.pointer (some ⟨0, 4, none⟩)) ?_
  refine kp 51 (.int IntKind.i64 c) ?_
  refine fr 52 36 [Value.agg #[Value.int .i64 N, Value.iface 48 (Value.iface (List.length ls) (Value.iface x (Value.agg (List.toArray (lcs ls)))))], Value.int .i64 a, Value.int .i64 b, Value.int .i64 c] ?_
  refine WpFun.of (j1) ?_
  refine kp 43 (.tuple #[Value.agg #[Value.int .i64 0, Value.iface 48 (Value.iface 0 (Value.iface 2 (Value.agg #[])))], Value.int .i64 1]) ?_
  refine kp 53 (.agg #[Value.int .i64 0, Value.iface 48 (Value.iface 0 (Value.iface 2 (Value.agg #[])))]) ?_
  refine kp 54 (.int IntKind.i64 1) ?_
  refine md 7 (.pointer (some ⟨3, 0, none⟩)) (Blk.mk 24 true [Value.int .i64 0, Value.slice none 0 0]) ?_
  refine ld (.tuple #[]) (3) (Blk.mk 24 true [Value.int .i64 0, Value.iface 48 (Value.iface 0 (Value.iface 2 (Value.agg #[])))]) ?_
  refine kp 8 (.int IntKind.i64 1) ?_
  refine WpOps.nil (thenK_at (Wp.seq ?_))
  refine Wp.region (by kernel_rfl) ?_
  refine kp 56 (.pointer (some ⟨0, 0, none⟩)) ?_
  refine kp 57 (.agg #[Value.int .i64 N, Value.iface 48 (Value.iface (List.length ls) (Value.iface x (Value.agg (List.toArray (lcs ls)))))]) ?_
  refine fr 58 14 [Value.agg #[Value.int .i64 N, Value.iface 48 (Value.iface (List.length ls) (Value.iface x (Value.agg (List.toArray (lcs ls)))))]] ?_
  refine WpFun.of (t0) ?_
  refine kp 59 (.pointer (some ⟨0, 2, none⟩)) ?_
  refine kp 60 (.int IntKind.i64 a) ?_
  refine kp 61 (.pointer (some ⟨0, 3, none⟩)) ?_
  refine kp 62 (.int IntKind.i64 b) ?_
  refine kp 63 (.pointer (some ⟨0, 4, none⟩)) ?_
  refine kp 64 (.int IntKind.i64 c) ?_
  refine fr 65 37 [Value.agg #[Value.int .i64 N, FS 48 (List.length ls) 0 (List.toArray (lcs ls))], Value.int .i64 a, Value.int .i64 b, Value.int .i64 c] ?_
  refine WpFun.of (j2) ?_
  refine kp 55 (.tuple #[Value.agg #[Value.int .i64 0, Value.iface 48 (Value.iface 0 (Value.iface 2 (Value.agg #[])))], Value.int .i64 1]) ?_
  refine kp 66 (.agg #[Value.int .i64 0, Value.iface 48 (Value.iface 0 (Value.iface 2 (Value.agg #[])))]) ?_
  refine kp 67 (.int IntKind.i64 1) ?_
  refine md 9 (.pointer (some ⟨4, 0, none⟩)) (Blk.mk 34 true [Value.int .i64 0, Value.slice none 0 0]) ?_
  refine ld (.tuple #[]) (4) (Blk.mk 34 true [Value.int .i64 0, Value.iface 48 (Value.iface 0 (Value.iface 2 (Value.agg #[])))]) ?_
  refine kp 10 (.int IntKind.i64 1) ?_
  refine WpOps.nil (thenK_at (Wp.seq (Wp.seq ?_)))
  refine Wp.region (by kernel_rfl) ?_
  refine kp 68 (.int IntKind.i64 1) ?_
  refine kp 69 (.int IntKind.i64 1) ?_
  refine kp 70 (.bool false) ?_
  refine kp 71 (.bool false) ?_
  refine kp 72 (.agg #[Value.int .i64 0, Value.iface 48 (Value.iface 0 (Value.iface 2 (Value.agg #[])))]) ?_
  refine fr 73 14 [Value.agg #[Value.int .i64 0, Value.iface 48 (Value.iface 0 (Value.iface 2 (Value.agg #[])))]] ?_
  refine WpFun.of (t2) ?_
  refine kp 74 (.agg #[Value.int .i64 0, Value.iface 48 (Value.iface 0 (Value.iface 2 (Value.agg #[])))]) ?_
  refine fr 75 35 [Value.agg #[Value.int .i64 0, FS 48 0 0 #[]], Value.agg #[Value.int .i64 0, Value.iface 48 (Value.iface 0 (Value.iface 2 (Value.agg #[])))]] ?_
  refine WpFun.of (s0) ?_
  refine kp 76 (.bool false) ?_
  refine kp 77 (.bool false) ?_
  refine WpOps.nil (thenK_at (off' (Wp.skip (thenK_at (Wp.seq (Wp.seq (Wp.text ?_)))))))
  refine kp 78 (.int IntKind.i64 1) ?_
  refine kp 79 (.bool true) ?_
  refine WpOps.nil (thenK_at (on' (Wp.seq (Wp.text ?_))))
  refine fr 80 17 [] ?_
  refine WpFun.of (c0) ?_
  refine kp 2 (.bool true) ?_
  refine WpOps.nil (thenK_at (Wp.ret (thenK_ret ?_)))
  refine endK_retn [Value.bool true] (Value.bool true) (by kernel_rfl) (by kernel_rfl) ?_
  rfl
set_option maxHeartbeats 8000000 in
theorem law8_some_bad (N : Int) (x : Nat) (ls : List Lk) (a b c : Int) (y : Nat) (K : List Lk) (t0 : Fun E 14 [netV N x ls] (netV N 0 ls)) (k1 : Fun E 33 [netV N x ls, .int .i64 a, .int .i64 b] (.tuple #[netV N 0 K, .int .i64 0])) (k2 : Fun E 34 [netV N 0 ls, .int .i64 a, .int .i64 b] (.tuple #[netV N y K, .int .i64 0])) (t1 : Fun E 14 [netV N 0 K] (netV N 0 K)) (s1 : Fun E 35 [netV N 0 K, netV N y K] (.bool true)) (j1 : Fun E 36 [netV N x ls, .int .i64 a, .int .i64 b, .int .i64 c] (.tuple #[netV 0 2 [], .int .i64 1])) (j2 : Fun E 37 [netV N 0 ls, .int .i64 a, .int .i64 b, .int .i64 c] (.tuple #[netV 0 2 [], .int .i64 1])) : Fun E 8 [caseV N x ls a b c] (.bool true) := by
  have c0 := sane17
  have t2 := to14_0
  have s0 := same35_0 2
  rw [show netV 0 2 [] = .agg #[.int .i64 0, FS 48 0 2 #[]] from rfl] at *
  rw [show netV 0 0 [] = .agg #[.int .i64 0, FS 48 0 0 #[]] from rfl] at *
  refine Fun.of f8 rfl (of_decide_eq_true (by kernel_rfl)) rfl ?_
  unfold caseV
  unfold netV lks at *
  refine Wp.seq (Wp.text ?_)
  refine md 1 (.pointer (some ⟨0, 0, none⟩)) (Blk.mk 71 true [Value.int .i64 N, Value.iface 48 (Value.iface (List.length ls) (Value.iface x (Value.agg (List.toArray (lcs ls))))), Value.int .i64 a, Value.int .i64 b, Value.int .i64 c]) ?_
  refine kp 2 (.bool false) ?_
  refine WpOps.nil (thenK_at (Wp.seq (Wp.text ?_)))
  refine kp 13 (.pointer (some ⟨0, 0, none⟩)) ?_
  refine kp 14 (.agg #[Value.int .i64 N, Value.iface 48 (Value.iface (List.length ls) (Value.iface x (Value.agg (List.toArray (lcs ls)))))]) ?_
  refine kp 15 (.pointer (some ⟨0, 2, none⟩)) ?_
  refine kp 16 (.int IntKind.i64 a) ?_
  refine kp 17 (.pointer (some ⟨0, 3, none⟩)) ?_
  refine kp 18 (.int IntKind.i64 b) ?_
  refine fr 19 33 [Value.agg #[Value.int .i64 N, Value.iface 48 (Value.iface (List.length ls) (Value.iface x (Value.agg (List.toArray (lcs ls)))))], Value.int .i64 a, Value.int .i64 b] ?_
  refine WpFun.of (k1) ?_
  refine kp 12 (.tuple #[Value.agg #[Value.int .i64 N, FS 48 (List.length K) 0 (List.toArray (lcs K))], Value.int .i64 0]) ?_
  refine kp 20 (.agg #[Value.int .i64 N, FS 48 (List.length K) 0 (List.toArray (lcs K))]) ?_
  refine kp 21 (.int IntKind.i64 0) ?_
  refine md 3 (.pointer (some ⟨1, 0, none⟩)) (Blk.mk 24 true [Value.int .i64 0, Value.slice none 0 0]) ?_
  refine ld (.tuple #[]) (1) (Blk.mk 24 true [Value.int .i64 N, Value.iface 48 (Value.iface (List.length K) (Value.iface 0 (Value.agg (List.toArray (lcs K)))))]) ?_
  refine kp 4 (.int IntKind.i64 0) ?_
  refine WpOps.nil (thenK_at (Wp.seq ?_))
  refine Wp.region (by kernel_rfl) ?_
  refine kp 23 (.pointer (some ⟨0, 0, none⟩)) ?_
  refine kp 24 (.agg #[Value.int .i64 N, Value.iface 48 (Value.iface (List.length ls) (Value.iface x (Value.agg (List.toArray (lcs ls)))))]) ?_
  refine fr 25 14 [Value.agg #[Value.int .i64 N, Value.iface 48 (Value.iface (List.length ls) (Value.iface x (Value.agg (List.toArray (lcs ls)))))]] ?_
  refine WpFun.of (t0) ?_
  refine kp 26 (.pointer (some ⟨0, 2, none⟩)) ?_
  refine kp 27 (.int IntKind.i64 a) ?_
  refine kp 28 (.pointer (some ⟨0, 3, none⟩)) ?_
  refine kp 29 (.int IntKind.i64 b) ?_
  refine fr 30 34 [Value.agg #[Value.int .i64 N, FS 48 (List.length ls) 0 (List.toArray (lcs ls))], Value.int .i64 a, Value.int .i64 b] ?_
  refine WpFun.of (k2) ?_
  refine kp 22 (.tuple #[Value.agg #[Value.int .i64 N, FS 48 (List.length K) y (List.toArray (lcs K))], Value.int .i64 0]) ?_
  refine kp 31 (.agg #[Value.int .i64 N, FS 48 (List.length K) y (List.toArray (lcs K))]) ?_
  refine kp 32 (.int IntKind.i64 0) ?_
  refine md 5 (.pointer (some ⟨2, 0, none⟩)) (Blk.mk 34 true [Value.int .i64 0, Value.slice none 0 0]) ?_
  refine ld (.tuple #[]) (2) (Blk.mk 34 true [Value.int .i64 N, Value.iface 48 (Value.iface (List.length K) (Value.iface y (Value.agg (List.toArray (lcs K)))))]) ?_
  refine kp 6 (.int IntKind.i64 0) ?_
  refine WpOps.nil (thenK_at (Wp.seq (Wp.seq ?_)))
  refine Wp.region (by kernel_rfl) ?_
  refine kp 33 (.int IntKind.i64 0) ?_
  refine kp 34 (.int IntKind.i64 0) ?_
  refine kp 35 (.bool false) ?_
  refine kp 36 (.bool false) ?_
  refine kp 37 (.agg #[Value.int .i64 N, Value.iface 48 (Value.iface (List.length K) (Value.iface 0 (Value.agg (List.toArray (lcs K)))))]) ?_
  refine fr 38 14 [Value.agg #[Value.int .i64 N, Value.iface 48 (Value.iface (List.length K) (Value.iface 0 (Value.agg (List.toArray (lcs K)))))]] ?_
  refine WpFun.of (t1) ?_
  refine kp 39 (.agg #[Value.int .i64 N, Value.iface 48 (Value.iface (List.length K) (Value.iface y (Value.agg (List.toArray (lcs K)))))]) ?_
  refine fr 40 35 [Value.agg #[Value.int .i64 N, FS 48 (List.length K) 0 (List.toArray (lcs K))], Value.agg #[Value.int .i64 N, Value.iface 48 (Value.iface (List.length K) (Value.iface y (Value.agg (List.toArray (lcs K)))))]] ?_
  refine WpFun.of (s1) ?_
  refine kp 41 (.bool false) ?_
  refine kp 42 (.bool false) ?_
  refine WpOps.nil (thenK_at (off' (Wp.skip (thenK_at (Wp.seq (Wp.text ?_))))))
  refine kp 44 (.pointer (some ⟨0, 0, none⟩)) ?_
  refine kp 45 (.agg #[Value.int .i64 N, Value.iface 48 (Value.iface (List.length ls) (Value.iface x (Value.agg (List.toArray (lcs ls)))))]) ?_
  refine kp 46 (.pointer (some ⟨0, 2, none⟩)) ?_
  refine kp 47 (.int IntKind.i64 a) ?_
  refine kp 48 (.pointer (some ⟨0, 3, none⟩)) ?_
  refine kp 49 (.int IntKind.i64 b) ?_
  refine kp 50 (.pointer (some ⟨0, 4, none⟩)) ?_
  refine kp 51 (.int IntKind.i64 c) ?_
  refine fr 52 36 [Value.agg #[Value.int .i64 N, Value.iface 48 (Value.iface (List.length ls) (Value.iface x (Value.agg (List.toArray (lcs ls)))))], Value.int .i64 a, Value.int .i64 b, Value.int .i64 c] ?_
  refine WpFun.of (j1) ?_
  refine kp 43 (.tuple #[Value.agg #[Value.int .i64 0, Value.iface 48 (Value.iface 0 (Value.iface 2 (Value.agg #[])))], Value.int .i64 1]) ?_
  refine kp 53 (.agg #[Value.int .i64 0, Value.iface 48 (Value.iface 0 (Value.iface 2 (Value.agg #[])))]) ?_
  refine kp 54 (.int IntKind.i64 1) ?_
  refine md 7 (.pointer (some ⟨3, 0, none⟩)) (Blk.mk 24 true [Value.int .i64 0, Value.slice none 0 0]) ?_
  refine ld (.tuple #[]) (3) (Blk.mk 24 true [Value.int .i64 0, Value.iface 48 (Value.iface 0 (Value.iface 2 (Value.agg #[])))]) ?_
  refine kp 8 (.int IntKind.i64 1) ?_
  refine WpOps.nil (thenK_at (Wp.seq ?_))
  refine Wp.region (by kernel_rfl) ?_
  refine kp 56 (.pointer (some ⟨0, 0, none⟩)) ?_
  refine kp 57 (.agg #[Value.int .i64 N, Value.iface 48 (Value.iface (List.length ls) (Value.iface x (Value.agg (List.toArray (lcs ls)))))]) ?_
  refine fr 58 14 [Value.agg #[Value.int .i64 N, Value.iface 48 (Value.iface (List.length ls) (Value.iface x (Value.agg (List.toArray (lcs ls)))))]] ?_
  refine WpFun.of (t0) ?_
  refine kp 59 (.pointer (some ⟨0, 2, none⟩)) ?_
  refine kp 60 (.int IntKind.i64 a) ?_
  refine kp 61 (.pointer (some ⟨0, 3, none⟩)) ?_
  refine kp 62 (.int IntKind.i64 b) ?_
  refine kp 63 (.pointer (some ⟨0, 4, none⟩)) ?_
  refine kp 64 (.int IntKind.i64 c) ?_
  refine fr 65 37 [Value.agg #[Value.int .i64 N, FS 48 (List.length ls) 0 (List.toArray (lcs ls))], Value.int .i64 a, Value.int .i64 b, Value.int .i64 c] ?_
  refine WpFun.of (j2) ?_
  refine kp 55 (.tuple #[Value.agg #[Value.int .i64 0, Value.iface 48 (Value.iface 0 (Value.iface 2 (Value.agg #[])))], Value.int .i64 1]) ?_
  refine kp 66 (.agg #[Value.int .i64 0, Value.iface 48 (Value.iface 0 (Value.iface 2 (Value.agg #[])))]) ?_
  refine kp 67 (.int IntKind.i64 1) ?_
  refine md 9 (.pointer (some ⟨4, 0, none⟩)) (Blk.mk 34 true [Value.int .i64 0, Value.slice none 0 0]) ?_
  refine ld (.tuple #[]) (4) (Blk.mk 34 true [Value.int .i64 0, Value.iface 48 (Value.iface 0 (Value.iface 2 (Value.agg #[])))]) ?_
  refine kp 10 (.int IntKind.i64 1) ?_
  refine WpOps.nil (thenK_at (Wp.seq (Wp.seq ?_)))
  refine Wp.region (by kernel_rfl) ?_
  refine kp 68 (.int IntKind.i64 1) ?_
  refine kp 69 (.int IntKind.i64 1) ?_
  refine kp 70 (.bool false) ?_
  refine kp 71 (.bool false) ?_
  refine kp 72 (.agg #[Value.int .i64 0, Value.iface 48 (Value.iface 0 (Value.iface 2 (Value.agg #[])))]) ?_
  refine fr 73 14 [Value.agg #[Value.int .i64 0, Value.iface 48 (Value.iface 0 (Value.iface 2 (Value.agg #[])))]] ?_
  refine WpFun.of (t2) ?_
  refine kp 74 (.agg #[Value.int .i64 0, Value.iface 48 (Value.iface 0 (Value.iface 2 (Value.agg #[])))]) ?_
  refine fr 75 35 [Value.agg #[Value.int .i64 0, FS 48 0 0 #[]], Value.agg #[Value.int .i64 0, Value.iface 48 (Value.iface 0 (Value.iface 2 (Value.agg #[])))]] ?_
  refine WpFun.of (s0) ?_
  refine kp 76 (.bool false) ?_
  refine kp 77 (.bool false) ?_
  refine WpOps.nil (thenK_at (off' (Wp.skip (thenK_at (Wp.seq (Wp.seq (Wp.text ?_)))))))
  refine kp 78 (.int IntKind.i64 1) ?_
  refine kp 79 (.bool true) ?_
  refine WpOps.nil (thenK_at (on' (Wp.seq (Wp.text ?_))))
  refine fr 80 17 [] ?_
  refine WpFun.of (c0) ?_
  refine kp 2 (.bool true) ?_
  refine WpOps.nil (thenK_at (Wp.ret (thenK_ret ?_)))
  refine endK_retn [Value.bool true] (Value.bool true) (by kernel_rfl) (by kernel_rfl) ?_
  rfl
set_option maxHeartbeats 8000000 in
theorem law8_none (N : Int) (x : Nat) (ls : List Lk) (a b c : Int) (t0 : Fun E 14 [netV N x ls] (netV N 0 ls)) (k1 : Fun E 33 [netV N x ls, .int .i64 a, .int .i64 b] (.tuple #[netV 0 2 [], .int .i64 3])) (k2 : Fun E 34 [netV N 0 ls, .int .i64 a, .int .i64 b] (.tuple #[netV 0 2 [], .int .i64 3])) (z : Nat) (J : List Lk) (t3 : Fun E 14 [netV N 0 J] (netV N 0 J)) (s3 : Fun E 35 [netV N 0 J, netV N z J] (.bool true)) (j1 : Fun E 36 [netV N x ls, .int .i64 a, .int .i64 b, .int .i64 c] (.tuple #[netV N 0 J, .int .i64 0])) (j2 : Fun E 37 [netV N 0 ls, .int .i64 a, .int .i64 b, .int .i64 c] (.tuple #[netV N z J, .int .i64 0])) (v1 : Fun E 33 [netV N 0 J, .int .i64 b, .int .i64 a] (.tuple #[netV N 0 ls, .int .i64 0])) (t4 : Fun E 14 [netV N 0 ls] (netV N 0 ls)) (s4 : Fun E 35 [netV N 0 ls, netV N 0 ls] (.bool true)) : Fun E 8 [caseV N x ls a b c] (.bool true) := by
  have c0 := sane17
  have t2 := to14_0
  have s0 := same35_0 2
  rw [show netV 0 2 [] = .agg #[.int .i64 0, FS 48 0 2 #[]] from rfl] at *
  rw [show netV 0 0 [] = .agg #[.int .i64 0, FS 48 0 0 #[]] from rfl] at *
  refine Fun.of f8 rfl (of_decide_eq_true (by kernel_rfl)) rfl ?_
  unfold caseV
  unfold netV lks at *
  refine Wp.seq (Wp.text ?_)
  refine md 1 (.pointer (some ⟨0, 0, none⟩)) (Blk.mk 71 true [Value.int .i64 N, Value.iface 48 (Value.iface (List.length ls) (Value.iface x (Value.agg (List.toArray (lcs ls))))), Value.int .i64 a, Value.int .i64 b, Value.int .i64 c]) ?_
  refine kp 2 (.bool false) ?_
  refine WpOps.nil (thenK_at (Wp.seq (Wp.text ?_)))
  refine kp 13 (.pointer (some ⟨0, 0, none⟩)) ?_
  refine kp 14 (.agg #[Value.int .i64 N, Value.iface 48 (Value.iface (List.length ls) (Value.iface x (Value.agg (List.toArray (lcs ls)))))]) ?_
  refine kp 15 (.pointer (some ⟨0, 2, none⟩)) ?_
  refine kp 16 (.int IntKind.i64 a) ?_
  refine kp 17 (.pointer (some ⟨0, 3, none⟩)) ?_
  refine kp 18 (.int IntKind.i64 b) ?_
  refine fr 19 33 [Value.agg #[Value.int .i64 N, Value.iface 48 (Value.iface (List.length ls) (Value.iface x (Value.agg (List.toArray (lcs ls)))))], Value.int .i64 a, Value.int .i64 b] ?_
  refine WpFun.of (k1) ?_
  refine kp 12 (.tuple #[Value.agg #[Value.int .i64 0, Value.iface 48 (Value.iface 0 (Value.iface 2 (Value.agg #[])))], Value.int .i64 3]) ?_
  refine kp 20 (.agg #[Value.int .i64 0, Value.iface 48 (Value.iface 0 (Value.iface 2 (Value.agg #[])))]) ?_
  refine kp 21 (.int IntKind.i64 3) ?_
  refine md 3 (.pointer (some ⟨1, 0, none⟩)) (Blk.mk 24 true [Value.int .i64 0, Value.slice none 0 0]) ?_
  refine ld (.tuple #[]) (1) (Blk.mk 24 true [Value.int .i64 0, Value.iface 48 (Value.iface 0 (Value.iface 2 (Value.agg #[])))]) ?_
  refine kp 4 (.int IntKind.i64 3) ?_
  refine WpOps.nil (thenK_at (Wp.seq ?_))
  refine Wp.region (by kernel_rfl) ?_
  refine kp 23 (.pointer (some ⟨0, 0, none⟩)) ?_
  refine kp 24 (.agg #[Value.int .i64 N, Value.iface 48 (Value.iface (List.length ls) (Value.iface x (Value.agg (List.toArray (lcs ls)))))]) ?_
  refine fr 25 14 [Value.agg #[Value.int .i64 N, Value.iface 48 (Value.iface (List.length ls) (Value.iface x (Value.agg (List.toArray (lcs ls)))))]] ?_
  refine WpFun.of (t0) ?_
  refine kp 26 (.pointer (some ⟨0, 2, none⟩)) ?_
  refine kp 27 (.int IntKind.i64 a) ?_
  refine kp 28 (.pointer (some ⟨0, 3, none⟩)) ?_
  refine kp 29 (.int IntKind.i64 b) ?_
  refine fr 30 34 [Value.agg #[Value.int .i64 N, FS 48 (List.length ls) 0 (List.toArray (lcs ls))], Value.int .i64 a, Value.int .i64 b] ?_
  refine WpFun.of (k2) ?_
  refine kp 22 (.tuple #[Value.agg #[Value.int .i64 0, Value.iface 48 (Value.iface 0 (Value.iface 2 (Value.agg #[])))], Value.int .i64 3]) ?_
  refine kp 31 (.agg #[Value.int .i64 0, Value.iface 48 (Value.iface 0 (Value.iface 2 (Value.agg #[])))]) ?_
  refine kp 32 (.int IntKind.i64 3) ?_
  refine md 5 (.pointer (some ⟨2, 0, none⟩)) (Blk.mk 34 true [Value.int .i64 0, Value.slice none 0 0]) ?_
  refine ld (.tuple #[]) (2) (Blk.mk 34 true [Value.int .i64 0, Value.iface 48 (Value.iface 0 (Value.iface 2 (Value.agg #[])))]) ?_
  refine kp 6 (.int IntKind.i64 3) ?_
  refine WpOps.nil (thenK_at (Wp.seq (Wp.seq ?_)))
  refine Wp.region (by kernel_rfl) ?_
  refine kp 33 (.int IntKind.i64 3) ?_
  refine kp 34 (.int IntKind.i64 3) ?_
  refine kp 35 (.bool false) ?_
  refine kp 36 (.bool false) ?_
  refine kp 37 (.agg #[Value.int .i64 0, Value.iface 48 (Value.iface 0 (Value.iface 2 (Value.agg #[])))]) ?_
  refine fr 38 14 [Value.agg #[Value.int .i64 0, Value.iface 48 (Value.iface 0 (Value.iface 2 (Value.agg #[])))]] ?_
  refine WpFun.of (t2) ?_
  refine kp 39 (.agg #[Value.int .i64 0, Value.iface 48 (Value.iface 0 (Value.iface 2 (Value.agg #[])))]) ?_
  refine fr 40 35 [Value.agg #[Value.int .i64 0, FS 48 0 0 #[]], Value.agg #[Value.int .i64 0, Value.iface 48 (Value.iface 0 (Value.iface 2 (Value.agg #[])))]] ?_
  refine WpFun.of (s0) ?_
  refine kp 41 (.bool false) ?_
  refine kp 42 (.bool false) ?_
  refine WpOps.nil (thenK_at (off' (Wp.skip (thenK_at (Wp.seq (Wp.text ?_))))))
  refine kp 44 (.pointer (some ⟨0, 0, none⟩)) ?_
  refine kp 45 (.agg #[Value.int .i64 N, Value.iface 48 (Value.iface (List.length ls) (Value.iface x (Value.agg (List.toArray (lcs ls)))))]) ?_
  refine kp 46 (.pointer (some ⟨0, 2, none⟩)) ?_
  refine kp 47 (.int IntKind.i64 a) ?_
  refine kp 48 (.pointer (some ⟨0, 3, none⟩)) ?_
  refine kp 49 (.int IntKind.i64 b) ?_
  refine kp 50 (.pointer (some ⟨0, 4, none⟩)) ?_
  refine kp 51 (.int IntKind.i64 c) ?_
  refine fr 52 36 [Value.agg #[Value.int .i64 N, Value.iface 48 (Value.iface (List.length ls) (Value.iface x (Value.agg (List.toArray (lcs ls)))))], Value.int .i64 a, Value.int .i64 b, Value.int .i64 c] ?_
  refine WpFun.of (j1) ?_
  refine kp 43 (.tuple #[Value.agg #[Value.int .i64 N, FS 48 (List.length J) 0 (List.toArray (lcs J))], Value.int .i64 0]) ?_
  refine kp 53 (.agg #[Value.int .i64 N, FS 48 (List.length J) 0 (List.toArray (lcs J))]) ?_
  refine kp 54 (.int IntKind.i64 0) ?_
  refine md 7 (.pointer (some ⟨3, 0, none⟩)) (Blk.mk 24 true [Value.int .i64 0, Value.slice none 0 0]) ?_
  refine ld (.tuple #[]) (3) (Blk.mk 24 true [Value.int .i64 N, Value.iface 48 (Value.iface (List.length J) (Value.iface 0 (Value.agg (List.toArray (lcs J)))))]) ?_
  refine kp 8 (.int IntKind.i64 0) ?_
  refine WpOps.nil (thenK_at (Wp.seq ?_))
  refine Wp.region (by kernel_rfl) ?_
  refine kp 56 (.pointer (some ⟨0, 0, none⟩)) ?_
  refine kp 57 (.agg #[Value.int .i64 N, Value.iface 48 (Value.iface (List.length ls) (Value.iface x (Value.agg (List.toArray (lcs ls)))))]) ?_
  refine fr 58 14 [Value.agg #[Value.int .i64 N, Value.iface 48 (Value.iface (List.length ls) (Value.iface x (Value.agg (List.toArray (lcs ls)))))]] ?_
  refine WpFun.of (t0) ?_
  refine kp 59 (.pointer (some ⟨0, 2, none⟩)) ?_
  refine kp 60 (.int IntKind.i64 a) ?_
  refine kp 61 (.pointer (some ⟨0, 3, none⟩)) ?_
  refine kp 62 (.int IntKind.i64 b) ?_
  refine kp 63 (.pointer (some ⟨0, 4, none⟩)) ?_
  refine kp 64 (.int IntKind.i64 c) ?_
  refine fr 65 37 [Value.agg #[Value.int .i64 N, FS 48 (List.length ls) 0 (List.toArray (lcs ls))], Value.int .i64 a, Value.int .i64 b, Value.int .i64 c] ?_
  refine WpFun.of (j2) ?_
  refine kp 55 (.tuple #[Value.agg #[Value.int .i64 N, FS 48 (List.length J) z (List.toArray (lcs J))], Value.int .i64 0]) ?_
  refine kp 66 (.agg #[Value.int .i64 N, FS 48 (List.length J) z (List.toArray (lcs J))]) ?_
  refine kp 67 (.int IntKind.i64 0) ?_
  refine md 9 (.pointer (some ⟨4, 0, none⟩)) (Blk.mk 34 true [Value.int .i64 0, Value.slice none 0 0]) ?_
  refine ld (.tuple #[]) (4) (Blk.mk 34 true [Value.int .i64 N, Value.iface 48 (Value.iface (List.length J) (Value.iface z (Value.agg (List.toArray (lcs J)))))]) ?_
  refine kp 10 (.int IntKind.i64 0) ?_
  refine WpOps.nil (thenK_at (Wp.seq (Wp.seq ?_)))
  refine Wp.region (by kernel_rfl) ?_
  refine kp 68 (.int IntKind.i64 0) ?_
  refine kp 69 (.int IntKind.i64 0) ?_
  refine kp 70 (.bool false) ?_
  refine kp 71 (.bool false) ?_
  refine kp 72 (.agg #[Value.int .i64 N, Value.iface 48 (Value.iface (List.length J) (Value.iface 0 (Value.agg (List.toArray (lcs J)))))]) ?_
  refine fr 73 14 [Value.agg #[Value.int .i64 N, Value.iface 48 (Value.iface (List.length J) (Value.iface 0 (Value.agg (List.toArray (lcs J)))))]] ?_
  refine WpFun.of (t3) ?_
  refine kp 74 (.agg #[Value.int .i64 N, Value.iface 48 (Value.iface (List.length J) (Value.iface z (Value.agg (List.toArray (lcs J)))))]) ?_
  refine fr 75 35 [Value.agg #[Value.int .i64 N, FS 48 (List.length J) 0 (List.toArray (lcs J))], Value.agg #[Value.int .i64 N, Value.iface 48 (Value.iface (List.length J) (Value.iface z (Value.agg (List.toArray (lcs J)))))]] ?_
  refine WpFun.of (s3) ?_
  refine kp 76 (.bool false) ?_
  refine kp 77 (.bool false) ?_
  refine WpOps.nil (thenK_at (off' (Wp.skip (thenK_at (Wp.seq (Wp.seq (Wp.text ?_)))))))
  refine kp 78 (.int IntKind.i64 0) ?_
  refine kp 79 (.bool false) ?_
  refine WpOps.nil (thenK_at (off' (Wp.skip (thenK_at (Wp.seq (Wp.text ?_))))))
  refine kp 82 (.agg #[Value.int .i64 N, Value.iface 48 (Value.iface (List.length J) (Value.iface 0 (Value.agg (List.toArray (lcs J)))))]) ?_
  refine kp 83 (.pointer (some ⟨0, 3, none⟩)) ?_
  refine kp 84 (.int IntKind.i64 b) ?_
  refine kp 85 (.pointer (some ⟨0, 2, none⟩)) ?_
  refine kp 86 (.int IntKind.i64 a) ?_
  refine fr 87 33 [Value.agg #[Value.int .i64 N, Value.iface 48 (Value.iface (List.length J) (Value.iface 0 (Value.agg (List.toArray (lcs J)))))], Value.int .i64 b, Value.int .i64 a] ?_
  refine WpFun.of (v1) ?_
  refine kp 81 (.tuple #[Value.agg #[Value.int .i64 N, FS 48 (List.length ls) 0 (List.toArray (lcs ls))], Value.int .i64 0]) ?_
  refine kp 88 (.agg #[Value.int .i64 N, FS 48 (List.length ls) 0 (List.toArray (lcs ls))]) ?_
  refine kp 89 (.int IntKind.i64 0) ?_
  refine md 11 (.pointer (some ⟨5, 0, none⟩)) (Blk.mk 24 true [Value.int .i64 0, Value.slice none 0 0]) ?_
  refine ld (.tuple #[]) (5) (Blk.mk 24 true [Value.int .i64 N, Value.iface 48 (Value.iface (List.length ls) (Value.iface 0 (Value.agg (List.toArray (lcs ls)))))]) ?_
  refine kp 8 (.int IntKind.i64 0) ?_
  refine WpOps.nil (thenK_at (Wp.seq (Wp.seq (Wp.text ?_))))
  refine kp 90 (.int IntKind.i64 3) ?_
  refine kp 91 (.bool true) ?_
  refine WpOps.nil (thenK_at (on' (Wp.seq ?_)))
  refine Wp.region (by kernel_rfl) ?_
  refine kp 92 (.int IntKind.i64 0) ?_
  refine kp 93 (.bool true) ?_
  refine kp 94 (.bool true) ?_
  refine kp 95 (.agg #[Value.int .i64 N, Value.iface 48 (Value.iface (List.length ls) (Value.iface 0 (Value.agg (List.toArray (lcs ls)))))]) ?_
  refine fr 96 14 [Value.agg #[Value.int .i64 N, Value.iface 48 (Value.iface (List.length ls) (Value.iface 0 (Value.agg (List.toArray (lcs ls)))))]] ?_
  refine WpFun.of (t4) ?_
  refine kp 97 (.pointer (some ⟨0, 0, none⟩)) ?_
  refine kp 98 (.agg #[Value.int .i64 N, Value.iface 48 (Value.iface (List.length ls) (Value.iface x (Value.agg (List.toArray (lcs ls)))))]) ?_
  refine fr 99 14 [Value.agg #[Value.int .i64 N, Value.iface 48 (Value.iface (List.length ls) (Value.iface x (Value.agg (List.toArray (lcs ls)))))]] ?_
  refine WpFun.of (t0) ?_
  refine fr 100 35 [Value.agg #[Value.int .i64 N, FS 48 (List.length ls) 0 (List.toArray (lcs ls))], Value.agg #[Value.int .i64 N, FS 48 (List.length ls) 0 (List.toArray (lcs ls))]] ?_
  refine WpFun.of (s4) ?_
  refine kp 101 (.bool true) ?_
  refine kp 102 (.bool true) ?_
  refine fr 103 17 [] ?_
  refine WpFun.of (c0) ?_
  refine kp 104 (.bool true) ?_
  refine kp 2 (.bool true) ?_
  refine WpOps.nil (thenK_at (Wp.ret (thenK_ret ?_)))
  refine endK_retn [Value.bool true] (Value.bool true) (by kernel_rfl) (by kernel_rfl) ?_
  rfl
set_option maxHeartbeats 8000000 in
theorem law8_some (N : Int) (x : Nat) (ls : List Lk) (a b c : Int) (y : Nat) (K : List Lk) (t0 : Fun E 14 [netV N x ls] (netV N 0 ls)) (k1 : Fun E 33 [netV N x ls, .int .i64 a, .int .i64 b] (.tuple #[netV N 0 K, .int .i64 0])) (k2 : Fun E 34 [netV N 0 ls, .int .i64 a, .int .i64 b] (.tuple #[netV N y K, .int .i64 0])) (t1 : Fun E 14 [netV N 0 K] (netV N 0 K)) (s1 : Fun E 35 [netV N 0 K, netV N y K] (.bool true)) (s2 : Fun E 35 [netV N 0 K, netV N 0 K] (.bool true)) (z : Nat) (J : List Lk) (t3 : Fun E 14 [netV N 0 J] (netV N 0 J)) (s3 : Fun E 35 [netV N 0 J, netV N z J] (.bool true)) (j1 : Fun E 36 [netV N x ls, .int .i64 a, .int .i64 b, .int .i64 c] (.tuple #[netV N 0 J, .int .i64 0])) (j2 : Fun E 37 [netV N 0 ls, .int .i64 a, .int .i64 b, .int .i64 c] (.tuple #[netV N z J, .int .i64 0])) (v1 : Fun E 33 [netV N 0 J, .int .i64 b, .int .i64 a] (.tuple #[netV N 0 K, .int .i64 0])) : Fun E 8 [caseV N x ls a b c] (.bool true) := by
  have c0 := sane17
  refine Fun.of f8 rfl (of_decide_eq_true (by kernel_rfl)) rfl ?_
  unfold caseV
  unfold netV lks at *
  refine Wp.seq (Wp.text ?_)
  refine md 1 (.pointer (some ⟨0, 0, none⟩)) (Blk.mk 71 true [Value.int .i64 N, Value.iface 48 (Value.iface (List.length ls) (Value.iface x (Value.agg (List.toArray (lcs ls))))), Value.int .i64 a, Value.int .i64 b, Value.int .i64 c]) ?_
  refine kp 2 (.bool false) ?_
  refine WpOps.nil (thenK_at (Wp.seq (Wp.text ?_)))
  refine kp 13 (.pointer (some ⟨0, 0, none⟩)) ?_
  refine kp 14 (.agg #[Value.int .i64 N, Value.iface 48 (Value.iface (List.length ls) (Value.iface x (Value.agg (List.toArray (lcs ls)))))]) ?_
  refine kp 15 (.pointer (some ⟨0, 2, none⟩)) ?_
  refine kp 16 (.int IntKind.i64 a) ?_
  refine kp 17 (.pointer (some ⟨0, 3, none⟩)) ?_
  refine kp 18 (.int IntKind.i64 b) ?_
  refine fr 19 33 [Value.agg #[Value.int .i64 N, Value.iface 48 (Value.iface (List.length ls) (Value.iface x (Value.agg (List.toArray (lcs ls)))))], Value.int .i64 a, Value.int .i64 b] ?_
  refine WpFun.of (k1) ?_
  refine kp 12 (.tuple #[Value.agg #[Value.int .i64 N, FS 48 (List.length K) 0 (List.toArray (lcs K))], Value.int .i64 0]) ?_
  refine kp 20 (.agg #[Value.int .i64 N, FS 48 (List.length K) 0 (List.toArray (lcs K))]) ?_
  refine kp 21 (.int IntKind.i64 0) ?_
  refine md 3 (.pointer (some ⟨1, 0, none⟩)) (Blk.mk 24 true [Value.int .i64 0, Value.slice none 0 0]) ?_
  refine ld (.tuple #[]) (1) (Blk.mk 24 true [Value.int .i64 N, Value.iface 48 (Value.iface (List.length K) (Value.iface 0 (Value.agg (List.toArray (lcs K)))))]) ?_
  refine kp 4 (.int IntKind.i64 0) ?_
  refine WpOps.nil (thenK_at (Wp.seq ?_))
  refine Wp.region (by kernel_rfl) ?_
  refine kp 23 (.pointer (some ⟨0, 0, none⟩)) ?_
  refine kp 24 (.agg #[Value.int .i64 N, Value.iface 48 (Value.iface (List.length ls) (Value.iface x (Value.agg (List.toArray (lcs ls)))))]) ?_
  refine fr 25 14 [Value.agg #[Value.int .i64 N, Value.iface 48 (Value.iface (List.length ls) (Value.iface x (Value.agg (List.toArray (lcs ls)))))]] ?_
  refine WpFun.of (t0) ?_
  refine kp 26 (.pointer (some ⟨0, 2, none⟩)) ?_
  refine kp 27 (.int IntKind.i64 a) ?_
  refine kp 28 (.pointer (some ⟨0, 3, none⟩)) ?_
  refine kp 29 (.int IntKind.i64 b) ?_
  refine fr 30 34 [Value.agg #[Value.int .i64 N, FS 48 (List.length ls) 0 (List.toArray (lcs ls))], Value.int .i64 a, Value.int .i64 b] ?_
  refine WpFun.of (k2) ?_
  refine kp 22 (.tuple #[Value.agg #[Value.int .i64 N, FS 48 (List.length K) y (List.toArray (lcs K))], Value.int .i64 0]) ?_
  refine kp 31 (.agg #[Value.int .i64 N, FS 48 (List.length K) y (List.toArray (lcs K))]) ?_
  refine kp 32 (.int IntKind.i64 0) ?_
  refine md 5 (.pointer (some ⟨2, 0, none⟩)) (Blk.mk 34 true [Value.int .i64 0, Value.slice none 0 0]) ?_
  refine ld (.tuple #[]) (2) (Blk.mk 34 true [Value.int .i64 N, Value.iface 48 (Value.iface (List.length K) (Value.iface y (Value.agg (List.toArray (lcs K)))))]) ?_
  refine kp 6 (.int IntKind.i64 0) ?_
  refine WpOps.nil (thenK_at (Wp.seq (Wp.seq ?_)))
  refine Wp.region (by kernel_rfl) ?_
  refine kp 33 (.int IntKind.i64 0) ?_
  refine kp 34 (.int IntKind.i64 0) ?_
  refine kp 35 (.bool false) ?_
  refine kp 36 (.bool false) ?_
  refine kp 37 (.agg #[Value.int .i64 N, Value.iface 48 (Value.iface (List.length K) (Value.iface 0 (Value.agg (List.toArray (lcs K)))))]) ?_
  refine fr 38 14 [Value.agg #[Value.int .i64 N, Value.iface 48 (Value.iface (List.length K) (Value.iface 0 (Value.agg (List.toArray (lcs K)))))]] ?_
  refine WpFun.of (t1) ?_
  refine kp 39 (.agg #[Value.int .i64 N, Value.iface 48 (Value.iface (List.length K) (Value.iface y (Value.agg (List.toArray (lcs K)))))]) ?_
  refine fr 40 35 [Value.agg #[Value.int .i64 N, FS 48 (List.length K) 0 (List.toArray (lcs K))], Value.agg #[Value.int .i64 N, Value.iface 48 (Value.iface (List.length K) (Value.iface y (Value.agg (List.toArray (lcs K)))))]] ?_
  refine WpFun.of (s1) ?_
  refine kp 41 (.bool false) ?_
  refine kp 42 (.bool false) ?_
  refine WpOps.nil (thenK_at (off' (Wp.skip (thenK_at (Wp.seq (Wp.text ?_))))))
  refine kp 44 (.pointer (some ⟨0, 0, none⟩)) ?_
  refine kp 45 (.agg #[Value.int .i64 N, Value.iface 48 (Value.iface (List.length ls) (Value.iface x (Value.agg (List.toArray (lcs ls)))))]) ?_
  refine kp 46 (.pointer (some ⟨0, 2, none⟩)) ?_
  refine kp 47 (.int IntKind.i64 a) ?_
  refine kp 48 (.pointer (some ⟨0, 3, none⟩)) ?_
  refine kp 49 (.int IntKind.i64 b) ?_
  refine kp 50 (.pointer (some ⟨0, 4, none⟩)) ?_
  refine kp 51 (.int IntKind.i64 c) ?_
  refine fr 52 36 [Value.agg #[Value.int .i64 N, Value.iface 48 (Value.iface (List.length ls) (Value.iface x (Value.agg (List.toArray (lcs ls)))))], Value.int .i64 a, Value.int .i64 b, Value.int .i64 c] ?_
  refine WpFun.of (j1) ?_
  refine kp 43 (.tuple #[Value.agg #[Value.int .i64 N, FS 48 (List.length J) 0 (List.toArray (lcs J))], Value.int .i64 0]) ?_
  refine kp 53 (.agg #[Value.int .i64 N, FS 48 (List.length J) 0 (List.toArray (lcs J))]) ?_
  refine kp 54 (.int IntKind.i64 0) ?_
  refine md 7 (.pointer (some ⟨3, 0, none⟩)) (Blk.mk 24 true [Value.int .i64 0, Value.slice none 0 0]) ?_
  refine ld (.tuple #[]) (3) (Blk.mk 24 true [Value.int .i64 N, Value.iface 48 (Value.iface (List.length J) (Value.iface 0 (Value.agg (List.toArray (lcs J)))))]) ?_
  refine kp 8 (.int IntKind.i64 0) ?_
  refine WpOps.nil (thenK_at (Wp.seq ?_))
  refine Wp.region (by kernel_rfl) ?_
  refine kp 56 (.pointer (some ⟨0, 0, none⟩)) ?_
  refine kp 57 (.agg #[Value.int .i64 N, Value.iface 48 (Value.iface (List.length ls) (Value.iface x (Value.agg (List.toArray (lcs ls)))))]) ?_
  refine fr 58 14 [Value.agg #[Value.int .i64 N, Value.iface 48 (Value.iface (List.length ls) (Value.iface x (Value.agg (List.toArray (lcs ls)))))]] ?_
  refine WpFun.of (t0) ?_
  refine kp 59 (.pointer (some ⟨0, 2, none⟩)) ?_
  refine kp 60 (.int IntKind.i64 a) ?_
  refine kp 61 (.pointer (some ⟨0, 3, none⟩)) ?_
  refine kp 62 (.int IntKind.i64 b) ?_
  refine kp 63 (.pointer (some ⟨0, 4, none⟩)) ?_
  refine kp 64 (.int IntKind.i64 c) ?_
  refine fr 65 37 [Value.agg #[Value.int .i64 N, FS 48 (List.length ls) 0 (List.toArray (lcs ls))], Value.int .i64 a, Value.int .i64 b, Value.int .i64 c] ?_
  refine WpFun.of (j2) ?_
  refine kp 55 (.tuple #[Value.agg #[Value.int .i64 N, FS 48 (List.length J) z (List.toArray (lcs J))], Value.int .i64 0]) ?_
  refine kp 66 (.agg #[Value.int .i64 N, FS 48 (List.length J) z (List.toArray (lcs J))]) ?_
  refine kp 67 (.int IntKind.i64 0) ?_
  refine md 9 (.pointer (some ⟨4, 0, none⟩)) (Blk.mk 34 true [Value.int .i64 0, Value.slice none 0 0]) ?_
  refine ld (.tuple #[]) (4) (Blk.mk 34 true [Value.int .i64 N, Value.iface 48 (Value.iface (List.length J) (Value.iface z (Value.agg (List.toArray (lcs J)))))]) ?_
  refine kp 10 (.int IntKind.i64 0) ?_
  refine WpOps.nil (thenK_at (Wp.seq (Wp.seq ?_)))
  refine Wp.region (by kernel_rfl) ?_
  refine kp 68 (.int IntKind.i64 0) ?_
  refine kp 69 (.int IntKind.i64 0) ?_
  refine kp 70 (.bool false) ?_
  refine kp 71 (.bool false) ?_
  refine kp 72 (.agg #[Value.int .i64 N, Value.iface 48 (Value.iface (List.length J) (Value.iface 0 (Value.agg (List.toArray (lcs J)))))]) ?_
  refine fr 73 14 [Value.agg #[Value.int .i64 N, Value.iface 48 (Value.iface (List.length J) (Value.iface 0 (Value.agg (List.toArray (lcs J)))))]] ?_
  refine WpFun.of (t3) ?_
  refine kp 74 (.agg #[Value.int .i64 N, Value.iface 48 (Value.iface (List.length J) (Value.iface z (Value.agg (List.toArray (lcs J)))))]) ?_
  refine fr 75 35 [Value.agg #[Value.int .i64 N, FS 48 (List.length J) 0 (List.toArray (lcs J))], Value.agg #[Value.int .i64 N, Value.iface 48 (Value.iface (List.length J) (Value.iface z (Value.agg (List.toArray (lcs J)))))]] ?_
  refine WpFun.of (s3) ?_
  refine kp 76 (.bool false) ?_
  refine kp 77 (.bool false) ?_
  refine WpOps.nil (thenK_at (off' (Wp.skip (thenK_at (Wp.seq (Wp.seq (Wp.text ?_)))))))
  refine kp 78 (.int IntKind.i64 0) ?_
  refine kp 79 (.bool false) ?_
  refine WpOps.nil (thenK_at (off' (Wp.skip (thenK_at (Wp.seq (Wp.text ?_))))))
  refine kp 82 (.agg #[Value.int .i64 N, Value.iface 48 (Value.iface (List.length J) (Value.iface 0 (Value.agg (List.toArray (lcs J)))))]) ?_
  refine kp 83 (.pointer (some ⟨0, 3, none⟩)) ?_
  refine kp 84 (.int IntKind.i64 b) ?_
  refine kp 85 (.pointer (some ⟨0, 2, none⟩)) ?_
  refine kp 86 (.int IntKind.i64 a) ?_
  refine fr 87 33 [Value.agg #[Value.int .i64 N, Value.iface 48 (Value.iface (List.length J) (Value.iface 0 (Value.agg (List.toArray (lcs J)))))], Value.int .i64 b, Value.int .i64 a] ?_
  refine WpFun.of (v1) ?_
  refine kp 81 (.tuple #[Value.agg #[Value.int .i64 N, FS 48 (List.length K) 0 (List.toArray (lcs K))], Value.int .i64 0]) ?_
  refine kp 88 (.agg #[Value.int .i64 N, FS 48 (List.length K) 0 (List.toArray (lcs K))]) ?_
  refine kp 89 (.int IntKind.i64 0) ?_
  refine md 11 (.pointer (some ⟨5, 0, none⟩)) (Blk.mk 24 true [Value.int .i64 0, Value.slice none 0 0]) ?_
  refine ld (.tuple #[]) (5) (Blk.mk 24 true [Value.int .i64 N, Value.iface 48 (Value.iface (List.length K) (Value.iface 0 (Value.agg (List.toArray (lcs K)))))]) ?_
  refine kp 8 (.int IntKind.i64 0) ?_
  refine WpOps.nil (thenK_at (Wp.seq (Wp.seq (Wp.text ?_))))
  refine kp 90 (.int IntKind.i64 0) ?_
  refine kp 91 (.bool false) ?_
  refine WpOps.nil (thenK_at (off' (Wp.skip (thenK_at (Wp.seq ?_)))))
  refine Wp.region (by kernel_rfl) ?_
  refine kp 105 (.int IntKind.i64 0) ?_
  refine kp 106 (.bool true) ?_
  refine kp 107 (.bool true) ?_
  refine kp 108 (.agg #[Value.int .i64 N, Value.iface 48 (Value.iface (List.length K) (Value.iface 0 (Value.agg (List.toArray (lcs K)))))]) ?_
  refine fr 109 14 [Value.agg #[Value.int .i64 N, Value.iface 48 (Value.iface (List.length K) (Value.iface 0 (Value.agg (List.toArray (lcs K)))))]] ?_
  refine WpFun.of (t1) ?_
  refine kp 110 (.agg #[Value.int .i64 N, Value.iface 48 (Value.iface (List.length K) (Value.iface 0 (Value.agg (List.toArray (lcs K)))))]) ?_
  refine fr 111 14 [Value.agg #[Value.int .i64 N, Value.iface 48 (Value.iface (List.length K) (Value.iface 0 (Value.agg (List.toArray (lcs K)))))]] ?_
  refine WpFun.of (t1) ?_
  refine fr 112 35 [Value.agg #[Value.int .i64 N, FS 48 (List.length K) 0 (List.toArray (lcs K))], Value.agg #[Value.int .i64 N, FS 48 (List.length K) 0 (List.toArray (lcs K))]] ?_
  refine WpFun.of (s2) ?_
  refine kp 113 (.bool true) ?_
  refine kp 114 (.bool true) ?_
  refine fr 115 17 [] ?_
  refine WpFun.of (c0) ?_
  refine kp 116 (.bool true) ?_
  refine kp 2 (.bool true) ?_
  refine WpOps.nil (thenK_at (Wp.ret ?_))
  refine endK_retn [Value.bool true] (Value.bool true) (by kernel_rfl) (by kernel_rfl) ?_
  rfl
theorem law8 (N : Int) (x : Nat) (ls : List Lk) (a b c : Int) (hx : x = 0 ∨ (x = 2 ∧ ls = [])) (hy : ls.length * 24 ≤ 140737488351232) : Fun E 8 [caseV N x ls a b c] (.bool true) := by
  have t0 := to14 N x ls hy
  have e1 := valid25 N x ls (by omega)
  have e2 := valid26 N 0 ls (by omega)
  by_cases hv : valid N ls = true
  · rw [hv] at e1 e2
    by_cases hc : okCut true N a b = true
    · have hl := valid_len hv
      by_cases hj : okJoin true N a b c = true
      · have hJ := valid_join hv hj
        have hJl := valid_len hJ
        have j1 := join36 N x ls a b c hx hy e1 hj
        have j2 := join37_ok N 0 ls a b c hy e2 hj
        rw [joinL_is (valid_iff.1 hv).2.2] at j1
        have t3 := to14 N 0 (joinR a b c ls) (by omega)
        have s3 := same35 N 0 (xOf (joinR a b c ls)) (joinR a b c ls) (by omega) (self_cost hJ)
        have e3 := valid25 N 0 (joinR a b c ls) (by omega)
        rw [hJ] at e3
        have v1 : Fun E 33 [netV N 0 (joinR a b c ls), .int .i64 b, .int .i64 a] (.tuple #[netV N 0 (cutL (hit a b) ls), .int .i64 0]) := by
          rcases cut33 N 0 (joinR a b c ls) b a (.inl rfl) (by omega) e3 (okCut_swap hc) with ⟨e, _⟩ | ⟨_, e⟩
          · rw [hit_swap] at e
            exact absurd e (find_join a b c ls)
          · rw [hit_swap, cut_join] at e
            exact e
        rcases cut33 N x ls a b hx hy e1 hc with ⟨hf, k1⟩ | ⟨hf, k1⟩
        · have k2 := cut34_none N 0 ls a b e2 hc (by omega) (cost_none hf)
          rw [cut_none hf] at v1
          exact law8_none N x ls a b c t0 k1 k2 _ _ t3 s3 j1 j2 v1 (to14 N 0 ls hy) (same35 N 0 0 ls hy (self_cost hv))
        · have k2 := cut34_ok N 0 ls a b e2 hc hy (cost_some hv hf)
          have hk : (cutL (hit a b) ls).length ≤ ls.length := List.length_filter_le _ _
          have hK := valid_cut (P := hit a b) hv
          exact law8_some N x ls a b c _ _ t0 k1 k2 (to14 N 0 _ (by omega)) (same35 N 0 _ _ (by omega) (self_cost hK)) (same35 N 0 0 _ (by omega) (self_cost hK)) _ _ t3 s3 j1 j2 v1
      · have hj' : okJoin true N a b c = false := by simpa using hj
        have j1 := join36_bad N x ls a b c true e1 hj'
        have j2 := join37_bad N 0 ls a b c true e2 hj'
        rcases cut33 N x ls a b hx hy e1 hc with ⟨hf, k1⟩ | ⟨hf, k1⟩
        · exact law8_none_bad N x ls a b c t0 k1 (cut34_none N 0 ls a b e2 hc (by omega) (cost_none hf)) j1 j2
        · have hk : (cutL (hit a b) ls).length ≤ ls.length := List.length_filter_le _ _
          have hK := valid_cut (P := hit a b) hv
          exact law8_some_bad N x ls a b c _ _ t0 k1 (cut34_ok N 0 ls a b e2 hc hy (cost_some hv hf)) (to14 N 0 _ (by omega)) (same35 N 0 _ _ (by omega) (self_cost hK)) j1 j2
    · have hc' : okCut true N a b = false := by simpa using hc
      exact law8_bad N x ls a b c t0 (cut33_bad N x ls a b true e1 hc') (cut34_bad N 0 ls a b true e2 hc') (join36_bad N x ls a b c true e1 (okJoin_cut hc')) (join37_bad N 0 ls a b c true e2 (okJoin_cut hc'))
  · have hv' : valid N ls = false := by simpa using hv
    rw [hv'] at e1 e2
    have hc' : okCut false N a b = false := rfl
    exact law8_bad N x ls a b c t0 (cut33_bad N x ls a b false e1 hc') (cut34_bad N 0 ls a b false e2 hc') (join36_bad N x ls a b c false e1 (okJoin_cut hc')) (join37_bad N 0 ls a b c false e2 (okJoin_cut hc'))
end Go.Proofs.Ytfjkanjmggbofaa.D
