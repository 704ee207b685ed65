/- relay: ticks of no way, what comes out of a wire, puts as they are lent. -/
import Derived.Test.YtdkmdpklojeepaaFwLem
import Derived.Test.YtdkmdpklojeepaaFwHole
import Derived.Test.YtdkmdpklojeepaaR09d
import Derived.Test.YtdkmdpklojeepaaFwHoleL
namespace Go.Proofs.Ytdkmdpklojeepaa.D
open Go.Fw Go.RowKit

theorem h62 : E.funcs 62 = some Try.f62 := by kernel_rfl
theorem ins62n : Lent E 62 [.slice none 0 0, .int .i64 0, .int .i64 0, .func (.func 43) #[] #[]] [] (.tuple #[]) [] := by
  refine Lent.of h62 rfl (of_decide_eq_true (by kernel_rfl)) rfl rfl (Nat.le_refl _) rfl rfl rfl ?_
  refine Wp.seq (Wp.text ?_)
  refine kp 10 (.int IntKind.i64 0) ?_
  refine kp 11 (.int IntKind.i64 (IntKind.wrap .i64 (0 + 1))) ?_
  refine kp 8 (.int IntKind.i64 (IntKind.wrap .i64 (0 + 1))) ?_
  refine WpOps.nil (thenK_at (Wp.block ?_))
  refine Wp.unroll (WpL.step ?_)
  refine Wp.seq (Wp.seq (Wp.text ?_))
  refine kp 12 (.int IntKind.i64 (IntKind.wrap .i64 (0 + 1))) ?_
  refine kp 13 (.int IntKind.i64 0) ?_
  refine kp 14 (.bool false) ?_
  refine WpOps.nil (thenK_at (off' (Wp.exit (thenK_exit (thenK_exit (blockK_hit ?_))))))
  refine endK_norm [] (Value.tuple #[]) (by kernel_rfl) (by kernel_rfl) ?_
  exact ⟨[], by decide, by kernel_rfl, trivial, .w (.un rfl rfl)⟩
theorem stable60n : Lent E 60 [.slice none 0 0, .int .i64 0, .func (.func 43) #[] #[]] [] (.tuple #[]) [] := by
  have c1 := ins62n
  refine Lent.of f60 rfl (of_decide_eq_true (by kernel_rfl)) rfl rfl (Nat.le_refl _) rfl rfl rfl ?_
  refine Wp.seq (Wp.text ?_)
  refine kp 6 (.int IntKind.i64 20) ?_
  refine WpOps.nil (thenK_at (Wp.seq (Wp.text ?_)))
  refine kp 10 (.int IntKind.i64 20) ?_
  refine kp 7 (.int IntKind.i64 0) ?_
  refine kp 8 (.int IntKind.i64 20) ?_
  refine WpOps.nil (thenK_at (Wp.seq (Wp.block ?_)))
  refine Wp.unroll (WpL.step ?_)
  refine Wp.seq (Wp.seq (Wp.text ?_))
  refine kp 11 (.int IntKind.i64 20) ?_
  refine kp 12 (.int IntKind.i64 0) ?_
  refine kp 13 (.bool false) ?_
  refine WpOps.nil (thenK_at (off' (Wp.exit (thenK_exit (thenK_exit (blockK_hit (thenK_at (Wp.seq (Wp.text ?_)))))))))
  refine kp 23 (.slice none 0 0) ?_
  refine kp 24 (.int IntKind.i64 0) ?_
  refine kp 25 (.int IntKind.i64 0) ?_
  refine kp 26 (.func (Fn.func 43) #[] #[]) ?_
  refine cl 27 62 [Value.slice none 0 0, Value.int .i64 0, Value.int .i64 0, Value.func (Fn.func 43) #[] #[]] ?_
  refine WpCall.lent [] (c1) (by decide) trivial (by kernel_rfl) (Value.tuple #[]) ([]) .nil (by kernel_rfl) (heapOf []) (by kernel_rfl) ?_
  refine WpOps.nil (thenK_at (Wp.block ?_))
  refine Wp.unroll (WpL.step ?_)
  refine Wp.seq (Wp.seq (Wp.text ?_))
  refine kp 28 (.int IntKind.i64 20) ?_
  refine kp 29 (.int IntKind.i64 0) ?_
  refine kp 30 (.bool false) ?_
  refine WpOps.nil (thenK_at (off' (Wp.exit (thenK_exit (thenK_exit (blockK_hit ?_))))))
  refine endK_norm [] (Value.tuple #[]) (by kernel_rfl) (by kernel_rfl) ?_
  exact ⟨[], by decide, by kernel_rfl, trivial, .w (.un rfl rfl)⟩
theorem sort42n : Lent E 42 [.slice none 0 0, .func (.func 43) #[] #[]] [] (.tuple #[]) [] := by
  have c1 := stable60n
  refine Lent.of f42 rfl (of_decide_eq_true (by kernel_rfl)) rfl rfl (Nat.le_refl _) rfl rfl rfl ?_
  refine Wp.text ?_
  refine kp 4 (.slice none 0 0) ?_
  refine kp 5 (.slice none 0 0) ?_
  refine kp 6 (.int IntKind.i64 (↑0 : Int)) ?_
  refine kp 7 (.func (Fn.func 43) #[] #[]) ?_
  refine cl 8 60 [Value.slice none 0 0, Value.int .i64 (↑0 : Int), Value.func (Fn.func 43) #[] #[]] ?_
  refine WpCall.lent [] (c1) (by decide) trivial (by kernel_rfl) (Value.tuple #[]) ([]) .nil (by kernel_rfl) (heapOf []) (by kernel_rfl) ?_
  refine WpOps.nil ?_
  refine endK_norm [] (Value.tuple #[]) (by kernel_rfl) (by kernel_rfl) ?_
  exact ⟨[], by decide, by kernel_rfl, trivial, .w (.un rfl rfl)⟩
theorem tick14e (k : Int) (L : List Ft) (t : Nat) (u : Int) (ht : t ≤ 1000000) : Lent E 14 [.pointer (some ⟨0, 0, none⟩)] [mB k L t u (.slice none 0 0)] (.slice none 0 0) [mB k L (t + 1 : Nat) u (.slice none 0 0)] := by
  refine Lent.of h14 rfl (of_decide_eq_true (by kernel_rfl)) rfl rfl (Nat.le_refl _) rfl rfl rfl ?_
  have c0 := none40n k L t u
  have c1 := sort42n
  have wt : IntKind.i64.wrap ((t : Int) + 1) = ((t + 1 : Nat) : Int) := by rw [wr _ (by omega) (by omega)]; omega
  unfold mB at c0 ⊢
  refine Wp.seq (Wp.text ?_)
  refine kp 2 (.slice none 0 0) ?_
  refine WpOps.nil (thenK_at (Wp.seq (Wp.seq (Wp.text ?_))))
  refine kp 4 (.pointer (some ⟨0, 0, none⟩)) ?_
  refine cl 5 40 [Value.pointer (some ⟨0, 0, none⟩)] ?_
  refine WpCall.lent [0] (c0) (by decide) ⟨⟨[Value.int IntKind.i64 k, Value.iface 46 (Value.iface (List.length L) (Value.iface 0 (Value.agg (List.toArray (fts L))))), Value.int IntKind.i64 (↑t : Int), Value.int IntKind.i64 u, Value.slice none 0 0], (by kernel_rfl), (by kernel_rfl), (by kernel_rfl)⟩, trivial⟩ (by kernel_rfl) (Value.bool false) ([Blk.mk 66 true [Value.int IntKind.i64 k, Value.iface 46 (Value.iface (List.length L) (Value.iface 0 (Value.agg (List.toArray (fts L))))), Value.int IntKind.i64 (↑t : Int), Value.int IntKind.i64 u, Value.slice none 0 0]]) (.cons (by kernel_rfl) .nil) (by kernel_rfl) (Heap.set (heapOf [Blk.mk 66 true [Value.int IntKind.i64 k, FS 46 (List.length L) 0 (List.toArray (fts L)), Value.int IntKind.i64 (↑t : Int), Value.int IntKind.i64 u, Value.slice none 0 0]]) 0 (some (Blk.mk 66 true [Value.int IntKind.i64 k, Value.iface 46 (Value.iface (List.length L) (Value.iface 0 (Value.agg (List.toArray (fts L))))), Value.int IntKind.i64 (↑t : Int), Value.int IntKind.i64 u, Value.slice none 0 0]))) (by kernel_rfl) ?_
  refine WpOps.nil (thenK_at (off' (Wp.skip (thenK_at (Wp.seq (Wp.text ?_))))))
  refine kp 6 (.pointer (some ⟨0, 0, none⟩)) ?_
  refine kp 7 (.pointer (some ⟨0, 0, none⟩)) ?_
  refine kp 8 (.pointer (some ⟨0, 2, none⟩)) ?_
  refine kp 9 (.int IntKind.i64 (↑t : Int)) ?_
  refine kp 10 (.int IntKind.i64 (IntKind.wrap .i64 ((↑t : Int) + 1))) ?_
  refine kp 11 (.pointer (some ⟨0, 0, none⟩)) ?_
  refine kp 12 (.pointer (some ⟨0, 2, none⟩)) ?_
  refine ld (.tuple #[]) (0) (Blk.mk 66 true [Value.int .i64 k, Value.iface 46 (Value.iface (List.length L) (Value.iface 0 (Value.agg (List.toArray (fts L))))), Value.int .i64 (IntKind.wrap .i64 ((↑t : Int) + 1)), Value.int .i64 u, Value.slice none 0 0]) ?_
  refine WpOps.nil (thenK_at (Wp.seq (Wp.text ?_)))
  refine kp 13 (.pointer (some ⟨0, 0, none⟩)) ?_
  refine kp 14 (.pointer (some ⟨0, 0, none⟩)) ?_
  refine kp 15 (.pointer (some ⟨0, 4, none⟩)) ?_
  refine kp 16 (.slice none 0 0) ?_
  refine cl 17 42 [Value.slice none 0 0, Value.func (Fn.func 43) #[] #[]] ?_
  refine WpCall.lent [] (c1) (by decide) trivial (by kernel_rfl) (Value.tuple #[]) ([]) .nil (by kernel_rfl) (Heap.set (Heap.set (heapOf [Blk.mk 66 true [Value.int IntKind.i64 k, FS 46 (List.length L) 0 (List.toArray (fts L)), Value.int IntKind.i64 (↑t : Int), Value.int IntKind.i64 u, Value.slice none 0 0]]) 0 (some (Blk.mk 66 true [Value.int IntKind.i64 k, Value.iface 46 (Value.iface (List.length L) (Value.iface 0 (Value.agg (List.toArray (fts L))))), Value.int IntKind.i64 (↑t : Int), Value.int IntKind.i64 u, Value.slice none 0 0]))) 0 (some (Blk.mk 66 true [Value.int IntKind.i64 k, Value.iface 46 (Value.iface (List.length L) (Value.iface 0 (Value.agg (List.toArray (fts L))))), Value.int IntKind.i64 (IntKind.wrap IntKind.i64 ((↑t : Int) + 1)), Value.int IntKind.i64 u, Value.slice none 0 0]))) (by kernel_rfl) ?_
  refine WpOps.nil (thenK_at (Wp.seq (Wp.text ?_)))
  refine kp 3 (.slice none 0 0) ?_
  refine WpOps.nil (thenK_at (Wp.seq (Wp.block ?_)))
  rw [wt]
  refine Wp.unroll (WpL.step ?_)
  refine Wp.seq (Wp.seq ?_)
  refine Wp.region (by kernel_rfl) ?_
  refine kp 18 (.pointer (some ⟨0, 0, none⟩)) ?_
  refine kp 19 (.pointer (some ⟨0, 0, none⟩)) ?_
  refine kp 20 (.pointer (some ⟨0, 4, none⟩)) ?_
  refine kp 21 (.slice none 0 0) ?_
  refine kp 22 (.int IntKind.i64 (↑0 : Int)) ?_
  refine kp 23 (.bool false) ?_
  refine kp 24 (.bool false) ?_
  refine um 25 ?_
  refine um 26 ?_
  refine um 27 ?_
  refine um 28 ?_
  refine um 29 ?_
  refine um 30 ?_
  refine um 31 ?_
  refine um 32 ?_
  refine um 33 ?_
  refine um 34 ?_
  refine um 35 ?_
  refine um 36 ?_
  refine kp 37 (.bool false) ?_
  refine WpOps.nil (thenK_at (off' (Wp.exit (thenK_exit (thenK_exit (blockK_hit (thenK_at (Wp.seq (Wp.text ?_)))))))))
  refine kp 56 (.slice none 0 0) ?_
  refine kp 2 (.slice none 0 0) ?_
  refine WpOps.nil (thenK_at (Wp.ret ?_))
  refine endK_retn [Value.slice none 0 0] (Value.slice none 0 0) (by kernel_rfl) (by kernel_rfl) ?_
  exact ⟨[0], by decide, by kernel_rfl, ⟨⟨_, by kernel_rfl, toldC_flat rfl⟩, trivial⟩, .w (.un rfl rfl)⟩
theorem h18 : E.funcs 18 = some Try.f18 := by kernel_rfl
theorem waiting18e (k : Int) (L : List Ft) (t u : Int) : Lent E 18 [.pointer (some ⟨0, 0, none⟩)] [mB k L t u (.slice none 0 0)] (.int .i64 0) [mB k L t u (.slice none 0 0)] := by
  have c0 := none40n k L t u
  refine Lent.of h18 rfl (of_decide_eq_true (by kernel_rfl)) rfl rfl (Nat.le_refl _) rfl rfl rfl ?_
  unfold mB at c0 ⊢
  refine Wp.seq (Wp.text ?_)
  refine kp 2 (.int IntKind.i64 0) ?_
  refine WpOps.nil (thenK_at (Wp.seq (Wp.seq (Wp.text ?_))))
  refine kp 3 (.pointer (some ⟨0, 0, none⟩)) ?_
  refine cl 4 40 [Value.pointer (some ⟨0, 0, none⟩)] ?_
  refine WpCall.lent [0] (c0) (by decide) ⟨⟨[Value.int IntKind.i64 k, Value.iface 46 (Value.iface (List.length L) (Value.iface 0 (Value.agg (List.toArray (fts L))))), Value.int IntKind.i64 t, Value.int IntKind.i64 u, Value.slice none 0 0], (by kernel_rfl), (by kernel_rfl), (by kernel_rfl)⟩, trivial⟩ (by kernel_rfl) (Value.bool false) ([Blk.mk 66 true [Value.int IntKind.i64 k, Value.iface 46 (Value.iface (List.length L) (Value.iface 0 (Value.agg (List.toArray (fts L))))), Value.int IntKind.i64 t, Value.int IntKind.i64 u, Value.slice none 0 0]]) (.cons (by kernel_rfl) .nil) (by kernel_rfl) (Heap.set (heapOf [Blk.mk 66 true [Value.int IntKind.i64 k, FS 46 (List.length L) 0 (List.toArray (fts L)), Value.int IntKind.i64 t, Value.int IntKind.i64 u, Value.slice none 0 0]]) 0 (some (Blk.mk 66 true [Value.int IntKind.i64 k, Value.iface 46 (Value.iface (List.length L) (Value.iface 0 (Value.agg (List.toArray (fts L))))), Value.int IntKind.i64 t, Value.int IntKind.i64 u, Value.slice none 0 0]))) (by kernel_rfl) ?_
  refine WpOps.nil (thenK_at (off' (Wp.skip (thenK_at (Wp.seq (Wp.text ?_))))))
  refine kp 5 (.pointer (some ⟨0, 0, none⟩)) ?_
  refine kp 6 (.pointer (some ⟨0, 0, none⟩)) ?_
  refine kp 7 (.pointer (some ⟨0, 4, none⟩)) ?_
  refine kp 8 (.slice none 0 0) ?_
  refine kp 9 (.int IntKind.i64 (↑0 : Int)) ?_
  refine kp 2 (.int IntKind.i64 (↑0 : Int)) ?_
  refine WpOps.nil (thenK_at (Wp.ret ?_))
  refine endK_retn [Value.int IntKind.i64 (↑0 : Int)] (Value.int IntKind.i64 (↑0 : Int)) (by kernel_rfl) (by kernel_rfl) ?_
  exact ⟨[0], by decide, by kernel_rfl, ⟨⟨_, by kernel_rfl, toldC_flat rfl⟩, trivial⟩, .w (.un rfl rfl)⟩
theorem waiting18o (k : Int) (L : List Ft) (t u : Int) (o n c : Nat) (R : List Tr) : Lent E 18 [.pointer (some ⟨0, 0, none⟩)] [mB k L t u (.slice (some ⟨1, o, none⟩) n c), rowB R] (.int .i64 n) [mB k L t u (.slice (some ⟨1, o, none⟩) n c), rowB R] := by
  have c0 := none40o k L t u o n c R
  have hfl : (rowB R).cells.all flat = true := tcs_flat _
  refine Lent.of h18 rfl (of_decide_eq_true (by kernel_rfl)) rfl rfl (Nat.le_refl _) rfl ?_ rfl ?_
  · simp only [mB, rowB, List.all_cons, List.all_nil, okCs_flat (tcs_flat _), Bool.and_true]
    rfl
  unfold mB at c0 ⊢
  refine Wp.seq (Wp.text ?_)
  refine kp 2 (.int IntKind.i64 0) ?_
  refine WpOps.nil (thenK_at (Wp.seq (Wp.seq (Wp.text ?_))))
  refine kp 3 (.pointer (some ⟨0, 0, none⟩)) ?_
  refine cl 4 40 [Value.pointer (some ⟨0, 0, none⟩)] ?_
  refine WpCall.lent [0, 1] (c0) (by decide) ⟨⟨[Value.int IntKind.i64 k, Value.iface 46 (Value.iface (List.length L) (Value.iface 0 (Value.agg (List.toArray (fts L))))), Value.int IntKind.i64 t, Value.int IntKind.i64 u, Value.slice (some (Addr.mk 1 o none)) n c], (by kernel_rfl), (by kernel_rfl), (by kernel_rfl)⟩, ⟨⟨_, (by kernel_rfl), CellsOk.eq rfl (by assumption)⟩, trivial⟩⟩ (by kernel_rfl) (Value.bool false) ([Blk.mk 66 true [Value.int IntKind.i64 k, Value.iface 46 (Value.iface (List.length L) (Value.iface 0 (Value.agg (List.toArray (fts L))))), Value.int IntKind.i64 t, Value.int IntKind.i64 u, Value.slice (some (Addr.mk (List.getD [0, 1] 1 0) o none)) n c], Blk.mk 73 true (tcs R)]) (.cons (by kernel_rfl) (.cons (unB_flat (by assumption)) .nil)) (by kernel_rfl) (Heap.set (Heap.set (heapOf [Blk.mk 66 true [Value.int IntKind.i64 k, FS 46 (List.length L) 0 (List.toArray (fts L)), Value.int IntKind.i64 t, Value.int IntKind.i64 u, Value.slice (some (Addr.mk 1 o none)) n c], rowB R]) 0 (some (Blk.mk 66 true [Value.int IntKind.i64 k, Value.iface 46 (Value.iface (List.length L) (Value.iface 0 (Value.agg (List.toArray (fts L))))), Value.int IntKind.i64 t, Value.int IntKind.i64 u, Value.slice (some (Addr.mk 1 o none)) n c]))) 1 (some (Blk.mk 73 true (tcs R)))) (by kernel_rfl) ?_
  refine WpOps.nil (thenK_at (off' (Wp.skip (thenK_at (Wp.seq (Wp.text ?_))))))
  refine kp 5 (.pointer (some ⟨0, 0, none⟩)) ?_
  refine kp 6 (.pointer (some ⟨0, 0, none⟩)) ?_
  refine kp 7 (.pointer (some ⟨0, 4, none⟩)) ?_
  refine kp 8 (.slice (some (Addr.mk 1 o none)) n c) ?_
  refine kp 9 (.int IntKind.i64 (↑n : Int)) ?_
  refine kp 2 (.int IntKind.i64 (↑n : Int)) ?_
  refine WpOps.nil (thenK_at (Wp.ret ?_))
  refine endK_retn [Value.int IntKind.i64 (↑n : Int)] (Value.int IntKind.i64 (↑n : Int)) (by kernel_rfl) (by kernel_rfl) ?_
  exact ⟨[0, 1], by decide, by kernel_rfl, ⟨⟨_, by kernel_rfl, .cons (.inl ⟨rfl, rfl⟩) (.cons (.inl ⟨rfl, rfl⟩) (.cons (.inl ⟨rfl, rfl⟩) (.cons (.inl ⟨rfl, rfl⟩) (.cons (.inl ⟨rfl, rfl⟩) .nil))))⟩, ⟨_, by kernel_rfl, toldC_flat (tcs_flat _)⟩, trivial⟩, .w (.un rfl rfl)⟩
open Go.Fw Go.RowKit

/-- The fate of a number. -/
def ftOf (mild : Bool) (x : Int) : Ft :=
  if modN x 16 = 0 ∨ modN x 16 = 1 then ⟨!mild, 0, 0, -1⟩
  else if modN x 16 = 2 then ⟨false, 1, 0, -1⟩
  else if modN x 16 = 3 then ⟨false, 1 + modN (x / 16) 3, 0, -1⟩
  else if modN x 16 = 4 ∨ modN x 16 = 5 then ⟨false, 0, modN (x / 16) 21, -1⟩
  else if modN x 16 = 6 then ⟨false, 0, 0, if mild then -1 else modN (x / 16) 50⟩
  else if modN x 16 = 7 then ⟨false, 1, modN (x / 16) 8, -1⟩
  else ⟨false, 0, 0, -1⟩
theorem fce_ftOf (mild : Bool) (x : Int) : fce (ftOf mild x) = ofC mild x := by
  simp only [ftOf, ofC, apply_ite fce]
  rfl
theorem ftOf_ok (mild : Bool) (x : Int) : (ftOf mild x).ok = true := by
  have key : ∀ (b : Bool) (c d e : Int), 0 ≤ c → c ≤ 3 → 0 ≤ d → d ≤ 20 → -1 ≤ e → Ft.ok ⟨b, c, d, e⟩ = true := by
    intro b c d e h1 h2 h3 h4 h5
    unfold Ft.ok
    simp [h1, h2, h3, h4, h5]
  have m3 := modN_in (x / 16) 3 (by decide)
  have m21 := modN_in (x / 16) 21 (by decide)
  have m50 := modN_in (x / 16) 50 (by decide)
  have m8 := modN_in (x / 16) 8 (by decide)
  have m6 : -1 ≤ (if mild = true then (-1 : Int) else modN (x / 16) 50) := by split <;> omega
  unfold ftOf
  split
  · exact key _ _ _ _ (by decide) (by decide) (by decide) (by decide) (by decide)
  split
  · exact key _ _ _ _ (by decide) (by decide) (by decide) (by decide) (by decide)
  split
  · exact key _ _ _ _ (by omega) (by omega) (by decide) (by decide) (by decide)
  split
  · exact key _ _ _ _ (by decide) (by decide) (by omega) (by omega) (by decide)
  split
  · exact key _ _ _ _ (by decide) (by decide) (by decide) (by decide) m6
  split
  · exact key _ _ _ _ (by decide) (by decide) (by omega) (by omega) (by decide)
  · exact key _ _ _ _ (by decide) (by decide) (by decide) (by decide) (by decide)
/-- The fates of numbers. -/
def ftsOf (mild : Bool) (l : List Int) : List Ft := (l.take 200).map (ftOf mild)
theorem fts_ftsOf (mild : Bool) (l : List Int) : fts (ftsOf mild l) = fc mild (l.take 200) := by
  unfold fts ftsOf fc
  rw [List.flatMap_map]
  congr 1
  funext x
  exact fce_ftOf mild x
theorem ftsOf_len (mild : Bool) (l : List Int) : (ftsOf mild l).length = min l.length 200 := by simp [ftsOf, Nat.min_comm]
theorem ftsOf_ok (mild : Bool) (l : List Int) : (ftsOf mild l).all Ft.ok = true := by
  rw [List.all_eq_true]
  intro f hf
  obtain ⟨x, _, rfl⟩ := List.mem_map.1 hf
  exact ftOf_ok mild x
theorem outF_fts (t : TypeId) (mild : Bool) (l : List Int) : ∃ x, outF t (min l.length 200) (fc mild (l.take 200)) = FS t (ftsOf mild l).length x (fts (ftsOf mild l)).toArray := by
  rw [fts_ftsOf, ftsOf_len]
  unfold outF
  split
  · rename_i h
    have : l = [] := by
      rcases l with _ | ⟨a, l⟩
      · rfl
      · rw [List.length_cons] at h
        omega
    subst this
    exact ⟨2, rfl⟩
  · exact ⟨0, rfl⟩

/-! ## the wire -/
abbrev Lb := Nat × Nat × Int
def un (k : Nat) : ByteArray := ⟨#[UInt8.ofNat (10 + 2 * k), 200, 201]⟩
def trL (L : List Ft) (z : Lb) : Tr := (z.2.2, unit' (fate L z.1) (un z.1))
def stp (n : Nat) (L : List Ft) (s : Int × Nat) (z : Lb) : Option (Int × Nat) :=
  if ((z.1 : Int) = s.1 ∧ z.2.1 = s.2 ∨ s.1 < z.1 ∧ z.2.1 = 0) ∧ z.1 < n ∧ (fate L z.1).lo = false ∧ (z.2.1 : Int) ≤ (fate L z.1).co then some (z.1, z.2.1 + 1) else none
def run (n : Nat) (L : List Ft) : Int × Nat → List Lb → Option (Int × Nat)
  | s, [] => some s
  | s, z :: r => (stp n L s z).bind fun s => run n L s r
theorem run_app (n : Nat) (L : List Ft) : ∀ (a b : List Lb) (s : Int × Nat), run n L s (a ++ b) = (run n L s a).bind fun s => run n L s b
  | [], _, _ => rfl
  | z :: a, b, s => by
    show (stp n L s z).bind _ = ((stp n L s z).bind _).bind _
    cases stp n L s z with
    | none => rfl
    | some s => exact run_app n L a b s
def grp (i : Nat) (a : Int) (c : Nat) : List Lb := (List.range c).map fun r => (i, r, a)
theorem grp_succ (i : Nat) (a : Int) (c : Nat) : grp i a (c + 1) = grp i a c ++ [(i, c, a)] := by
  unfold grp
  rw [List.range_succ, List.map_append]
  rfl
theorem run_grp (n : Nat) (L : List Ft) (i : Nat) (a : Int) (s : Int × Nat) (hs : s.1 < i) (hi : i < n) (hlo : (fate L i).lo = false) : ∀ c : Nat, (c : Int) ≤ (fate L i).co → run n L s (grp i a (c + 1)) = some ((i : Int), c + 1)
  | 0, h => by
    rw [grp_succ]
    show (stp n L s (i, 0, a)).bind _ = _
    unfold stp
    rw [if_pos ⟨.inr ⟨hs, rfl⟩, hi, hlo, h⟩]
    rfl
  | c + 1, h => by
    rw [grp_succ, run_app, run_grp n L i a s hs hi hlo c (by omega)]
    show (stp n L ((i : Int), c + 1) (i, c + 1, a)).bind _ = _
    unfold stp
    rw [if_pos ⟨.inl ⟨rfl, rfl⟩, hi, hlo, h⟩]
    rfl
def Zl (L : List Ft) : Nat → List Lb
  | 0 => []
  | i + 1 => if (fate L i).lo = true then Zl L i else Zl L i ++ grp i (atW 0 (fate L i) 0 ((Zl L i).map (trL L))) ((fate L i).co.toNat + 1)
def Xl (L : List Ft) (i : Nat) : List Tr := (Zl L i).map (trL L)
theorem its_zero (a : Int) (v : ByteArray) (n : Nat) : its a 0 v n = List.replicate n (a, v) := by
  unfold its
  rw [List.eq_replicate_iff]
  refine ⟨by simp, fun z hz => ?_⟩
  obtain ⟨i, _, rfl⟩ := List.mem_map.1 hz
  rw [Int.mul_zero, Int.add_zero]
theorem grp_map (L : List Ft) (i : Nat) (a : Int) (c : Nat) : (grp i a c).map (trL L) = its a 0 (unit' (fate L i) (un i)) c := by
  rw [its_zero, List.eq_replicate_iff]
  refine ⟨by simp [grp], fun z hz => ?_⟩
  unfold grp at hz
  rw [List.map_map] at hz
  obtain ⟨r, _, rfl⟩ := List.mem_map.1 hz
  rfl
theorem foldl_mx : ∀ (X : List Tr) (a : Int), a ≤ X.foldl mx a ∧ ∀ z ∈ X, z.1 ≤ X.foldl mx a
  | [], a => ⟨Int.le_refl _, fun z hz => by cases hz⟩
  | x :: X, a => by
    obtain ⟨h1, h2⟩ := foldl_mx X (mx a x)
    have h3 : a ≤ mx a x ∧ x.1 ≤ mx a x := by unfold mx; split <;> omega
    refine ⟨Int.le_trans h3.1 h1, fun z hz => ?_⟩
    rcases List.mem_cons.1 hz with rfl | hz
    · exact Int.le_trans h3.2 h1
    · exact h2 z hz
theorem foldl_mx_le {m : Int} : ∀ (X : List Tr) (a : Int), a ≤ m → (∀ z ∈ X, z.1 ≤ m) → X.foldl mx a ≤ m
  | [], _, h, _ => h
  | x :: X, a, h, hX => by
    refine foldl_mx_le X (mx a x) ?_ fun z hz => hX z (List.mem_cons_of_mem _ hz)
    have := hX x (List.mem_cons_self ..)
    unfold mx
    split <;> omega
structure Zok (n : Nat) (L : List Ft) (i : Nat) : Prop where
  run' : ∃ s, run n L (-1, 0) (Zl L i) = some s ∧ s.1 < i
  len : (Zl L i).length ≤ 4 * i
  tim : ∀ z ∈ Xl L i, 1 ≤ z.1 ∧ z.1 ≤ 21
  srt : Srt (Xl L i)
theorem Xl_lost {L : List Ft} {i : Nat} (h : (fate L i).lo = true) : Xl L (i + 1) = Xl L i := by
  unfold Xl
  rw [Zl, if_pos h]
theorem Xl_put {L : List Ft} {i : Nat} (h : (fate L i).lo = false) (hi : i ≤ 60) (hl : (Zl L i).length ≤ 4 * i) (hco : (fate L i).co ≤ 3) : Xl L (i + 1) = Yl (atW 0 (fate L i) 0 (Xl L i)) 0 (unit' (fate L i) (un i)) (Xl L i) ((fate L i).co.toNat + 1) := by
  have h2 : ¬ (fate L i).lo = true := by rw [h]; decide
  unfold Yl
  have hlX : (Xl L i).length ≤ 240 := by
    unfold Xl
    rw [List.length_map]
    omega
  rw [List.take_of_length_le (by rw [its_len]; omega)]
  unfold Xl at hlX ⊢
  rw [Zl, if_neg h2, List.map_append, grp_map]
theorem zok (n : Nat) (L : List Ft) (hok : L.all Ft.ok = true) (hn : n ≤ 60) : ∀ i, i ≤ n → Zok n L i
  | 0, _ => ⟨⟨(-1, 0), rfl, by decide⟩, Nat.le_refl _, (fun z hz => by cases hz), List.Pairwise.nil⟩
  | i + 1, h => by
    have ih := zok n L hok hn i (by omega)
    obtain ⟨o1, o2, o3, o4, o5⟩ := fate_ok hok i
    cases hlo : (fate L i).lo with
    | true =>
      obtain ⟨⟨s, h1, h2⟩, h3, h4, h5⟩ := ih
      refine ⟨⟨s, ?_, by omega⟩, ?_, ?_, ?_⟩
      · rw [Zl, if_pos hlo]; exact h1
      · rw [Zl, if_pos hlo]; omega
      · rw [Xl_lost hlo]; exact h4
      · rw [Xl_lost hlo]; exact h5
    | false =>
      have hn2 : ¬ (fate L i).lo = true := by rw [hlo]; decide
      have hX := Xl_put hlo (by omega) ih.len o2
      obtain ⟨⟨s, h1, h2⟩, h3, h4, h5⟩ := ih
      have ha := foldl_mx (Xl L i) ((0 : Nat) + 1 + (fate L i).de)
      have hb := foldl_mx_le (m := 21) (Xl L i) ((0 : Nat) + 1 + (fate L i).de) (by omega) fun z hz => (h4 z hz).2
      have hat : atW 0 (fate L i) 0 (Xl L i) = (Xl L i).foldl mx ((0 : Nat) + 1 + (fate L i).de) := if_pos rfl
      rw [← hat] at ha hb
      have hlX : (Xl L i).length ≤ 240 := by
        unfold Xl
        rw [List.length_map]
        omega
      have hY : Xl L (i + 1) = Xl L i ++ List.replicate ((fate L i).co.toNat + 1) (atW 0 (fate L i) 0 (Xl L i), unit' (fate L i) (un i)) := by
        rw [hX, Yl, List.take_of_length_le (by rw [its_len]; omega), its_zero]
      refine ⟨⟨((i : Int), (fate L i).co.toNat + 1), ?_, by dsimp only; omega⟩, ?_, ?_, ?_⟩
      · rw [Zl, if_neg hn2, run_app, h1]
        exact run_grp n L i _ s h2 (by omega) hlo _ (by omega)
      · rw [Zl, if_neg hn2, List.length_append]
        simp only [grp, List.length_map, List.length_range]
        omega
      · rw [hY]
        intro z hz
        rcases List.mem_append.1 hz with hz | hz
        · exact h4 z hz
        · obtain rfl := List.eq_of_mem_replicate hz
          dsimp only
          omega
      · rw [hY]
        refine srt_app.2 ⟨h5, ?_, fun a ha' b hb' => ?_⟩
        · exact List.pairwise_replicate.2 (.inr (Int.le_refl _))
        · obtain rfl := List.eq_of_mem_replicate hb'
          exact ha.2 a ha'
theorem Xl_nil {L : List Ft} {i : Nat} (h : (fate L i).lo = false) : Xl L (i + 1) ≠ [] := by
  have h2 : ¬ (fate L i).lo = true := by rw [h]; decide
  unfold Xl
  rw [Zl, if_neg h2, grp_succ]
  simp
open Go.Fw Go.RowKit

theorem okM (k : Int) (L : List Ft) (t u : Int) {w : Value} {m : Nat} (hw : okC m w = true) : (mB k L t u w).cells.all (okC m) = true := by
  show (okC m (.int .i64 k) && (okC m (FS 46 L.length 0 (fts L).toArray) && (okC m (.int .i64 t) && (okC m (.int .i64 u) && (okC m w && true))))) = true
  rw [hw]
  rfl
theorem okR (R : List Tr) (m : Nat) : (rowB R).cells.all (okC m) = true := okCs_flat (tcs_flat R)
theorem in1 {P : Blk → Prop} {a : Blk} (h : P a) : ∀ x, some x ∈ [some a] → P x := fun x hx => by
  obtain rfl : x = a := by simpa using hx
  exact h
theorem in2 {P : Blk → Prop} {a b : Blk} (h : P a) (h2 : P b) : ∀ x, some x ∈ [some a, some b] → P x := fun x hx => by
  have : x = a ∨ x = b := by simpa using hx
  rcases this with rfl | rfl
  · exact h
  · exact h2
theorem in3 {P : Blk → Prop} {a b : Blk} (h : P a) (h2 : P b) : ∀ x, some x ∈ [some a, none, some b] → P x := fun x hx => by
  have : x = a ∨ x = b := by simpa using hx
  rcases this with rfl | rfl
  · exact h
  · exact h2
/-- What is on the way when the unit has been put in. -/
def nxt (k : Int) (L : List Ft) (t u : Nat) (X : List Tr) (b : ByteArray) : List Tr := Yl (atW k (fate L u) t X) k (unit' (fate L u) b) X ((fate L u).co.toNat + 1)
theorem lent13o (k : Int) (L : List Ft) (t u : Nat) (p X : List Tr) (b : ByteArray) (hb : b.size ≤ 4000) (hk : k = 0 ∨ k = 1) (hok : L.all Ft.ok = true) (ht : t ≤ 1000000) (hu : u ≤ 1000000) (hX : X.length < 400) (hin : InT X) (hlo : (fate L u).lo = false) :
    LentP E 13 [.pointer (some ⟨0, 0, none⟩), .string b] [mB k L t u (.slice (some ⟨1, p.length * 2, none⟩) X.length X.length), rowB (p ++ X)] (.int .i64 0) [some (mB k L t (u + 1 : Nat) (.slice (some ⟨2, 0, none⟩) (nxt k L t u X b).length (nxt k L t u X b).length)), none, some (rowB (nxt k L t u X b))] := by
  refine ⟨?_, rfl, rfl, Nat.le_succ _, rfl, in3 (okM _ _ _ _ rfl) (okR _ _), rfl⟩
  have := put13o k L t u p X b hb hk hok ht hu hX hin hlo
  rw [heapO_of]
  exact this
theorem lent13n (k : Int) (L : List Ft) (t u : Nat) (b : ByteArray) (hb : b.size ≤ 4000) (hk : k = 0 ∨ k = 1) (hok : L.all Ft.ok = true) (ht : t ≤ 1000000) (hu : u ≤ 1000000) (hlo : (fate L u).lo = false) :
    LentP E 13 [.pointer (some ⟨0, 0, none⟩), .string b] [mB k L t u (.slice none 0 0)] (.int .i64 0) [some (mB k L t (u + 1 : Nat) (.slice (some ⟨1, 0, none⟩) (nxt k L t u [] b).length (nxt k L t u [] b).length)), some (rowB (nxt k L t u [] b))] := by
  refine ⟨?_, rfl, rfl, Nat.le_succ _, rfl, in2 (okM _ _ _ _ rfl) (okR _ _), rfl⟩
  have := put13n k L t u b hb hk hok ht hu hlo
  rw [heapO_of]
  exact this
theorem lent13f (k : Int) (L : List Ft) (t u : Nat) (p X : List Tr) (b : ByteArray) (hb : b.size ≤ 4000) (hk : k = 0 ∨ k = 1) (hok : L.all Ft.ok = true) (ht : t ≤ 1000000) (hu : u ≤ 1000000) (hXm : X.length ≤ 1000) (hX : X.length ≥ 400) (hin : InT X) (hlo : (fate L u).lo = false) :
    LentP E 13 [.pointer (some ⟨0, 0, none⟩), .string b] [mB k L t u (.slice (some ⟨1, p.length * 2, none⟩) X.length X.length), rowB (p ++ X)] (.int .i64 0) [some (mB k L t (u + 1 : Nat) (.slice (some ⟨1, p.length * 2, none⟩) X.length X.length)), some (rowB (p ++ X))] := by
  refine ⟨?_, rfl, rfl, Nat.le_refl _, rfl, in2 (okM _ _ _ _ rfl) (okR _ _), rfl⟩
  have := put13f k L t u p X b hb hk hok ht hu hXm hX hin hlo
  rw [heapO_of]
  exact this
theorem lent13lo (k : Int) (L : List Ft) (t u : Nat) (p X : List Tr) (b : ByteArray) (hb : b.size ≤ 4000) (hu : u ≤ 1000000) (hlo : (fate L u).lo = true) :
    LentP E 13 [.pointer (some ⟨0, 0, none⟩), .string b] [mB k L t u (.slice (some ⟨1, p.length * 2, none⟩) X.length X.length), rowB (p ++ X)] (.int .i64 0) [some (mB k L t (u + 1 : Nat) (.slice (some ⟨1, p.length * 2, none⟩) X.length X.length)), some (rowB (p ++ X))] := by
  refine ⟨?_, rfl, rfl, Nat.le_refl _, rfl, in2 (okM _ _ _ _ rfl) (okR _ _), rfl⟩
  have := put13lo k L t u p X b hb hu hlo
  rw [heapO_of]
  exact this
theorem lent13ln (k : Int) (L : List Ft) (t u : Nat) (b : ByteArray) (hb : b.size ≤ 4000) (hu : u ≤ 1000000) (hlo : (fate L u).lo = true) :
    LentP E 13 [.pointer (some ⟨0, 0, none⟩), .string b] [mB k L t u (.slice none 0 0)] (.int .i64 0) [some (mB k L t (u + 1 : Nat) (.slice none 0 0))] := by
  refine ⟨?_, rfl, rfl, Nat.le_refl _, rfl, in1 (okM _ _ _ _ rfl), rfl⟩
  have := put13ln k L t u b hb hu hlo
  rw [heapO_of]
  exact this
end Go.Proofs.Ytdkmdpklojeepaa.D
