/- Tick of no way; what is put in, as a call. -/
import Derived.Test.YtdkmdpklojeepaaFwLem
import Derived.Test.YtdkmdpklojeepaaFwHole
import Derived.Test.YtdkmdpklojeepaaR09d
import Derived.Test.YtdkmdpklojeepaaFwHoleL
namespace Go.Proofs.Ytdkmdpklojeepaa.D
open Go.Fw Go.RowKit

theorem h62 : E.funcs 62 = some Try.f62 := by kernel_rfl
theorem ins62n : Lent E 62 [.slice none 0 0, .int .i64 0, .int .i64 0, .func (.func 43) #[] #[]] [] (.tuple #[]) [] := by
  refine Lent.of h62 rfl (of_decide_eq_true (by kernel_rfl)) rfl rfl (Nat.le_refl _) rfl rfl rfl ?_
  refine Wp.seq (Wp.text ?_)
  refine kp 10 (.int IntKind.i64 0) ?_
  refine kp 11 (.int IntKind.i64 (IntKind.wrap .i64 (0 + 1))) ?_
  refine kp 8 (.int IntKind.i64 (IntKind.wrap .i64 (0 + 1))) ?_
  refine WpOps.nil (thenK_at (Wp.block ?_))
  refine Wp.unroll (WpL.step ?_)
  refine Wp.seq (Wp.seq (Wp.text ?_))
  refine kp 12 (.int IntKind.i64 (IntKind.wrap .i64 (0 + 1))) ?_
  refine kp 13 (.int IntKind.i64 0) ?_
  refine kp 14 (.bool false) ?_
  refine WpOps.nil (thenK_at (off' (Wp.exit (thenK_exit (thenK_exit (blockK_hit ?_))))))
  refine endK_norm [] (Value.tuple #[]) (by kernel_rfl) (by kernel_rfl) ?_
  exact ⟨[], by decide, by kernel_rfl, trivial, .w (.un rfl rfl)⟩
theorem stable60n : Lent E 60 [.slice none 0 0, .int .i64 0, .func (.func 43) #[] #[]] [] (.tuple #[]) [] := by
  have c1 := ins62n
  refine Lent.of f60 rfl (of_decide_eq_true (by kernel_rfl)) rfl rfl (Nat.le_refl _) rfl rfl rfl ?_
  refine Wp.seq (Wp.text ?_)
  refine kp 6 (.int IntKind.i64 20) ?_
  refine WpOps.nil (thenK_at (Wp.seq (Wp.text ?_)))
  refine kp 10 (.int IntKind.i64 20) ?_
  refine kp 7 (.int IntKind.i64 0) ?_
  refine kp 8 (.int IntKind.i64 20) ?_
  refine WpOps.nil (thenK_at (Wp.seq (Wp.block ?_)))
  refine Wp.unroll (WpL.step ?_)
  refine Wp.seq (Wp.seq (Wp.text ?_))
  refine kp 11 (.int IntKind.i64 20) ?_
  refine kp 12 (.int IntKind.i64 0) ?_
  refine kp 13 (.bool false) ?_
  refine WpOps.nil (thenK_at (off' (Wp.exit (thenK_exit (thenK_exit (blockK_hit (thenK_at (Wp.seq (Wp.text ?_)))))))))
  refine kp 23 (.slice none 0 0) ?_
  refine kp 24 (.int IntKind.i64 0) ?_
  refine kp 25 (.int IntKind.i64 0) ?_
  refine kp 26 (.func (Fn.func 43) #[] #[]) ?_
  refine cl 27 62 [Value.slice none 0 0, Value.int .i64 0, Value.int .i64 0, Value.func (Fn.func 43) #[] #[]] ?_
  refine WpCall.lent [] (c1) (by decide) trivial (by kernel_rfl) (Value.tuple #[]) ([]) .nil (by kernel_rfl) (heapOf []) (by kernel_rfl) ?_
  refine WpOps.nil (thenK_at (Wp.block ?_))
  refine Wp.unroll (WpL.step ?_)
  refine Wp.seq (Wp.seq (Wp.text ?_))
  refine kp 28 (.int IntKind.i64 20) ?_
  refine kp 29 (.int IntKind.i64 0) ?_
  refine kp 30 (.bool false) ?_
  refine WpOps.nil (thenK_at (off' (Wp.exit (thenK_exit (thenK_exit (blockK_hit ?_))))))
  refine endK_norm [] (Value.tuple #[]) (by kernel_rfl) (by kernel_rfl) ?_
  exact ⟨[], by decide, by kernel_rfl, trivial, .w (.un rfl rfl)⟩
theorem sort42n : Lent E 42 [.slice none 0 0, .func (.func 43) #[] #[]] [] (.tuple #[]) [] := by
  have c1 := stable60n
  refine Lent.of f42 rfl (of_decide_eq_true (by kernel_rfl)) rfl rfl (Nat.le_refl _) rfl rfl rfl ?_
  refine Wp.text ?_
  refine kp 4 (.slice none 0 0) ?_
  refine kp 5 (.slice none 0 0) ?_
  refine kp 6 (.int IntKind.i64 (↑0 : Int)) ?_
  refine kp 7 (.func (Fn.func 43) #[] #[]) ?_
  refine cl 8 60 [Value.slice none 0 0, Value.int .i64 (↑0 : Int), Value.func (Fn.func 43) #[] #[]] ?_
  refine WpCall.lent [] (c1) (by decide) trivial (by kernel_rfl) (Value.tuple #[]) ([]) .nil (by kernel_rfl) (heapOf []) (by kernel_rfl) ?_
  refine WpOps.nil ?_
  refine endK_norm [] (Value.tuple #[]) (by kernel_rfl) (by kernel_rfl) ?_
  exact ⟨[], by decide, by kernel_rfl, trivial, .w (.un rfl rfl)⟩
theorem tick14e (k : Int) (L : List Ft) (t : Nat) (u : Int) (ht : t ≤ 1000000) : Lent E 14 [.pointer (some ⟨0, 0, none⟩)] [mB k L t u (.slice none 0 0)] (.slice none 0 0) [mB k L (t + 1 : Nat) u (.slice none 0 0)] := by
  refine Lent.of h14 rfl (of_decide_eq_true (by kernel_rfl)) rfl rfl (Nat.le_refl _) rfl rfl rfl ?_
  have c0 := none40n k L t u
  have c1 := sort42n
  have wt : IntKind.i64.wrap ((t : Int) + 1) = ((t + 1 : Nat) : Int) := by rw [wr _ (by omega) (by omega)]; omega
  unfold mB at c0 ⊢
  refine Wp.seq (Wp.text ?_)
  refine kp 2 (.slice none 0 0) ?_
  refine WpOps.nil (thenK_at (Wp.seq (Wp.seq (Wp.text ?_))))
  refine kp 4 (.pointer (some ⟨0, 0, none⟩)) ?_
  refine cl 5 40 [Value.pointer (some ⟨0, 0, none⟩)] ?_
  refine WpCall.lent [0] (c0) (by decide) ⟨⟨[Value.int IntKind.i64 k, Value.iface 46 (Value.iface (List.length L) (Value.iface 0 (Value.agg (List.toArray (fts L))))), Value.int IntKind.i64 (↑t : Int), Value.int IntKind.i64 u, Value.slice none 0 0], (by kernel_rfl), (by kernel_rfl), (by kernel_rfl)⟩, trivial⟩ (by kernel_rfl) (Value.bool false) ([Blk.mk 66 true [Value.int IntKind.i64 k, Value.iface 46 (Value.iface (List.length L) (Value.iface 0 (Value.agg (List.toArray (fts L))))), Value.int IntKind.i64 (↑t : Int), Value.int IntKind.i64 u, Value.slice none 0 0]]) (.cons (by kernel_rfl) .nil) (by kernel_rfl) (Heap.set (heapOf [Blk.mk 66 true [Value.int IntKind.i64 k, FS 46 (List.length L) 0 (List.toArray (fts L)), Value.int IntKind.i64 (↑t : Int), Value.int IntKind.i64 u, Value.slice none 0 0]]) 0 (some (Blk.mk 66 true [Value.int IntKind.i64 k, Value.iface 46 (Value.iface (List.length L) (Value.iface 0 (Value.agg (List.toArray (fts L))))), Value.int IntKind.i64 (↑t : Int), Value.int IntKind.i64 u, Value.slice none 0 0]))) (by kernel_rfl) ?_
  refine WpOps.nil (thenK_at (off' (Wp.skip (thenK_at (Wp.seq (Wp.text ?_))))))
  refine kp 6 (.pointer (some ⟨0, 0, none⟩)) ?_
  refine kp 7 (.pointer (some ⟨0, 0, none⟩)) ?_
  refine kp 8 (.pointer (some ⟨0, 2, none⟩)) ?_
  refine kp 9 (.int IntKind.i64 (↑t : Int)) ?_
  refine kp 10 (.int IntKind.i64 (IntKind.wrap .i64 ((↑t : Int) + 1))) ?_
  refine kp 11 (.pointer (some ⟨0, 0, none⟩)) ?_
  refine kp 12 (.pointer (some ⟨0, 2, none⟩)) ?_
  refine ld (.tuple #[]) (0) (Blk.mk 66 true [Value.int .i64 k, Value.iface 46 (Value.iface (List.length L) (Value.iface 0 (Value.agg (List.toArray (fts L))))), Value.int .i64 (IntKind.wrap .i64 ((↑t : Int) + 1)), Value.int .i64 u, Value.slice none 0 0]) ?_
  refine WpOps.nil (thenK_at (Wp.seq (Wp.text ?_)))
  refine kp 13 (.pointer (some ⟨0, 0, none⟩)) ?_
  refine kp 14 (.pointer (some ⟨0, 0, none⟩)) ?_
  refine kp 15 (.pointer (some ⟨0, 4, none⟩)) ?_
  refine kp 16 (.slice none 0 0) ?_
  refine cl 17 42 [Value.slice none 0 0, Value.func (Fn.func 43) #[] #[]] ?_
  refine WpCall.lent [] (c1) (by decide) trivial (by kernel_rfl) (Value.tuple #[]) ([]) .nil (by kernel_rfl) (Heap.set (Heap.set (heapOf [Blk.mk 66 true [Value.int IntKind.i64 k, FS 46 (List.length L) 0 (List.toArray (fts L)), Value.int IntKind.i64 (↑t : Int), Value.int IntKind.i64 u, Value.slice none 0 0]]) 0 (some (Blk.mk 66 true [Value.int IntKind.i64 k, Value.iface 46 (Value.iface (List.length L) (Value.iface 0 (Value.agg (List.toArray (fts L))))), Value.int IntKind.i64 (↑t : Int), Value.int IntKind.i64 u, Value.slice none 0 0]))) 0 (some (Blk.mk 66 true [Value.int IntKind.i64 k, Value.iface 46 (Value.iface (List.length L) (Value.iface 0 (Value.agg (List.toArray (fts L))))), Value.int IntKind.i64 (IntKind.wrap IntKind.i64 ((↑t : Int) + 1)), Value.int IntKind.i64 u, Value.slice none 0 0]))) (by kernel_rfl) ?_
  refine WpOps.nil (thenK_at (Wp.seq (Wp.text ?_)))
  refine kp 3 (.slice none 0 0) ?_
  refine WpOps.nil (thenK_at (Wp.seq (Wp.block ?_)))
  rw [wt]
  refine Wp.unroll (WpL.step ?_)
  refine Wp.seq (Wp.seq ?_)
  refine Wp.region (by kernel_rfl) ?_
  refine kp 18 (.pointer (some ⟨0, 0, none⟩)) ?_
  refine kp 19 (.pointer (some ⟨0, 0, none⟩)) ?_
  refine kp 20 (.pointer (some ⟨0, 4, none⟩)) ?_
  refine kp 21 (.slice none 0 0) ?_
  refine kp 22 (.int IntKind.i64 (↑0 : Int)) ?_
  refine kp 23 (.bool false) ?_
  refine kp 24 (.bool false) ?_
  refine um 25 ?_
  refine um 26 ?_
  refine um 27 ?_
  refine um 28 ?_
  refine um 29 ?_
  refine um 30 ?_
  refine um 31 ?_
  refine um 32 ?_
  refine um 33 ?_
  refine um 34 ?_
  refine um 35 ?_
  refine um 36 ?_
  refine kp 37 (.bool false) ?_
  refine WpOps.nil (thenK_at (off' (Wp.exit (thenK_exit (thenK_exit (blockK_hit (thenK_at (Wp.seq (Wp.text ?_)))))))))
  refine kp 56 (.slice none 0 0) ?_
  refine kp 2 (.slice none 0 0) ?_
  refine WpOps.nil (thenK_at (Wp.ret ?_))
  refine endK_retn [Value.slice none 0 0] (Value.slice none 0 0) (by kernel_rfl) (by kernel_rfl) ?_
  exact ⟨[0], by decide, by kernel_rfl, ⟨⟨_, by kernel_rfl, toldC_flat rfl⟩, trivial⟩, .w (.un rfl rfl)⟩
theorem h18 : E.funcs 18 = some Try.f18 := by kernel_rfl
theorem waiting18e (k : Int) (L : List Ft) (t u : Int) : Lent E 18 [.pointer (some ⟨0, 0, none⟩)] [mB k L t u (.slice none 0 0)] (.int .i64 0) [mB k L t u (.slice none 0 0)] := by
  have c0 := none40n k L t u
  refine Lent.of h18 rfl (of_decide_eq_true (by kernel_rfl)) rfl rfl (Nat.le_refl _) rfl rfl rfl ?_
  unfold mB at c0 ⊢
  refine Wp.seq (Wp.text ?_)
  refine kp 2 (.int IntKind.i64 0) ?_
  refine WpOps.nil (thenK_at (Wp.seq (Wp.seq (Wp.text ?_))))
  refine kp 3 (.pointer (some ⟨0, 0, none⟩)) ?_
  refine cl 4 40 [Value.pointer (some ⟨0, 0, none⟩)] ?_
  refine WpCall.lent [0] (c0) (by decide) ⟨⟨[Value.int IntKind.i64 k, Value.iface 46 (Value.iface (List.length L) (Value.iface 0 (Value.agg (List.toArray (fts L))))), Value.int IntKind.i64 t, Value.int IntKind.i64 u, Value.slice none 0 0], (by kernel_rfl), (by kernel_rfl), (by kernel_rfl)⟩, trivial⟩ (by kernel_rfl) (Value.bool false) ([Blk.mk 66 true [Value.int IntKind.i64 k, Value.iface 46 (Value.iface (List.length L) (Value.iface 0 (Value.agg (List.toArray (fts L))))), Value.int IntKind.i64 t, Value.int IntKind.i64 u, Value.slice none 0 0]]) (.cons (by kernel_rfl) .nil) (by kernel_rfl) (Heap.set (heapOf [Blk.mk 66 true [Value.int IntKind.i64 k, FS 46 (List.length L) 0 (List.toArray (fts L)), Value.int IntKind.i64 t, Value.int IntKind.i64 u, Value.slice none 0 0]]) 0 (some (Blk.mk 66 true [Value.int IntKind.i64 k, Value.iface 46 (Value.iface (List.length L) (Value.iface 0 (Value.agg (List.toArray (fts L))))), Value.int IntKind.i64 t, Value.int IntKind.i64 u, Value.slice none 0 0]))) (by kernel_rfl) ?_
  refine WpOps.nil (thenK_at (off' (Wp.skip (thenK_at (Wp.seq (Wp.text ?_))))))
  refine kp 5 (.pointer (some ⟨0, 0, none⟩)) ?_
  refine kp 6 (.pointer (some ⟨0, 0, none⟩)) ?_
  refine kp 7 (.pointer (some ⟨0, 4, none⟩)) ?_
  refine kp 8 (.slice none 0 0) ?_
  refine kp 9 (.int IntKind.i64 (↑0 : Int)) ?_
  refine kp 2 (.int IntKind.i64 (↑0 : Int)) ?_
  refine WpOps.nil (thenK_at (Wp.ret ?_))
  refine endK_retn [Value.int IntKind.i64 (↑0 : Int)] (Value.int IntKind.i64 (↑0 : Int)) (by kernel_rfl) (by kernel_rfl) ?_
  exact ⟨[0], by decide, by kernel_rfl, ⟨⟨_, by kernel_rfl, toldC_flat rfl⟩, trivial⟩, .w (.un rfl rfl)⟩
theorem waiting18o (k : Int) (L : List Ft) (t u : Int) (o n c : Nat) (R : List Tr) : Lent E 18 [.pointer (some ⟨0, 0, none⟩)] [mB k L t u (.slice (some ⟨1, o, none⟩) n c), rowB R] (.int .i64 n) [mB k L t u (.slice (some ⟨1, o, none⟩) n c), rowB R] := by
  have c0 := none40o k L t u o n c R
  have hfl : (rowB R).cells.all flat = true := tcs_flat _
  refine Lent.of h18 rfl (of_decide_eq_true (by kernel_rfl)) rfl rfl (Nat.le_refl _) rfl ?_ rfl ?_
  · simp only [mB, rowB, List.all_cons, List.all_nil, okCs_flat (tcs_flat _), Bool.and_true]
    rfl
  unfold mB at c0 ⊢
  refine Wp.seq (Wp.text ?_)
  refine kp 2 (.int IntKind.i64 0) ?_
  refine WpOps.nil (thenK_at (Wp.seq (Wp.seq (Wp.text ?_))))
  refine kp 3 (.pointer (some ⟨0, 0, none⟩)) ?_
  refine cl 4 40 [Value.pointer (some ⟨0, 0, none⟩)] ?_
  refine WpCall.lent [0, 1] (c0) (by decide) ⟨⟨[Value.int IntKind.i64 k, Value.iface 46 (Value.iface (List.length L) (Value.iface 0 (Value.agg (List.toArray (fts L))))), Value.int IntKind.i64 t, Value.int IntKind.i64 u, Value.slice (some (Addr.mk 1 o none)) n c], (by kernel_rfl), (by kernel_rfl), (by kernel_rfl)⟩, ⟨⟨_, (by kernel_rfl), CellsOk.eq rfl (by assumption)⟩, trivial⟩⟩ (by kernel_rfl) (Value.bool false) ([Blk.mk 66 true [Value.int IntKind.i64 k, Value.iface 46 (Value.iface (List.length L) (Value.iface 0 (Value.agg (List.toArray (fts L))))), Value.int IntKind.i64 t, Value.int IntKind.i64 u, Value.slice (some (Addr.mk (List.getD [0, 1] 1 0) o none)) n c], Blk.mk 73 true (tcs R)]) (.cons (by kernel_rfl) (.cons (unB_flat (by assumption)) .nil)) (by kernel_rfl) (Heap.set (Heap.set (heapOf [Blk.mk 66 true [Value.int IntKind.i64 k, FS 46 (List.length L) 0 (List.toArray (fts L)), Value.int IntKind.i64 t, Value.int IntKind.i64 u, Value.slice (some (Addr.mk 1 o none)) n c], rowB R]) 0 (some (Blk.mk 66 true [Value.int IntKind.i64 k, Value.iface 46 (Value.iface (List.length L) (Value.iface 0 (Value.agg (List.toArray (fts L))))), Value.int IntKind.i64 t, Value.int IntKind.i64 u, Value.slice (some (Addr.mk 1 o none)) n c]))) 1 (some (Blk.mk 73 true (tcs R)))) (by kernel_rfl) ?_
  refine WpOps.nil (thenK_at (off' (Wp.skip (thenK_at (Wp.seq (Wp.text ?_))))))
  refine kp 5 (.pointer (some ⟨0, 0, none⟩)) ?_
  refine kp 6 (.pointer (some ⟨0, 0, none⟩)) ?_
  refine kp 7 (.pointer (some ⟨0, 4, none⟩)) ?_
  refine kp 8 (.slice (some (Addr.mk 1 o none)) n c) ?_
  refine kp 9 (.int IntKind.i64 (↑n : Int)) ?_
  refine kp 2 (.int IntKind.i64 (↑n : Int)) ?_
  refine WpOps.nil (thenK_at (Wp.ret ?_))
  refine endK_retn [Value.int IntKind.i64 (↑n : Int)] (Value.int IntKind.i64 (↑n : Int)) (by kernel_rfl) (by kernel_rfl) ?_
  exact ⟨[0, 1], by decide, by kernel_rfl, ⟨⟨_, by kernel_rfl, .cons (.inl ⟨rfl, rfl⟩) (.cons (.inl ⟨rfl, rfl⟩) (.cons (.inl ⟨rfl, rfl⟩) (.cons (.inl ⟨rfl, rfl⟩) (.cons (.inl ⟨rfl, rfl⟩) .nil))))⟩, ⟨_, by kernel_rfl, toldC_flat (tcs_flat _)⟩, trivial⟩, .w (.un rfl rfl)⟩
theorem foldl_mx : ∀ (X : List Tr) (a : Int), a ≤ X.foldl mx a ∧ ∀ z ∈ X, z.1 ≤ X.foldl mx a
  | [], a => ⟨Int.le_refl _, fun z hz => by cases hz⟩
  | x :: X, a => by
    obtain ⟨h1, h2⟩ := foldl_mx X (mx a x)
    have h3 : a ≤ mx a x ∧ x.1 ≤ mx a x := by unfold mx; split <;> omega
    refine ⟨Int.le_trans h3.1 h1, fun z hz => ?_⟩
    rcases List.mem_cons.1 hz with rfl | hz
    · exact Int.le_trans h3.2 h1
    · exact h2 z hz
theorem foldl_mx_le {m : Int} : ∀ (X : List Tr) (a : Int), a ≤ m → (∀ z ∈ X, z.1 ≤ m) → X.foldl mx a ≤ m
  | [], _, h, _ => h
  | x :: X, a, h, hX => by
    refine foldl_mx_le X (mx a x) ?_ fun z hz => hX z (List.mem_cons_of_mem _ hz)
    have := hX x (List.mem_cons_self ..)
    unfold mx
    split <;> omega
theorem okM (k : Int) (L : List Ft) (t u : Int) {w : Value} {m : Nat} (hw : okC m w = true) : (mB k L t u w).cells.all (okC m) = true := by
  show (okC m (.int .i64 k) && (okC m (FS 46 L.length 0 (fts L).toArray) && (okC m (.int .i64 t) && (okC m (.int .i64 u) && (okC m w && true))))) = true
  rw [hw]
  rfl
theorem okR (R : List Tr) (m : Nat) : (rowB R).cells.all (okC m) = true := okCs_flat (tcs_flat R)
theorem in1 {P : Blk → Prop} {a : Blk} (h : P a) : ∀ x, some x ∈ [some a] → P x := fun x hx => by
  obtain rfl : x = a := by simpa using hx
  exact h
theorem in2 {P : Blk → Prop} {a b : Blk} (h : P a) (h2 : P b) : ∀ x, some x ∈ [some a, some b] → P x := fun x hx => by
  have : x = a ∨ x = b := by simpa using hx
  rcases this with rfl | rfl
  · exact h
  · exact h2
theorem in3 {P : Blk → Prop} {a b : Blk} (h : P a) (h2 : P b) : ∀ x, some x ∈ [some a, none, some b] → P x := fun x hx => by
  have : x = a ∨ x = b := by simpa using hx
  rcases this with rfl | rfl
  · exact h
  · exact h2
/-- What is on the way when the unit has been put in. -/
def nxt (k : Int) (L : List Ft) (t u : Nat) (X : List Tr) (b : ByteArray) : List Tr := Yl (atW k (fate L u) t X) k (unit' (fate L u) b) X ((fate L u).co.toNat + 1)
theorem lent13o (k : Int) (L : List Ft) (t u : Nat) (p X : List Tr) (b : ByteArray) (hb : b.size ≤ 4000) (hk : k = 0 ∨ k = 1) (hok : L.all Ft.ok = true) (ht : t ≤ 1000000) (hu : u ≤ 1000000) (hX : X.length < 400) (hin : InT X) (hlo : (fate L u).lo = false) :
    LentP E 13 [.pointer (some ⟨0, 0, none⟩), .string b] [mB k L t u (.slice (some ⟨1, p.length * 2, none⟩) X.length X.length), rowB (p ++ X)] (.int .i64 0) [some (mB k L t (u + 1 : Nat) (.slice (some ⟨2, 0, none⟩) (nxt k L t u X b).length (nxt k L t u X b).length)), none, some (rowB (nxt k L t u X b))] := by
  refine ⟨?_, rfl, rfl, Nat.le_succ _, rfl, in3 (okM _ _ _ _ rfl) (okR _ _), rfl⟩
  have := put13o k L t u p X b hb hk hok ht hu hX hin hlo
  rw [heapO_of]
  exact this
theorem lent13n (k : Int) (L : List Ft) (t u : Nat) (b : ByteArray) (hb : b.size ≤ 4000) (hk : k = 0 ∨ k = 1) (hok : L.all Ft.ok = true) (ht : t ≤ 1000000) (hu : u ≤ 1000000) (hlo : (fate L u).lo = false) :
    LentP E 13 [.pointer (some ⟨0, 0, none⟩), .string b] [mB k L t u (.slice none 0 0)] (.int .i64 0) [some (mB k L t (u + 1 : Nat) (.slice (some ⟨1, 0, none⟩) (nxt k L t u [] b).length (nxt k L t u [] b).length)), some (rowB (nxt k L t u [] b))] := by
  refine ⟨?_, rfl, rfl, Nat.le_succ _, rfl, in2 (okM _ _ _ _ rfl) (okR _ _), rfl⟩
  have := put13n k L t u b hb hk hok ht hu hlo
  rw [heapO_of]
  exact this
theorem lent13f (k : Int) (L : List Ft) (t u : Nat) (p X : List Tr) (b : ByteArray) (hb : b.size ≤ 4000) (hk : k = 0 ∨ k = 1) (hok : L.all Ft.ok = true) (ht : t ≤ 1000000) (hu : u ≤ 1000000) (hXm : X.length ≤ 1000) (hX : X.length ≥ 400) (hin : InT X) (hlo : (fate L u).lo = false) :
    LentP E 13 [.pointer (some ⟨0, 0, none⟩), .string b] [mB k L t u (.slice (some ⟨1, p.length * 2, none⟩) X.length X.length), rowB (p ++ X)] (.int .i64 0) [some (mB k L t (u + 1 : Nat) (.slice (some ⟨1, p.length * 2, none⟩) X.length X.length)), some (rowB (p ++ X))] := by
  refine ⟨?_, rfl, rfl, Nat.le_refl _, rfl, in2 (okM _ _ _ _ rfl) (okR _ _), rfl⟩
  have := put13f k L t u p X b hb hk hok ht hu hXm hX hin hlo
  rw [heapO_of]
  exact this
theorem lent13lo (k : Int) (L : List Ft) (t u : Nat) (p X : List Tr) (b : ByteArray) (hb : b.size ≤ 4000) (hu : u ≤ 1000000) (hlo : (fate L u).lo = true) :
    LentP E 13 [.pointer (some ⟨0, 0, none⟩), .string b] [mB k L t u (.slice (some ⟨1, p.length * 2, none⟩) X.length X.length), rowB (p ++ X)] (.int .i64 0) [some (mB k L t (u + 1 : Nat) (.slice (some ⟨1, p.length * 2, none⟩) X.length X.length)), some (rowB (p ++ X))] := by
  refine ⟨?_, rfl, rfl, Nat.le_refl _, rfl, in2 (okM _ _ _ _ rfl) (okR _ _), rfl⟩
  have := put13lo k L t u p X b hb hu hlo
  rw [heapO_of]
  exact this
theorem lent13ln (k : Int) (L : List Ft) (t u : Nat) (b : ByteArray) (hb : b.size ≤ 4000) (hu : u ≤ 1000000) (hlo : (fate L u).lo = true) :
    LentP E 13 [.pointer (some ⟨0, 0, none⟩), .string b] [mB k L t u (.slice none 0 0)] (.int .i64 0) [some (mB k L t (u + 1 : Nat) (.slice none 0 0))] := by
  refine ⟨?_, rfl, rfl, Nat.le_refl _, rfl, in1 (okM _ _ _ _ rfl), rfl⟩
  have := put13ln k L t u b hb hu hlo
  rw [heapO_of]
  exact this
end Go.Proofs.Ytdkmdpklojeepaa.D
