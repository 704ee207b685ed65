/- The document's add; the program's getters, Reset, Copy; the two ways go on alike -/
import Derived.Test.YtdkmdpklojeepaaFwLem
import Derived.Test.YtdkmdpklojeepaaFwHole
import Derived.Test.YtdkmdpklojeepaaFwHoleL
import Derived.Test.YtdkmdpklojeepaaN09e
namespace Go.Proofs.Ytdkmdpklojeepaa.D
open Go.Fw Go.RowKit

/-- An item, as cells: the unit, then the time. -/
def ic (z : Tr) : List Value := [.string z.2, .int .i64 z.1]
def ics (l : List Tr) : List Value := l.flatMap ic
theorem ics_len : ∀ l, (ics l).length = l.length * 2
  | [] => rfl
  | a :: l => by
    have ih := ics_len l
    unfold ics at ih ⊢
    rw [List.flatMap_cons, List.length_append, ih, List.length_cons]
    show 2 + _ = _
    omega
theorem ics_flat : ∀ l, (ics l).all flat = true
  | [] => rfl
  | a :: l => by
    have ih := ics_flat l
    unfold ics at ih ⊢
    rw [List.flatMap_cons, List.all_append, ih]
    rfl
theorem ics_app (a b : List Tr) : ics (a ++ b) = ics a ++ ics b := by simp [ics]
theorem ics_slice (p : List Tr) (t : Tr) (q : List Tr) : cellsAt (ics (p ++ t :: q)) (p.length * 2) 2 = some (ic t) := by
  unfold cellsAt
  rw [if_pos (by rw [ics_len, List.length_append, List.length_cons]; omega), ics_app, List.drop_left' (ics_len p)]
  rfl
theorem ics_at {Y : List Tr} {i : Nat} (h : i < Y.length) : cellsAt (ics Y) (i * 2) 2 = some (ic Y[i]) := by
  have := ics_slice (Y.take i) Y[i] (Y.drop (i + 1))
  rw [List.length_take, Nat.min_eq_left (by omega)] at this
  rwa [List.getElem_cons_drop, List.take_append_drop] at this
theorem ics_all (Y : List Tr) : cellsAt (ics Y) 0 (Y.length * 2) = some (ics Y) := by
  unfold cellsAt
  rw [ics_len, if_pos (by omega), List.drop_zero, List.take_of_length_le (by rw [ics_len]; exact Nat.le_refl _)]
def sR (l : List Tr) : Blk := ⟨80, true, ics l⟩
/-- The document's medium. -/
def sB (k : Int) (L : List Ft) (t u : Int) (w : Value) : Blk := ⟨78, true, [.int .i64 k, FS 36 L.length 0 (fts L).toArray, .int .i64 t, .int .i64 u, w]⟩
theorem okS (k : Int) (L : List Ft) (t u : Int) {w : Value} {m : Nat} (hw : okC m w = true) : (sB k L t u w).cells.all (okC m) = true := by
  show (okC m (.int .i64 k) && (okC m (FS 36 L.length 0 (fts L).toArray) && (okC m (.int .i64 t) && (okC m (.int .i64 u) && (okC m w && true))))) = true
  rw [hw]
  rfl
theorem okSR (R : List Tr) (m : Nat) : (sR R).cells.all (okC m) = true := okCs_flat (ics_flat R)
/-- Its row, by number. -/
abbrev wS (b : Nat) (Y : List Tr) : Value := .slice (some ⟨b, 0, none⟩) Y.length Y.length
theorem f46 : E.funcs 46 = some Try.f46 := by kernel_rfl
theorem add46n (k : Int) (L : List Ft) (t u : Int) (b : ByteArray) (a : Int) :
    SCall E 46 [.pointer (some ⟨0, 0, none⟩), .string b, .int .i64 a] (heapO [some (sB k L t u (.slice none 0 0))]) (.tuple #[]) (heapO [some (sB k L t u (wS 1 [(a, b)])), some (sR [(a, b)])]) := by
  refine SCall.enterO f46 rfl (of_decide_eq_true (by kernel_rfl)) rfl rfl (Nat.le_succ _) ?_
  unfold sB wS
  refine Wp.seq (Wp.text (kp 6 (.pointer (some ⟨0, 0, none⟩)) (kp 7 (.pointer (some ⟨0, 0, none⟩)) (kp 8 (.pointer (some ⟨0, 4, none⟩)) (kp 9 (.slice none 0 0) (kp 10 (.int .i64 (↑0 : Int)) (kp 11 (.bool true) (WpOps.nil (thenK_at (on' (Wp.text (kp 12 (.pointer (some ⟨0, 0, none⟩)) (kp 13 (.pointer (some ⟨0, 0, none⟩)) (kp 14 (.pointer (some ⟨0, 0, none⟩)) (kp 15 (.pointer (some ⟨0, 4, none⟩)) (kp 16 (.slice none 0 0) (kp 17 (.string b) (kp 18 (.int .i64 a) (kp 19 (.agg #[Value.string b, Value.int .i64 a]) (md 20 (.slice (some ⟨1, 0, none⟩) 1 1) (Blk.mk 80 true [Value.string b, Value.int .i64 a]) (md 21 (.slice (some ⟨2, 0, none⟩) 1 1) (Blk.mk 80 true [Value.string b, Value.int .i64 a]) (kp 22 (.pointer (some ⟨0, 0, none⟩)) (kp 23 (.pointer (some ⟨0, 4, none⟩)) (ld (.tuple #[]) (0) (Blk.mk 78 true [Value.int .i64 k, Value.iface 36 (Value.iface (List.length L) (Value.iface 0 (Value.agg (List.toArray (fts L))))), Value.int .i64 t, Value.int .i64 u, Value.slice (some ⟨2, 0, none⟩) 1 1]) (WpOps.nil (endK_norm [] (Value.tuple #[]) (by kernel_rfl) (by kernel_rfl) ?_))))))))))))))))))))))))))
  exact ⟨[0, 2], by decide, rfl, BlksP.told ⟨⟨_, by kernel_rfl, ⟨rfl, rfl⟩⟩, ⟨_, by kernel_rfl, CellsOk.eq rfl (ics_flat _)⟩, trivial⟩, .w (.un rfl rfl)⟩
theorem add46o (k : Int) (L : List Ft) (t u : Int) (Y : List Tr) (b : ByteArray) (a : Int) (hY : Y.length < 400) :
    SCall E 46 [.pointer (some ⟨0, 0, none⟩), .string b, .int .i64 a] (heapO [some (sB k L t u (wS 1 Y)), some (sR Y)]) (.tuple #[]) (heapO [some (sB k L t u (wS 2 (Y ++ [(a, b)]))), none, some (sR (Y ++ [(a, b)]))]) := by
  refine SCall.enterO f46 rfl (of_decide_eq_true (by kernel_rfl)) rfl rfl (Nat.le_succ _) ?_
  have q4 : decide ((Y.length : Int) < 400) = true := decide_eq_true (by omega)
  have q0 : cellsAt (ics Y) 0 (Y.length * 2) = some (ics Y) := ics_all Y
  have q1 : ¬ Y.length + 1 ≤ Y.length := by omega
  have q2 : 1 ≤ 24 ∧ (Y.length + 1) * 24 ≤ 140737488355328 ∧ 2 = 2 ∧ Y.length + 1 ≤ 9223372036854775807 := by omega
  unfold sB wS sR
  have r1 : ics Y ++ [Value.string b, .int .i64 a] = ics (Y ++ [(a, b)]) := (ics_app Y [(a, b)]).symm
  have r2 : Y.length + 1 = (Y ++ [(a, b)]).length := by simp
  refine Wp.seq (Wp.text (kp 6 (.pointer (some ⟨0, 0, none⟩)) (kp 7 (.pointer (some ⟨0, 0, none⟩)) (kp 8 (.pointer (some ⟨0, 4, none⟩)) (kp 9 (.slice (some ⟨1, 0, none⟩) (List.length Y) (List.length Y)) (kp 10 (.int .i64 (List.length Y)) (kp 11 (.bool true) (WpOps.nil (thenK_at (on' (Wp.text (kp 12 (.pointer (some ⟨0, 0, none⟩)) (kp 13 (.pointer (some ⟨0, 0, none⟩)) (kp 14 (.pointer (some ⟨0, 0, none⟩)) (kp 15 (.pointer (some ⟨0, 4, none⟩)) (kp 16 (.slice (some ⟨1, 0, none⟩) (List.length Y) (List.length Y)) (kp 17 (.string b) (kp 18 (.int .i64 a) (kp 19 (.agg #[Value.string b, Value.int .i64 a]) (md 20 (.slice (some ⟨2, 0, none⟩) 1 1) (Blk.mk 80 true [Value.string b, Value.int .i64 a]) ?_))))))))))))) (hop := fun _ => by_fact q4))))))))
  refine ra 21 (.slice (some ⟨3, 0, none⟩) (List.length Y + 1) (List.length Y + 1)) (1) (Blk.mk 80 true (ics Y ++ [Value.string b, Value.int .i64 a])) ?_ (hop := fun _ => o_append (e := 80) (1) (0) (List.length Y) _ (List.length Y) q1 q2 q0)
  refine kp 22 (.pointer (some ⟨0, 0, none⟩)) (kp 23 (.pointer (some ⟨0, 4, none⟩)) (ld (.tuple #[]) (0) (Blk.mk 78 true [Value.int .i64 k, Value.iface 36 (Value.iface (List.length L) (Value.iface 0 (Value.agg (List.toArray (fts L))))), Value.int .i64 t, Value.int .i64 u, Value.slice (some ⟨3, 0, none⟩) (List.length Y + 1) (List.length Y + 1)]) (WpOps.nil (endK_norm [] (Value.tuple #[]) (by kernel_rfl) (by kernel_rfl) ?_))))
  rw [r1, r2]
  exact ⟨[0, 1, 3], by decide, rfl, BlksP.told ⟨⟨_, by kernel_rfl, ⟨rfl, rfl⟩⟩, ⟨_, by kernel_rfl, CellsOk.eq rfl (ics_flat _)⟩, trivial⟩, .w (.un rfl rfl)⟩
theorem add46f (k : Int) (L : List Ft) (t u : Int) (Y : List Tr) (b : ByteArray) (a : Int) (hY : 400 ≤ Y.length) :
    SCall E 46 [.pointer (some ⟨0, 0, none⟩), .string b, .int .i64 a] (heapO [some (sB k L t u (wS 1 Y)), some (sR Y)]) (.tuple #[]) (heapO [some (sB k L t u (wS 1 Y)), some (sR Y)]) := by
  refine SCall.enterO f46 rfl (of_decide_eq_true (by kernel_rfl)) rfl rfl (Nat.le_refl _) ?_
  have q4 : decide ((Y.length : Int) < 400) = false := decide_eq_false (by omega)
  unfold sB wS sR
  refine Wp.seq (Wp.text (kp 6 (.pointer (some ⟨0, 0, none⟩)) (kp 7 (.pointer (some ⟨0, 0, none⟩)) (kp 8 (.pointer (some ⟨0, 4, none⟩)) (kp 9 (.slice (some ⟨1, 0, none⟩) (List.length Y) (List.length Y)) (kp 10 (.int .i64 (List.length Y)) (kp 11 (.bool false) (WpOps.nil (thenK_at (off' (Wp.skip (endK_norm [] (Value.tuple #[]) (by kernel_rfl) (by kernel_rfl) ?_))))) (hop := fun _ => by_fact q4))))))))
  exact ⟨[0, 1], by decide, rfl, BlksP.told ⟨⟨_, by kernel_rfl, ⟨rfl, rfl⟩⟩, ⟨_, by kernel_rfl, CellsOk.eq rfl (ics_flat _)⟩, trivial⟩, .w (.un rfl rfl)⟩
theorem lent46n (k : Int) (L : List Ft) (t u : Int) (b : ByteArray) (a : Int) :
    LentP E 46 [.pointer (some ⟨0, 0, none⟩), .string b, .int .i64 a] [sB k L t u (.slice none 0 0)] (.tuple #[]) [some (sB k L t u (wS 1 [(a, b)])), some (sR [(a, b)])] := by
  refine ⟨?_, rfl, rfl, Nat.le_succ _, rfl, in2 (okS _ _ _ _ rfl) (okSR _ _), rfl⟩
  rw [heapO_of]
  exact add46n k L t u b a
theorem lent46o (k : Int) (L : List Ft) (t u : Int) (Y : List Tr) (b : ByteArray) (a : Int) (hY : Y.length < 400) :
    LentP E 46 [.pointer (some ⟨0, 0, none⟩), .string b, .int .i64 a] [sB k L t u (wS 1 Y), sR Y] (.tuple #[]) [some (sB k L t u (wS 2 (Y ++ [(a, b)]))), none, some (sR (Y ++ [(a, b)]))] := by
  refine ⟨?_, rfl, rfl, Nat.le_succ _, rfl, in3 (okS _ _ _ _ rfl) (okSR _ _), rfl⟩
  rw [heapO_of]
  exact add46o k L t u Y b a hY
theorem lent46f (k : Int) (L : List Ft) (t u : Int) (Y : List Tr) (b : ByteArray) (a : Int) (hY : 400 ≤ Y.length) :
    LentP E 46 [.pointer (some ⟨0, 0, none⟩), .string b, .int .i64 a] [sB k L t u (wS 1 Y), sR Y] (.tuple #[]) [some (sB k L t u (wS 1 Y)), some (sR Y)] := by
  refine ⟨?_, rfl, rfl, Nat.le_refl _, rfl, in2 (okS _ _ _ _ rfl) (okSR _ _), rfl⟩
  rw [heapO_of]
  exact add46f k L t u Y b a hY
open Go.Fw Go.RowKit

/-- A way that is a row of its own. -/
abbrev wO (b : Nat) (p X : List Tr) : Value := .slice (some ⟨b, p.length * 2, none⟩) X.length X.length
theorem h32 : E.funcs 32 = some Try.f32 := by kernel_rfl
theorem h33 : E.funcs 33 = some Try.f33 := by kernel_rfl
theorem h28 : E.funcs 28 = some Try.f28 := by kernel_rfl
theorem h30 : E.funcs 30 = some Try.f30 := by kernel_rfl
theorem h47 : E.funcs 47 = some Try.f47 := by kernel_rfl
theorem now32n (k : Int) (L : List Ft) (t u : Int) : Lent E 32 [.pointer (some ⟨0, 0, none⟩)] [mB k L t u (.slice none 0 0)] (.int .i64 t) [mB k L t u (.slice none 0 0)] := by
  have c0 := none40n k L t u
  refine Lent.of h32 rfl (of_decide_eq_true (by kernel_rfl)) rfl rfl (Nat.le_refl _) rfl rfl rfl ?_
  unfold mB at c0 ⊢
  refine Wp.seq (Wp.text (kp 2 (.int .i64 0) (WpOps.nil (thenK_at (Wp.seq (Wp.seq (Wp.text (kp 3 (.pointer (some ⟨0, 0, none⟩)) (cl 4 40 [Value.pointer (some ⟨0, 0, none⟩)] ?_)))))))))
  refine WpCall.lent [0] (c0) (by decide) ⟨⟨[Value.int .i64 k, Value.iface 46 (Value.iface (List.length L) (Value.iface 0 (Value.agg (List.toArray (fts L))))), Value.int .i64 t, Value.int .i64 u, Value.slice none 0 0], (by kernel_rfl), (by kernel_rfl), (by kernel_rfl)⟩, trivial⟩ (by kernel_rfl) (Value.bool false) ([Blk.mk 66 true [Value.int .i64 k, Value.iface 46 (Value.iface (List.length L) (Value.iface 0 (Value.agg (List.toArray (fts L))))), Value.int .i64 t, Value.int .i64 u, Value.slice none 0 0]]) (.cons (by kernel_rfl) .nil) (by kernel_rfl) (Heap.set (heapOf [Blk.mk 66 true [Value.int .i64 k, FS 46 (List.length L) 0 (List.toArray (fts L)), Value.int .i64 t, Value.int .i64 u, Value.slice none 0 0]]) 0 (some (Blk.mk 66 true [Value.int .i64 k, Value.iface 46 (Value.iface (List.length L) (Value.iface 0 (Value.agg (List.toArray (fts L))))), Value.int .i64 t, Value.int .i64 u, Value.slice none 0 0]))) (by kernel_rfl) ?_
  refine WpOps.nil (thenK_at (off' (Wp.skip (thenK_at (Wp.seq (Wp.text (kp 5 (.pointer (some ⟨0, 0, none⟩)) (kp 6 (.pointer (some ⟨0, 0, none⟩)) (kp 7 (.pointer (some ⟨0, 2, none⟩)) (kp 8 (.int .i64 t) (kp 2 (.int .i64 t) (WpOps.nil (thenK_at (Wp.ret (endK_retn [Value.int .i64 t] (Value.int .i64 t) (by kernel_rfl) (by kernel_rfl) ?_)))))))))))))))
  exact ⟨[0], by decide, by kernel_rfl, ⟨⟨_, by kernel_rfl, toldC_flat rfl⟩, trivial⟩, .w (.un rfl rfl)⟩
theorem now32o (k : Int) (L : List Ft) (t u : Int) (o n c : Nat) (R : List Tr) : Lent E 32 [.pointer (some ⟨0, 0, none⟩)] [mB k L t u (.slice (some ⟨1, o, none⟩) n c), rowB R] (.int .i64 t) [mB k L t u (.slice (some ⟨1, o, none⟩) n c), rowB R] := by
  have c0 := none40o k L t u o n c R
  have hfl : (rowB R).cells.all flat = true := tcs_flat _
  refine Lent.of h32 rfl (of_decide_eq_true (by kernel_rfl)) rfl rfl (Nat.le_refl _) rfl ?_ rfl ?_
  · simp only [mB, rowB, List.all_cons, List.all_nil, okCs_flat (tcs_flat _), Bool.and_true]
    rfl
  unfold mB at c0 ⊢
  refine Wp.seq (Wp.text (kp 2 (.int .i64 0) (WpOps.nil (thenK_at (Wp.seq (Wp.seq (Wp.text (kp 3 (.pointer (some ⟨0, 0, none⟩)) (cl 4 40 [Value.pointer (some ⟨0, 0, none⟩)] ?_)))))))))
  refine WpCall.lent [0, 1] (c0) (by decide) ⟨⟨[Value.int .i64 k, Value.iface 46 (Value.iface (List.length L) (Value.iface 0 (Value.agg (List.toArray (fts L))))), Value.int .i64 t, Value.int .i64 u, Value.slice (some (Addr.mk 1 o none)) n c], (by kernel_rfl), (by kernel_rfl), (by kernel_rfl)⟩, ⟨⟨_, (by kernel_rfl), CellsOk.eq rfl (by assumption)⟩, trivial⟩⟩ (by kernel_rfl) (Value.bool false) ([Blk.mk 66 true [Value.int .i64 k, Value.iface 46 (Value.iface (List.length L) (Value.iface 0 (Value.agg (List.toArray (fts L))))), Value.int .i64 t, Value.int .i64 u, Value.slice (some (Addr.mk (List.getD [0, 1] 1 0) o none)) n c], Blk.mk 73 true (tcs R)]) (.cons (by kernel_rfl) (.cons (unB_flat (by assumption)) .nil)) (by kernel_rfl) (Heap.set (Heap.set (heapOf [Blk.mk 66 true [Value.int .i64 k, FS 46 (List.length L) 0 (List.toArray (fts L)), Value.int .i64 t, Value.int .i64 u, Value.slice (some (Addr.mk 1 o none)) n c], rowB R]) 0 (some (Blk.mk 66 true [Value.int .i64 k, Value.iface 46 (Value.iface (List.length L) (Value.iface 0 (Value.agg (List.toArray (fts L))))), Value.int .i64 t, Value.int .i64 u, Value.slice (some (Addr.mk 1 o none)) n c]))) 1 (some (Blk.mk 73 true (tcs R)))) (by kernel_rfl) ?_
  refine WpOps.nil (thenK_at (off' (Wp.skip (thenK_at (Wp.seq (Wp.text (kp 5 (.pointer (some ⟨0, 0, none⟩)) (kp 6 (.pointer (some ⟨0, 0, none⟩)) (kp 7 (.pointer (some ⟨0, 2, none⟩)) (kp 8 (.int .i64 t) (kp 2 (.int .i64 t) (WpOps.nil (thenK_at (Wp.ret (endK_retn [Value.int .i64 t] (Value.int .i64 t) (by kernel_rfl) (by kernel_rfl) ?_)))))))))))))))
  exact ⟨[0, 1], by decide, by kernel_rfl, ⟨⟨_, by kernel_rfl, .cons (.inl ⟨rfl, rfl⟩) (.cons (.inl ⟨rfl, rfl⟩) (.cons (.inl ⟨rfl, rfl⟩) (.cons (.inl ⟨rfl, rfl⟩) (.cons (.inl ⟨rfl, rfl⟩) .nil))))⟩, ⟨_, by kernel_rfl, toldC_flat (tcs_flat _)⟩, trivial⟩, .w (.un rfl rfl)⟩
theorem count33n (k : Int) (L : List Ft) (t u : Int) : Lent E 33 [.pointer (some ⟨0, 0, none⟩)] [mB k L t u (.slice none 0 0)] (.int .i64 u) [mB k L t u (.slice none 0 0)] := by
  have c0 := none40n k L t u
  refine Lent.of h33 rfl (of_decide_eq_true (by kernel_rfl)) rfl rfl (Nat.le_refl _) rfl rfl rfl ?_
  unfold mB at c0 ⊢
  refine Wp.seq (Wp.text (kp 2 (.int .i64 0) (WpOps.nil (thenK_at (Wp.seq (Wp.seq (Wp.text (kp 3 (.pointer (some ⟨0, 0, none⟩)) (cl 4 40 [Value.pointer (some ⟨0, 0, none⟩)] ?_)))))))))
  refine WpCall.lent [0] (c0) (by decide) ⟨⟨[Value.int .i64 k, Value.iface 46 (Value.iface (List.length L) (Value.iface 0 (Value.agg (List.toArray (fts L))))), Value.int .i64 t, Value.int .i64 u, Value.slice none 0 0], (by kernel_rfl), (by kernel_rfl), (by kernel_rfl)⟩, trivial⟩ (by kernel_rfl) (Value.bool false) ([Blk.mk 66 true [Value.int .i64 k, Value.iface 46 (Value.iface (List.length L) (Value.iface 0 (Value.agg (List.toArray (fts L))))), Value.int .i64 t, Value.int .i64 u, Value.slice none 0 0]]) (.cons (by kernel_rfl) .nil) (by kernel_rfl) (Heap.set (heapOf [Blk.mk 66 true [Value.int .i64 k, FS 46 (List.length L) 0 (List.toArray (fts L)), Value.int .i64 t, Value.int .i64 u, Value.slice none 0 0]]) 0 (some (Blk.mk 66 true [Value.int .i64 k, Value.iface 46 (Value.iface (List.length L) (Value.iface 0 (Value.agg (List.toArray (fts L))))), Value.int .i64 t, Value.int .i64 u, Value.slice none 0 0]))) (by kernel_rfl) ?_
  refine WpOps.nil (thenK_at (off' (Wp.skip (thenK_at (Wp.seq (Wp.text (kp 5 (.pointer (some ⟨0, 0, none⟩)) (kp 6 (.pointer (some ⟨0, 0, none⟩)) (kp 7 (.pointer (some ⟨0, 3, none⟩)) (kp 8 (.int .i64 u) (kp 2 (.int .i64 u) (WpOps.nil (thenK_at (Wp.ret (endK_retn [Value.int .i64 u] (Value.int .i64 u) (by kernel_rfl) (by kernel_rfl) ?_)))))))))))))))
  exact ⟨[0], by decide, by kernel_rfl, ⟨⟨_, by kernel_rfl, toldC_flat rfl⟩, trivial⟩, .w (.un rfl rfl)⟩
theorem count33o (k : Int) (L : List Ft) (t u : Int) (o n c : Nat) (R : List Tr) : Lent E 33 [.pointer (some ⟨0, 0, none⟩)] [mB k L t u (.slice (some ⟨1, o, none⟩) n c), rowB R] (.int .i64 u) [mB k L t u (.slice (some ⟨1, o, none⟩) n c), rowB R] := by
  have c0 := none40o k L t u o n c R
  have hfl : (rowB R).cells.all flat = true := tcs_flat _
  refine Lent.of h33 rfl (of_decide_eq_true (by kernel_rfl)) rfl rfl (Nat.le_refl _) rfl ?_ rfl ?_
  · simp only [mB, rowB, List.all_cons, List.all_nil, okCs_flat (tcs_flat _), Bool.and_true]
    rfl
  unfold mB at c0 ⊢
  refine Wp.seq (Wp.text (kp 2 (.int .i64 0) (WpOps.nil (thenK_at (Wp.seq (Wp.seq (Wp.text (kp 3 (.pointer (some ⟨0, 0, none⟩)) (cl 4 40 [Value.pointer (some ⟨0, 0, none⟩)] ?_)))))))))
  refine WpCall.lent [0, 1] (c0) (by decide) ⟨⟨[Value.int .i64 k, Value.iface 46 (Value.iface (List.length L) (Value.iface 0 (Value.agg (List.toArray (fts L))))), Value.int .i64 t, Value.int .i64 u, Value.slice (some (Addr.mk 1 o none)) n c], (by kernel_rfl), (by kernel_rfl), (by kernel_rfl)⟩, ⟨⟨_, (by kernel_rfl), CellsOk.eq rfl (by assumption)⟩, trivial⟩⟩ (by kernel_rfl) (Value.bool false) ([Blk.mk 66 true [Value.int .i64 k, Value.iface 46 (Value.iface (List.length L) (Value.iface 0 (Value.agg (List.toArray (fts L))))), Value.int .i64 t, Value.int .i64 u, Value.slice (some (Addr.mk (List.getD [0, 1] 1 0) o none)) n c], Blk.mk 73 true (tcs R)]) (.cons (by kernel_rfl) (.cons (unB_flat (by assumption)) .nil)) (by kernel_rfl) (Heap.set (Heap.set (heapOf [Blk.mk 66 true [Value.int .i64 k, FS 46 (List.length L) 0 (List.toArray (fts L)), Value.int .i64 t, Value.int .i64 u, Value.slice (some (Addr.mk 1 o none)) n c], rowB R]) 0 (some (Blk.mk 66 true [Value.int .i64 k, Value.iface 46 (Value.iface (List.length L) (Value.iface 0 (Value.agg (List.toArray (fts L))))), Value.int .i64 t, Value.int .i64 u, Value.slice (some (Addr.mk 1 o none)) n c]))) 1 (some (Blk.mk 73 true (tcs R)))) (by kernel_rfl) ?_
  refine WpOps.nil (thenK_at (off' (Wp.skip (thenK_at (Wp.seq (Wp.text (kp 5 (.pointer (some ⟨0, 0, none⟩)) (kp 6 (.pointer (some ⟨0, 0, none⟩)) (kp 7 (.pointer (some ⟨0, 3, none⟩)) (kp 8 (.int .i64 u) (kp 2 (.int .i64 u) (WpOps.nil (thenK_at (Wp.ret (endK_retn [Value.int .i64 u] (Value.int .i64 u) (by kernel_rfl) (by kernel_rfl) ?_)))))))))))))))
  exact ⟨[0, 1], by decide, by kernel_rfl, ⟨⟨_, by kernel_rfl, .cons (.inl ⟨rfl, rfl⟩) (.cons (.inl ⟨rfl, rfl⟩) (.cons (.inl ⟨rfl, rfl⟩) (.cons (.inl ⟨rfl, rfl⟩) (.cons (.inl ⟨rfl, rfl⟩) .nil))))⟩, ⟨_, by kernel_rfl, toldC_flat (tcs_flat _)⟩, trivial⟩, .w (.un rfl rfl)⟩
theorem reset28n (k : Int) (L : List Ft) (t u : Int) : Lent E 28 [.pointer (some ⟨0, 0, none⟩)] [mB k L t u (.slice none 0 0)] (.int .i64 0) [mB k L t u (.slice none 0 0)] := by
  have c0 := waiting18e k L t u
  refine Lent.of h28 rfl (of_decide_eq_true (by kernel_rfl)) rfl rfl (Nat.le_refl _) rfl rfl rfl ?_
  unfold mB at c0 ⊢
  refine Wp.seq (Wp.text (kp 2 (.int .i64 0) (WpOps.nil (thenK_at (Wp.seq (Wp.text (kp 4 (.pointer (some ⟨0, 0, none⟩)) (cl 5 18 [Value.pointer (some ⟨0, 0, none⟩)] ?_))))))))
  refine WpCall.lent [0] (c0) (by decide) ⟨⟨[Value.int .i64 k, Value.iface 46 (Value.iface (List.length L) (Value.iface 0 (Value.agg (List.toArray (fts L))))), Value.int .i64 t, Value.int .i64 u, Value.slice none 0 0], (by kernel_rfl), (by kernel_rfl), (by kernel_rfl)⟩, trivial⟩ (by kernel_rfl) (Value.int .i64 0) ([Blk.mk 66 true [Value.int .i64 k, Value.iface 46 (Value.iface (List.length L) (Value.iface 0 (Value.agg (List.toArray (fts L))))), Value.int .i64 t, Value.int .i64 u, Value.slice none 0 0]]) (.cons (by kernel_rfl) .nil) (by kernel_rfl) (Heap.set (heapOf [Blk.mk 66 true [Value.int .i64 k, FS 46 (List.length L) 0 (List.toArray (fts L)), Value.int .i64 t, Value.int .i64 u, Value.slice none 0 0]]) 0 (some (Blk.mk 66 true [Value.int .i64 k, Value.iface 46 (Value.iface (List.length L) (Value.iface 0 (Value.agg (List.toArray (fts L))))), Value.int .i64 t, Value.int .i64 u, Value.slice none 0 0]))) (by kernel_rfl) ?_
  refine kp 3 (.int .i64 0) (WpOps.nil (thenK_at (Wp.seq (Wp.seq (Wp.text (kp 6 (.int .i64 0) (kp 7 (.bool false) (WpOps.nil (thenK_at (off' (Wp.skip (thenK_at (Wp.seq (Wp.text (kp 11 (.int .i64 0) (kp 2 (.int .i64 0) (WpOps.nil (thenK_at (Wp.ret (endK_retn [Value.int .i64 0] (Value.int .i64 0) (by kernel_rfl) (by kernel_rfl) ?_))))))))))))))))))))
  exact ⟨[0], by decide, by kernel_rfl, ⟨⟨_, by kernel_rfl, toldC_flat rfl⟩, trivial⟩, .w (.un rfl rfl)⟩
theorem reset28e (k : Int) (L : List Ft) (t u : Int) (o c : Nat) (R : List Tr) : Lent E 28 [.pointer (some ⟨0, 0, none⟩)] [mB k L t u (.slice (some ⟨1, o, none⟩) 0 c), rowB R] (.int .i64 0) [mB k L t u (.slice (some ⟨1, o, none⟩) 0 c), rowB R] := by
  have c0 := waiting18o k L t u o 0 c R
  have hfl : (rowB R).cells.all flat = true := tcs_flat _
  refine Lent.of h28 rfl (of_decide_eq_true (by kernel_rfl)) rfl rfl (Nat.le_refl _) rfl ?_ rfl ?_
  · simp only [mB, rowB, List.all_cons, List.all_nil, okCs_flat (tcs_flat _), Bool.and_true]
    rfl
  unfold mB at c0 ⊢
  refine Wp.seq (Wp.text (kp 2 (.int .i64 0) (WpOps.nil (thenK_at (Wp.seq (Wp.text (kp 4 (.pointer (some ⟨0, 0, none⟩)) (cl 5 18 [Value.pointer (some ⟨0, 0, none⟩)] ?_))))))))
  refine WpCall.lent [0, 1] (c0) (by decide) ⟨⟨[Value.int .i64 k, Value.iface 46 (Value.iface (List.length L) (Value.iface 0 (Value.agg (List.toArray (fts L))))), Value.int .i64 t, Value.int .i64 u, Value.slice (some (Addr.mk 1 o none)) 0 c], (by kernel_rfl), (by kernel_rfl), (by kernel_rfl)⟩, ⟨⟨_, (by kernel_rfl), CellsOk.eq rfl (by assumption)⟩, trivial⟩⟩ (by kernel_rfl) (Value.int .i64 (↑0 : Int)) ([Blk.mk 66 true [Value.int .i64 k, Value.iface 46 (Value.iface (List.length L) (Value.iface 0 (Value.agg (List.toArray (fts L))))), Value.int .i64 t, Value.int .i64 u, Value.slice (some (Addr.mk (List.getD [0, 1] 1 0) o none)) 0 c], Blk.mk 73 true (tcs R)]) (.cons (by kernel_rfl) (.cons (unB_flat (by assumption)) .nil)) (by kernel_rfl) (Heap.set (Heap.set (heapOf [Blk.mk 66 true [Value.int .i64 k, FS 46 (List.length L) 0 (List.toArray (fts L)), Value.int .i64 t, Value.int .i64 u, Value.slice (some (Addr.mk 1 o none)) 0 c], rowB R]) 0 (some (Blk.mk 66 true [Value.int .i64 k, Value.iface 46 (Value.iface (List.length L) (Value.iface 0 (Value.agg (List.toArray (fts L))))), Value.int .i64 t, Value.int .i64 u, Value.slice (some (Addr.mk 1 o none)) 0 c]))) 1 (some (Blk.mk 73 true (tcs R)))) (by kernel_rfl) ?_
  refine kp 3 (.int .i64 (↑0 : Int)) (WpOps.nil (thenK_at (Wp.seq (Wp.seq (Wp.text (kp 6 (.int .i64 (↑0 : Int)) (kp 7 (.bool false) (WpOps.nil (thenK_at (off' (Wp.skip (thenK_at (Wp.seq (Wp.text (kp 11 (.int .i64 (↑0 : Int)) (kp 2 (.int .i64 (↑0 : Int)) (WpOps.nil (thenK_at (Wp.ret (endK_retn [Value.int .i64 (↑0 : Int)] (Value.int .i64 (↑0 : Int)) (by kernel_rfl) (by kernel_rfl) ?_))))))))))))))))))))
  exact ⟨[0, 1], by decide, by kernel_rfl, ⟨⟨_, by kernel_rfl, .cons (.inl ⟨rfl, rfl⟩) (.cons (.inl ⟨rfl, rfl⟩) (.cons (.inl ⟨rfl, rfl⟩) (.cons (.inl ⟨rfl, rfl⟩) (.cons (.inl ⟨rfl, rfl⟩) .nil))))⟩, ⟨_, by kernel_rfl, toldC_flat (tcs_flat _)⟩, trivial⟩, .w (.un rfl rfl)⟩
theorem reset28o (k : Int) (L : List Ft) (t u : Int) (o n c : Nat) (R : List Tr) (hn : 0 < n) : Lent E 28 [.pointer (some ⟨0, 0, none⟩)] [mB k L t u (.slice (some ⟨1, o, none⟩) n c), rowB R] (.int .i64 n) [mB k L t u (.slice none 0 0), rowB R] := by
  have c0 := waiting18o k L t u o n c R
  have hfl : (rowB R).cells.all flat = true := tcs_flat _
  have d1 : decide ((n : Int) > 0) = true := decide_eq_true (by omega)
  refine Lent.of h28 rfl (of_decide_eq_true (by kernel_rfl)) rfl rfl (Nat.le_refl _) rfl ?_ rfl ?_
  · simp only [mB, rowB, List.all_cons, List.all_nil, okCs_flat (tcs_flat _), Bool.and_true]
    rfl
  unfold mB at c0 ⊢
  refine Wp.seq (Wp.text (kp 2 (.int .i64 0) (WpOps.nil (thenK_at (Wp.seq (Wp.text (kp 4 (.pointer (some ⟨0, 0, none⟩)) (cl 5 18 [Value.pointer (some ⟨0, 0, none⟩)] ?_))))))))
  refine WpCall.lent [0, 1] (c0) (by decide) ⟨⟨[Value.int .i64 k, Value.iface 46 (Value.iface (List.length L) (Value.iface 0 (Value.agg (List.toArray (fts L))))), Value.int .i64 t, Value.int .i64 u, Value.slice (some (Addr.mk 1 o none)) n c], (by kernel_rfl), (by kernel_rfl), (by kernel_rfl)⟩, ⟨⟨_, (by kernel_rfl), CellsOk.eq rfl (by assumption)⟩, trivial⟩⟩ (by kernel_rfl) (Value.int .i64 n) ([Blk.mk 66 true [Value.int .i64 k, Value.iface 46 (Value.iface (List.length L) (Value.iface 0 (Value.agg (List.toArray (fts L))))), Value.int .i64 t, Value.int .i64 u, Value.slice (some (Addr.mk (List.getD [0, 1] 1 0) o none)) n c], Blk.mk 73 true (tcs R)]) (.cons (by kernel_rfl) (.cons (unB_flat (by assumption)) .nil)) (by kernel_rfl) (Heap.set (Heap.set (heapOf [Blk.mk 66 true [Value.int .i64 k, FS 46 (List.length L) 0 (List.toArray (fts L)), Value.int .i64 t, Value.int .i64 u, Value.slice (some (Addr.mk 1 o none)) n c], rowB R]) 0 (some (Blk.mk 66 true [Value.int .i64 k, Value.iface 46 (Value.iface (List.length L) (Value.iface 0 (Value.agg (List.toArray (fts L))))), Value.int .i64 t, Value.int .i64 u, Value.slice (some (Addr.mk 1 o none)) n c]))) 1 (some (Blk.mk 73 true (tcs R)))) (by kernel_rfl) ?_
  refine kp 3 (.int .i64 n) (WpOps.nil (thenK_at (Wp.seq (Wp.seq (Wp.text (kp 6 (.int .i64 n) (kp 7 (.bool true) (WpOps.nil (thenK_at (on' (Wp.text (kp 8 (.pointer (some ⟨0, 0, none⟩)) (kp 9 (.pointer (some ⟨0, 0, none⟩)) (kp 10 (.pointer (some ⟨0, 4, none⟩)) (ld (.tuple #[]) (0) (Blk.mk 66 true [Value.int .i64 k, Value.iface 46 (Value.iface (List.length L) (Value.iface 0 (Value.agg (List.toArray (fts L))))), Value.int .i64 t, Value.int .i64 u, Value.slice none 0 0]) (WpOps.nil (thenK_at (Wp.seq (Wp.text (kp 11 (.int .i64 n) (kp 2 (.int .i64 n) (WpOps.nil (thenK_at (Wp.ret (endK_retn [Value.int .i64 n] (Value.int .i64 n) (by kernel_rfl) (by kernel_rfl) ?_)))))))))))))))))) (hop := fun _ => by_fact d1))))))))
  exact ⟨[0, 1], by decide, by kernel_rfl, ⟨⟨_, by kernel_rfl, .cons (.inl ⟨rfl, rfl⟩) (.cons (.inl ⟨rfl, rfl⟩) (.cons (.inl ⟨rfl, rfl⟩) (.cons (.inl ⟨rfl, rfl⟩) (.cons (.inl ⟨rfl, rfl⟩) .nil))))⟩, ⟨_, by kernel_rfl, toldC_flat (tcs_flat _)⟩, trivial⟩, .w (.un rfl rfl)⟩
theorem clone47n : Lent E 47 [.slice none 0 0] [] (.slice none 0 0) [] := by
  refine Lent.of h47 rfl (of_decide_eq_true (by kernel_rfl)) rfl rfl (Nat.le_refl _) rfl rfl rfl ?_
  refine Wp.seq (Wp.text (kp 2 (.slice none 0 0) (WpOps.nil (thenK_at (Wp.seq (Wp.seq (Wp.text (kp 3 (.slice none 0 0) (kp 4 (.bool true) (WpOps.nil (thenK_at (on' (Wp.seq (Wp.text (kp 2 (.slice none 0 0) (WpOps.nil (thenK_at (Wp.ret (thenK_ret (endK_retn [Value.slice none 0 0] (Value.slice none 0 0) (by kernel_rfl) (by kernel_rfl) ?_))))))))))))))))))))
  exact ⟨[], by decide, by kernel_rfl, trivial, .w (.un rfl rfl)⟩
theorem clone47o (p X : List Tr) (hl : X.length ≤ 1000) : Lent E 47 [wO 0 p X] [rowB (p ++ X)] (.slice (some ⟨1, 0, none⟩) X.length X.length) [rowB (p ++ X), rowB X] := by
  have hfl : (rowB (p ++ X)).cells.all flat = true := tcs_flat _
  refine Lent.of h47 rfl (of_decide_eq_true (by kernel_rfl)) rfl rfl (Nat.le_succ _) rfl ?_ rfl ?_
  · simp only [rowB, List.all_cons, List.all_nil, okCs_flat (tcs_flat _), Bool.and_true]
  unfold wO
  by_cases hX : X = []
  · subst hX
    show Wp 1 E _ _ (slots0 [.slice (some ⟨0, p.length * 2, none⟩) 0 0]) _ _
    refine Wp.seq (Wp.text (kp 2 (.slice none 0 0) (WpOps.nil (thenK_at (Wp.seq (Wp.seq (Wp.text (kp 3 (.slice (some (Addr.mk 0 (List.length p * 2) none)) 0 0) (kp 4 (.bool false) (WpOps.nil (thenK_at (off' (Wp.skip (thenK_at (Wp.seq (Wp.text (md 5 (.slice (some ⟨1, 0, none⟩) 0 0) (Blk.mk 73 true []) (kp 6 (.slice (some (Addr.mk 0 (List.length p * 2) none)) 0 0) (kp 7 (.slice (some ⟨1, 0, none⟩) 0 0) (kp 2 (.slice (some ⟨1, 0, none⟩) 0 0) (WpOps.nil (thenK_at (Wp.ret (endK_retn [Value.slice (some (Addr.mk 1 0 none)) 0 0] (Value.slice (some (Addr.mk 1 0 none)) 0 0) (by kernel_rfl) (by kernel_rfl) ?_))))))))))))))))))))))))
    exact ⟨[0, 1], by decide, by kernel_rfl, ⟨⟨_, by kernel_rfl, toldC_flat (tcs_flat _)⟩, ⟨_, by kernel_rfl, toldC_flat rfl⟩, trivial⟩, .w (.un rfl rfl)⟩
  have q0 : cellsAt (rowB (p ++ X)).cells (p.length * 2) (X.length * 2) = some (tcs X) := tcs_back p X
  obtain ⟨m, hm⟩ : ∃ m, X.length = m + 1 := ⟨X.length - 1, by have := List.length_pos_iff.2 hX; omega⟩
  have q1 : ¬ 0 + X.length ≤ 0 := by omega
  have q2 : 1 ≤ 24 ∧ (0 + X.length) * 24 ≤ 140737488355328 ∧ 2 = 2 ∧ 0 + X.length ≤ 9223372036854775807 := by omega
  rw [hm] at q0 q1 q2 ⊢
  refine Wp.seq (Wp.text (kp 2 (.slice none 0 0) (WpOps.nil (thenK_at (Wp.seq (Wp.seq (Wp.text (kp 3 (.slice (some (Addr.mk 0 (List.length p * 2) none)) (m + 1) (m + 1)) (kp 4 (.bool false) (WpOps.nil (thenK_at (off' (Wp.skip (thenK_at (Wp.seq (Wp.text (md 5 (.slice (some ⟨1, 0, none⟩) 0 0) (Blk.mk 73 true []) (kp 6 (.slice (some (Addr.mk 0 (List.length p * 2) none)) (m + 1) (m + 1)) ?_))))))))))))))))))
  refine ra 7 (.slice (some ⟨2, 0, none⟩) (0 + (m + 1)) (0 + (m + 1))) (1) (Blk.mk 73 true ([] ++ tcs X)) ?_ (hop := fun _ => o_append (e := 73) (1) (0) (0) _ (0) q1 q2 (by kernel_rfl) (by kernel_rfl) (by kernel_rfl) (by kernel_rfl) (src_of (b := 0) (off := List.length p * 2) (by kernel_rfl) (by kernel_rfl) (by kernel_rfl) q0))
  refine kp 2 (.slice (some ⟨2, 0, none⟩) (0 + (m + 1)) (0 + (m + 1))) (WpOps.nil (thenK_at (Wp.ret (endK_retn [Value.slice (some (Addr.mk 2 0 none)) (0 + (m + 1)) (0 + (m + 1))] (Value.slice (some (Addr.mk 2 0 none)) (0 + (m + 1)) (0 + (m + 1))) (by kernel_rfl) (by kernel_rfl) ?_))))
  have e : 0 + (m + 1) = m + 1 := Nat.zero_add _
  rw [e]
  exact ⟨[0, 2], by decide, by kernel_rfl, ⟨⟨_, by kernel_rfl, toldC_flat (tcs_flat _)⟩, ⟨_, by kernel_rfl, toldC_flat (tcs_flat _)⟩, trivial⟩, .w (.un rfl rfl)⟩
theorem copy30n (k : Int) (L : List Ft) (t u : Int) : Lent E 30 [.pointer (some ⟨0, 0, none⟩)] [mB k L t u (.slice none 0 0)] (.pointer (some ⟨1, 0, none⟩)) [mB k L t u (.slice none 0 0), mB k L t u (.slice none 0 0)] := by
  have c0 := none40n k L t u
  have c1 := clone47n
  refine Lent.of h30 rfl (of_decide_eq_true (by kernel_rfl)) rfl rfl (Nat.le_succ _) rfl rfl rfl ?_
  unfold mB at c0 ⊢
  refine Wp.seq (Wp.text (kp 2 (.pointer none) (WpOps.nil (thenK_at (Wp.seq (Wp.seq (Wp.text (kp 4 (.pointer (some ⟨0, 0, none⟩)) (cl 5 40 [Value.pointer (some ⟨0, 0, none⟩)] ?_)))))))))
  refine WpCall.lent [0] (c0) (by decide) ⟨⟨[Value.int .i64 k, Value.iface 46 (Value.iface (List.length L) (Value.iface 0 (Value.agg (List.toArray (fts L))))), Value.int .i64 t, Value.int .i64 u, Value.slice none 0 0], (by kernel_rfl), (by kernel_rfl), (by kernel_rfl)⟩, trivial⟩ (by kernel_rfl) (Value.bool false) ([Blk.mk 66 true [Value.int .i64 k, Value.iface 46 (Value.iface (List.length L) (Value.iface 0 (Value.agg (List.toArray (fts L))))), Value.int .i64 t, Value.int .i64 u, Value.slice none 0 0]]) (.cons (by kernel_rfl) .nil) (by kernel_rfl) (Heap.set (heapOf [Blk.mk 66 true [Value.int .i64 k, FS 46 (List.length L) 0 (List.toArray (fts L)), Value.int .i64 t, Value.int .i64 u, Value.slice none 0 0]]) 0 (some (Blk.mk 66 true [Value.int .i64 k, Value.iface 46 (Value.iface (List.length L) (Value.iface 0 (Value.agg (List.toArray (fts L))))), Value.int .i64 t, Value.int .i64 u, Value.slice none 0 0]))) (by kernel_rfl) ?_
  refine WpOps.nil (thenK_at (off' (Wp.skip (thenK_at (Wp.seq (Wp.text (kp 6 (.pointer (some ⟨0, 0, none⟩)) (kp 7 (.pointer (some ⟨0, 0, none⟩)) (kp 8 (.agg #[Value.int .i64 k, Value.iface 46 (Value.iface (List.length L) (Value.iface 0 (Value.agg (List.toArray (fts L))))), Value.int .i64 t, Value.int .i64 u, Value.slice none 0 0]) (md 3 (.pointer (some ⟨1, 0, none⟩)) (Blk.mk 66 true [Value.int .i64 0, Value.slice none 0 0, Value.int .i64 0, Value.int .i64 0, Value.slice none 0 0]) (ld (.tuple #[]) (1) (Blk.mk 66 true [Value.int .i64 k, Value.iface 46 (Value.iface (List.length L) (Value.iface 0 (Value.agg (List.toArray (fts L))))), Value.int .i64 t, Value.int .i64 u, Value.slice none 0 0]) (WpOps.nil (thenK_at (Wp.seq (Wp.text (kp 9 (.pointer (some ⟨0, 0, none⟩)) (kp 10 (.pointer (some ⟨0, 0, none⟩)) (kp 11 (.pointer (some ⟨0, 4, none⟩)) (kp 12 (.slice none 0 0) (cl 13 47 [Value.slice none 0 0] ?_))))))))))))))))))))
  refine WpCall.lent [] (c1) (by decide) trivial (by kernel_rfl) (Value.slice none 0 0) ([]) .nil (by kernel_rfl) (Heap.set (Heap.alloc (Heap.set (heapOf [Blk.mk 66 true [Value.int .i64 k, FS 46 (List.length L) 0 (List.toArray (fts L)), Value.int .i64 t, Value.int .i64 u, Value.slice none 0 0]]) 0 (some (Blk.mk 66 true [Value.int .i64 k, Value.iface 46 (Value.iface (List.length L) (Value.iface 0 (Value.agg (List.toArray (fts L))))), Value.int .i64 t, Value.int .i64 u, Value.slice none 0 0]))) (Blk.mk 66 true [Value.int .i64 0, Value.slice none 0 0, Value.int .i64 0, Value.int .i64 0, Value.slice none 0 0])) 1 (some (Blk.mk 66 true [Value.int .i64 k, Value.iface 46 (Value.iface (List.length L) (Value.iface 0 (Value.agg (List.toArray (fts L))))), Value.int .i64 t, Value.int .i64 u, Value.slice none 0 0]))) (by kernel_rfl) ?_
  refine kp 14 (.pointer (some ⟨1, 4, none⟩)) (ld (.tuple #[]) (1) (Blk.mk 66 true [Value.int .i64 k, Value.iface 46 (Value.iface (List.length L) (Value.iface 0 (Value.agg (List.toArray (fts L))))), Value.int .i64 t, Value.int .i64 u, Value.slice none 0 0]) (WpOps.nil (thenK_at (Wp.seq (Wp.text (kp 2 (.pointer (some ⟨1, 0, none⟩)) (WpOps.nil (thenK_at (Wp.ret (endK_retn [Value.pointer (some (Addr.mk 1 0 none))] (Value.pointer (some (Addr.mk 1 0 none))) (by kernel_rfl) (by kernel_rfl) ?_))))))))))
  exact ⟨[0, 1], by decide, by kernel_rfl, ⟨⟨_, by kernel_rfl, toldC_flat rfl⟩, ⟨_, by kernel_rfl, toldC_flat rfl⟩, trivial⟩, .w (.un rfl rfl)⟩
theorem copy30o (k : Int) (L : List Ft) (t u : Int) (p X : List Tr) (hl : X.length ≤ 1000) : Lent E 30 [.pointer (some ⟨0, 0, none⟩)] [mB k L t u (wO 1 p X), rowB (p ++ X)] (.pointer (some ⟨2, 0, none⟩)) [mB k L t u (wO 1 p X), rowB (p ++ X), mB k L t u (.slice (some ⟨3, 0, none⟩) X.length X.length), rowB X] := by
  have c0 := none40o k L t u (p.length * 2) X.length X.length (p ++ X)
  have c1 := clone47o p X hl
  have hfl : (rowB (p ++ X)).cells.all flat = true := tcs_flat _
  have hfl2 : (rowB X).cells.all flat = true := tcs_flat _
  refine Lent.of h30 rfl (of_decide_eq_true (by kernel_rfl)) rfl rfl (Nat.le_add_right 2 2) rfl ?_ rfl ?_
  · simp only [mB, rowB, List.all_cons, List.all_nil, okCs_flat (tcs_flat _), Bool.and_true]
    rfl
  unfold wO mB at *
  refine Wp.seq (Wp.text (kp 2 (.pointer none) (WpOps.nil (thenK_at (Wp.seq (Wp.seq (Wp.text (kp 4 (.pointer (some ⟨0, 0, none⟩)) (cl 5 40 [Value.pointer (some ⟨0, 0, none⟩)] ?_)))))))))
  refine WpCall.lent [0, 1] (c0) (by decide) ⟨⟨[Value.int .i64 k, Value.iface 46 (Value.iface (List.length L) (Value.iface 0 (Value.agg (List.toArray (fts L))))), Value.int .i64 t, Value.int .i64 u, Value.slice (some (Addr.mk 1 (List.length p * 2) none)) (List.length X) (List.length X)], (by kernel_rfl), (by kernel_rfl), (by kernel_rfl)⟩, ⟨⟨_, (by kernel_rfl), CellsOk.eq rfl (by assumption)⟩, trivial⟩⟩ (by kernel_rfl) (Value.bool false) ([Blk.mk 66 true [Value.int .i64 k, Value.iface 46 (Value.iface (List.length L) (Value.iface 0 (Value.agg (List.toArray (fts L))))), Value.int .i64 t, Value.int .i64 u, Value.slice (some (Addr.mk (List.getD [0, 1] 1 0) (List.length p * 2) none)) (List.length X) (List.length X)], Blk.mk 73 true (tcs (p ++ X))]) (.cons (by kernel_rfl) (.cons (unB_flat (by assumption)) .nil)) (by kernel_rfl) (Heap.set (Heap.set (heapOf [Blk.mk 66 true [Value.int .i64 k, FS 46 (List.length L) 0 (List.toArray (fts L)), Value.int .i64 t, Value.int .i64 u, Value.slice (some (Addr.mk 1 (List.length p * 2) none)) (List.length X) (List.length X)], rowB (p ++ X)]) 0 (some (Blk.mk 66 true [Value.int .i64 k, Value.iface 46 (Value.iface (List.length L) (Value.iface 0 (Value.agg (List.toArray (fts L))))), Value.int .i64 t, Value.int .i64 u, Value.slice (some (Addr.mk 1 (List.length p * 2) none)) (List.length X) (List.length X)]))) 1 (some (Blk.mk 73 true (tcs (p ++ X))))) (by kernel_rfl) ?_
  refine WpOps.nil (thenK_at (off' (Wp.skip (thenK_at (Wp.seq (Wp.text (kp 6 (.pointer (some ⟨0, 0, none⟩)) (kp 7 (.pointer (some ⟨0, 0, none⟩)) (kp 8 (.agg #[Value.int .i64 k, Value.iface 46 (Value.iface (List.length L) (Value.iface 0 (Value.agg (List.toArray (fts L))))), Value.int .i64 t, Value.int .i64 u, Value.slice (some (Addr.mk 1 (List.length p * 2) none)) (List.length X) (List.length X)]) (md 3 (.pointer (some ⟨2, 0, none⟩)) (Blk.mk 66 true [Value.int .i64 0, Value.slice none 0 0, Value.int .i64 0, Value.int .i64 0, Value.slice none 0 0]) (ld (.tuple #[]) (2) (Blk.mk 66 true [Value.int .i64 k, Value.iface 46 (Value.iface (List.length L) (Value.iface 0 (Value.agg (List.toArray (fts L))))), Value.int .i64 t, Value.int .i64 u, Value.slice (some (Addr.mk 1 (List.length p * 2) none)) (List.length X) (List.length X)]) (WpOps.nil (thenK_at (Wp.seq (Wp.text (kp 9 (.pointer (some ⟨0, 0, none⟩)) (kp 10 (.pointer (some ⟨0, 0, none⟩)) (kp 11 (.pointer (some ⟨0, 4, none⟩)) (kp 12 (.slice (some (Addr.mk 1 (List.length p * 2) none)) (List.length X) (List.length X)) (cl 13 47 [Value.slice (some (Addr.mk 1 (List.length p * 2) none)) (List.length X) (List.length X)] ?_))))))))))))))))))))
  refine WpCall.lent [1] (c1) (by decide) ⟨⟨_, (by kernel_rfl), CellsOk.eq rfl (by assumption)⟩, trivial⟩ (by kernel_rfl) (Value.slice (some (Addr.mk (List.getD [1, 3] 1 0) 0 none)) (List.length X) (List.length X)) ([Blk.mk 73 true (tcs (p ++ X)), Blk.mk 73 true (tcs X)]) (.cons (unB_flat (by assumption)) (.cons (unB_flat (by assumption)) .nil)) (by kernel_rfl) (Heap.alloc (Heap.set (Heap.set (Heap.alloc (Heap.set (Heap.set (heapOf [Blk.mk 66 true [Value.int .i64 k, FS 46 (List.length L) 0 (List.toArray (fts L)), Value.int .i64 t, Value.int .i64 u, Value.slice (some (Addr.mk 1 (List.length p * 2) none)) (List.length X) (List.length X)], rowB (p ++ X)]) 0 (some (Blk.mk 66 true [Value.int .i64 k, Value.iface 46 (Value.iface (List.length L) (Value.iface 0 (Value.agg (List.toArray (fts L))))), Value.int .i64 t, Value.int .i64 u, Value.slice (some (Addr.mk 1 (List.length p * 2) none)) (List.length X) (List.length X)]))) 1 (some (Blk.mk 73 true (tcs (p ++ X))))) (Blk.mk 66 true [Value.int .i64 0, Value.slice none 0 0, Value.int .i64 0, Value.int .i64 0, Value.slice none 0 0])) 2 (some (Blk.mk 66 true [Value.int .i64 k, Value.iface 46 (Value.iface (List.length L) (Value.iface 0 (Value.agg (List.toArray (fts L))))), Value.int .i64 t, Value.int .i64 u, Value.slice (some (Addr.mk 1 (List.length p * 2) none)) (List.length X) (List.length X)]))) 1 (some (Blk.mk 73 true (tcs (p ++ X))))) (Blk.mk 73 true (tcs X))) (by kernel_rfl) ?_
  refine kp 14 (.pointer (some ⟨2, 4, none⟩)) (ld (.tuple #[]) (2) (Blk.mk 66 true [Value.int .i64 k, Value.iface 46 (Value.iface (List.length L) (Value.iface 0 (Value.agg (List.toArray (fts L))))), Value.int .i64 t, Value.int .i64 u, Value.slice (some (Addr.mk (List.getD [1, 3] 1 0) 0 none)) (List.length X) (List.length X)]) (WpOps.nil (thenK_at (Wp.seq (Wp.text (kp 2 (.pointer (some ⟨2, 0, none⟩)) (WpOps.nil (thenK_at (Wp.ret (endK_retn [Value.pointer (some (Addr.mk 2 0 none))] (Value.pointer (some (Addr.mk 2 0 none))) (by kernel_rfl) (by kernel_rfl) ?_))))))))))
  exact ⟨[0, 1, 2, 3], by decide, by kernel_rfl, ⟨⟨_, by kernel_rfl, .cons (.inl ⟨rfl, rfl⟩) (.cons (.inl ⟨rfl, rfl⟩) (.cons (.inl ⟨rfl, rfl⟩) (.cons (.inl ⟨rfl, rfl⟩) (.cons (.inl ⟨rfl, rfl⟩) .nil))))⟩, ⟨_, by kernel_rfl, toldC_flat (tcs_flat _)⟩, ⟨_, by kernel_rfl, .cons (.inl ⟨rfl, rfl⟩) (.cons (.inl ⟨rfl, rfl⟩) (.cons (.inl ⟨rfl, rfl⟩) (.cons (.inl ⟨rfl, rfl⟩) (.cons (.inl ⟨rfl, rfl⟩) .nil))))⟩, ⟨_, by kernel_rfl, toldC_flat (tcs_flat _)⟩, trivial⟩, .w (.un rfl rfl)⟩
open Go.Fw Go.RowKit

structure J (t : Nat) (X Y : List Tr) : Prop where
  flt : Flt X Y
  inn : ∀ z ∈ X, (t : Int) < z.1 ∧ z.1 ≤ t + 24
  len : X.length ≤ 400
theorem J.zero (t : Nat) : J t [] [] := ⟨Flt.refl _, (fun _ h => by cases h), Nat.zero_le _⟩
theorem J.lens {t : Nat} {X Y : List Tr} (j : J t X Y) : Y.length = X.length := j.flt.len
theorem J.inT {t : Nat} {X Y : List Tr} (j : J t X Y) (ht : t ≤ 1000000) : InT X := fun z hz => by have := j.inn z hz; omega
theorem J.inT2 {t : Nat} {X Y : List Tr} (j : J t X Y) (ht : t ≤ 1000000) : InT Y := fun z hz => j.inT ht z (j.flt.mem hz)
theorem foldl_mx_same {X Y : List Tr} (h : Flt X Y) (a : Int) : Y.foldl mx a = X.foldl mx a := by
  have h1 := foldl_mx X a
  have h2 := foldl_mx Y a
  have e1 := foldl_mx_le (m := Y.foldl mx a) X a h2.1 fun z hz => h2.2 z (h.symm.mem hz)
  have e2 := foldl_mx_le (m := X.foldl mx a) Y a h1.1 fun z hz => h1.2 z (h.mem hz)
  omega
theorem atW_same {X Y : List Tr} (h : Flt X Y) (k : Int) (f : Ft) (t : Nat) : atW k f t Y = atW k f t X := by
  unfold atW
  rw [foldl_mx_same h]
theorem its_mem {a k : Int} {v : ByteArray} {n : Nat} {z : Tr} (h : z ∈ its a k v n) : ∃ i : Nat, i < n ∧ z = (a + (i : Int) * k, v) := by
  unfold its at h
  obtain ⟨i, hi, rfl⟩ := List.mem_map.1 h
  exact ⟨i, List.mem_range.1 hi, rfl⟩
theorem J.put {t : Nat} {X Y : List Tr} {k : Int} {L : List Ft} (u : Nat) (b : ByteArray) (j : J t X Y) (hk : k = 0 ∨ k = 1) (hok : L.all Ft.ok = true) : J t (nxt k L t u X b) (nxt k L t u Y b) := by
  obtain ⟨o1, o2, o3, o4, o5⟩ := fate_ok hok u
  have hat : (t : Int) < atW k (fate L u) t X ∧ atW k (fate L u) t X + 3 * k ≤ t + 24 := by
    unfold atW
    rcases hk with rfl | rfl
    · rw [if_pos rfl]
      have h1 := (foldl_mx X ((t : Int) + 1 + (fate L u).de)).1
      have h2 := foldl_mx_le (m := (t : Int) + 24) X ((t : Int) + 1 + (fate L u).de) (by omega) fun z hz => (j.inn z hz).2
      omega
    · rw [if_neg (by decide)]
      omega
  unfold nxt
  rw [atW_same j.flt]
  generalize atW k (fate L u) t X = a at hat
  generalize unit' (fate L u) b = v
  obtain ⟨n, hn⟩ : ∃ n, (fate L u).co.toNat + 1 = n := ⟨_, rfl⟩
  rw [hn]
  refine ⟨?_, fun z hz => ?_, ?_⟩
  · unfold Yl
    rw [j.lens]
    exact j.flt.app (Flt.refl _)
  · unfold Yl at hz
    rcases List.mem_append.1 hz with hz | hz
    · exact j.inn z hz
    · obtain ⟨i, hi, rfl⟩ := its_mem (List.mem_of_mem_take hz)
      dsimp only
      rcases hk with rfl | rfl <;> omega
  · rw [Yl_len]
    have := j.len
    omega
def dueS (T : Int) (Y : List Tr) : List Tr := Y.filter fun z => decide (z.1 ≤ T)
def leftS (T : Int) (Y : List Tr) : List Tr := Y.filter fun z => !decide (z.1 ≤ T)
theorem due_filter (T : Int) : ∀ {S : List Tr}, Srt S → due T S = dueS T S ∧ rest T S = leftS T S
  | [], _ => ⟨rfl, rfl⟩
  | x :: S, h => by
    obtain ⟨h1, h2⟩ := List.pairwise_cons.1 h
    obtain ⟨i1, i2⟩ := due_filter T h2
    unfold due rest dueS leftS at *
    by_cases hx : x.1 ≤ T
    · simp only [List.takeWhile_cons, List.dropWhile_cons, List.filter_cons, hx, decide_true, if_true, Bool.not_true, i1, i2]
      exact ⟨trivial, by simp⟩
    · have e1 : S.filter (fun z => decide (z.1 ≤ T)) = [] := by
        rw [List.filter_eq_nil_iff]
        intro z hz
        have := h1 z hz
        simp only [decide_eq_true_eq]
        omega
      have e2 : S.filter (fun z => !decide (z.1 ≤ T)) = S := by
        rw [List.filter_eq_self]
        intro z hz
        have := h1 z hz
        simp only [Bool.not_eq_true', decide_eq_false_iff_not]
        omega
      simp only [List.takeWhile_cons, List.dropWhile_cons, List.filter_cons, hx, decide_false, Bool.not_false, if_true, e1, e2]
      exact ⟨rfl, rfl⟩
theorem dueS_fil {T : Int} {Y : List Tr} (h : ∀ z ∈ Y, T ≤ z.1) : dueS T Y = fil T Y := by
  unfold dueS fil
  refine List.filter_congr fun z hz => ?_
  have := h z hz
  by_cases e : z.1 = T
  · simp [e]
  · have : ¬ z.1 ≤ T := by omega
    simp [e, this]
theorem leftS_fil (T k : Int) (Y : List Tr) : fil k (leftS T Y) = if k ≤ T then [] else fil k Y := by
  unfold leftS fil
  rw [List.filter_filter]
  split
  · rename_i h
    rw [List.filter_eq_nil_iff]
    intro z _
    by_cases e : z.1 = k
    · simp [e, h]
    · simp [e]
  · rename_i h
    refine List.filter_congr fun z _ => ?_
    by_cases e : z.1 = k
    · simp [e, h]
    · simp [e]
theorem two_len (T : Int) : ∀ Y : List Tr, (dueS T Y).length + (leftS T Y).length = Y.length
  | [] => rfl
  | y :: Y => by
    have ih := two_len T Y
    unfold dueS leftS at *
    rw [List.filter_cons, List.filter_cons, List.length_cons]
    by_cases e : y.1 ≤ T
    · simp only [e, decide_true, Bool.not_true, if_true, List.length_cons]
      simp only [Bool.false_eq_true, if_false]
      omega
    · simp only [e, decide_false, Bool.not_false, if_true, List.length_cons]
      simp only [Bool.false_eq_true, if_false]
      omega
theorem J.tick {t : Nat} {X Y : List Tr} (j : J t X Y) : due (t + 1 : Nat) (ssort X) = dueS (t + 1 : Nat) Y ∧ J (t + 1) (rest (t + 1 : Nat) (ssort X)) (leftS (t + 1 : Nat) Y) := by
  obtain ⟨e1, e2⟩ := due_filter ((t + 1 : Nat) : Int) (ssort_srt X)
  have hS := ssort_flt X
  have h1 : ∀ z ∈ ssort X, ((t + 1 : Nat) : Int) ≤ z.1 := fun z hz => by have := j.inn z (hS.mem hz); omega
  have h2 : ∀ z ∈ Y, ((t + 1 : Nat) : Int) ≤ z.1 := fun z hz => by have := j.inn z (j.flt.mem hz); omega
  have d : dueS ((t + 1 : Nat) : Int) (ssort X) = dueS ((t + 1 : Nat) : Int) Y := by rw [dueS_fil h1, dueS_fil h2, hS.fil, j.flt.fil]
  rw [e1, e2]
  have l1 := two_len ((t + 1 : Nat) : Int) (ssort X)
  have l2 := two_len ((t + 1 : Nat) : Int) Y
  have l3 := hS.len
  have l4 := j.lens
  have l5 := j.len
  refine ⟨d, ⟨⟨by rw [d] at l1; omega, fun k => by rw [leftS_fil, leftS_fil, hS.fil, j.flt.fil]⟩, fun z hz => ?_, by omega⟩⟩
  unfold leftS at hz
  obtain ⟨hz, hn⟩ := List.mem_filter.1 hz
  have := j.inn z (hS.mem hz)
  simp only [Bool.not_eq_true', decide_eq_false_iff_not] at hn
  omega
end Go.Proofs.Ytdkmdpklojeepaa.D
