/- The document's medium: getters, Reset, Tick, Put -/
import Derived.Test.YtdkmdpklojeepaaFwLem
import Derived.Test.YtdkmdpklojeepaaFwHole
import Derived.Test.YtdkmdpklojeepaaFwHoleL
import Derived.Test.YtdkmdpklojeepaaM09b
namespace Go.Proofs.Ytdkmdpklojeepaa.D
open Go.Fw Go.RowKit

theorem g48 : E.funcs 48 = some Try.f48 := by kernel_rfl
theorem g49 : E.funcs 49 = some Try.f49 := by kernel_rfl
theorem g50 : E.funcs 50 = some Try.f50 := by kernel_rfl
theorem g29 : E.funcs 29 = some Try.f29 := by kernel_rfl
theorem g27 : E.funcs 27 = some Try.f27 := by kernel_rfl
theorem g25 : E.funcs 25 = some Try.f25 := by kernel_rfl
theorem okSs (k : Int) (L : List Ft) (t u : Int) (Y : List Tr) (w : Value) (hw : okC 2 w = true) : [sB k L t u w, sR Y].all (fun x => x.cells.all (okC 2)) = true := by
  rw [List.all_cons, List.all_cons, okS k L t u hw, okSR]
  rfl
theorem now48n (k : Int) (L : List Ft) (t u : Int) : Lent E 48 [.pointer (some ⟨0, 0, none⟩)] [sB k L t u (.slice none 0 0)] (.int .i64 t) [sB k L t u (.slice none 0 0)] := by
  refine Lent.of g48 rfl (of_decide_eq_true (by kernel_rfl)) rfl rfl (Nat.le_refl _) rfl rfl rfl ?_
  unfold sB
  refine Wp.seq (Wp.text (kp 2 (.int .i64 0) (WpOps.nil (thenK_at (Wp.seq (Wp.text (kp 3 (.pointer (some ⟨0, 0, none⟩)) (kp 4 (.pointer (some ⟨0, 0, none⟩)) (kp 5 (.pointer (some ⟨0, 2, none⟩)) (kp 6 (.int .i64 t) (kp 2 (.int .i64 t) (WpOps.nil (thenK_at (Wp.ret (endK_retn [Value.int .i64 t] (Value.int .i64 t) (by kernel_rfl) (by kernel_rfl) ?_)))))))))))))))
  exact ⟨[0], by decide, by kernel_rfl, ⟨⟨_, by kernel_rfl, toldC_flat rfl⟩, trivial⟩, .w (.un rfl rfl)⟩
theorem now48o (k : Int) (L : List Ft) (t u : Int) (Y : List Tr) : Lent E 48 [.pointer (some ⟨0, 0, none⟩)] [sB k L t u (wS 1 Y), sR Y] (.int .i64 t) [sB k L t u (wS 1 Y), sR Y] := by
  refine Lent.of g48 rfl (of_decide_eq_true (by kernel_rfl)) rfl rfl (Nat.le_refl _) rfl (okSs _ _ _ _ _ _ rfl) rfl ?_
  unfold sB wS
  refine Wp.seq (Wp.text (kp 2 (.int .i64 0) (WpOps.nil (thenK_at (Wp.seq (Wp.text (kp 3 (.pointer (some ⟨0, 0, none⟩)) (kp 4 (.pointer (some ⟨0, 0, none⟩)) (kp 5 (.pointer (some ⟨0, 2, none⟩)) (kp 6 (.int .i64 t) (kp 2 (.int .i64 t) (WpOps.nil (thenK_at (Wp.ret (endK_retn [Value.int .i64 t] (Value.int .i64 t) (by kernel_rfl) (by kernel_rfl) ?_)))))))))))))))
  exact ⟨[0, 1], by decide, by kernel_rfl, ⟨⟨_, by kernel_rfl, .cons (.inl ⟨rfl, rfl⟩) (.cons (.inl ⟨rfl, rfl⟩) (.cons (.inl ⟨rfl, rfl⟩) (.cons (.inl ⟨rfl, rfl⟩) (.cons (.inl ⟨rfl, rfl⟩) .nil))))⟩, ⟨_, by kernel_rfl, toldC_flat (ics_flat _)⟩, trivial⟩, .w (.un rfl rfl)⟩
theorem wait49n (k : Int) (L : List Ft) (t u : Int) : Lent E 49 [.pointer (some ⟨0, 0, none⟩)] [sB k L t u (.slice none 0 0)] (.int .i64 0) [sB k L t u (.slice none 0 0)] := by
  refine Lent.of g49 rfl (of_decide_eq_true (by kernel_rfl)) rfl rfl (Nat.le_refl _) rfl rfl rfl ?_
  unfold sB
  refine Wp.seq (Wp.text (kp 2 (.int .i64 0) (WpOps.nil (thenK_at (Wp.seq (Wp.text (kp 3 (.pointer (some ⟨0, 0, none⟩)) (kp 4 (.pointer (some ⟨0, 0, none⟩)) (kp 5 (.pointer (some ⟨0, 4, none⟩)) (kp 6 (.slice none 0 0) (kp 7 (.int .i64 (↑0 : Int)) (kp 2 (.int .i64 (↑0 : Int)) (WpOps.nil (thenK_at (Wp.ret (endK_retn [Value.int .i64 (↑0 : Int)] (Value.int .i64 (↑0 : Int)) (by kernel_rfl) (by kernel_rfl) ?_))))))))))))))))
  exact ⟨[0], by decide, by kernel_rfl, ⟨⟨_, by kernel_rfl, toldC_flat rfl⟩, trivial⟩, .w (.un rfl rfl)⟩
theorem wait49o (k : Int) (L : List Ft) (t u : Int) (Y : List Tr) : Lent E 49 [.pointer (some ⟨0, 0, none⟩)] [sB k L t u (wS 1 Y), sR Y] (.int .i64 Y.length) [sB k L t u (wS 1 Y), sR Y] := by
  refine Lent.of g49 rfl (of_decide_eq_true (by kernel_rfl)) rfl rfl (Nat.le_refl _) rfl (okSs _ _ _ _ _ _ rfl) rfl ?_
  unfold sB wS
  refine Wp.seq (Wp.text (kp 2 (.int .i64 0) (WpOps.nil (thenK_at (Wp.seq (Wp.text (kp 3 (.pointer (some ⟨0, 0, none⟩)) (kp 4 (.pointer (some ⟨0, 0, none⟩)) (kp 5 (.pointer (some ⟨0, 4, none⟩)) (kp 6 (.slice (some ⟨1, 0, none⟩) (List.length Y) (List.length Y)) (kp 7 (.int .i64 (List.length Y)) (kp 2 (.int .i64 (List.length Y)) (WpOps.nil (thenK_at (Wp.ret (endK_retn [Value.int .i64 (List.length Y)] (Value.int .i64 (List.length Y)) (by kernel_rfl) (by kernel_rfl) ?_))))))))))))))))
  exact ⟨[0, 1], by decide, by kernel_rfl, ⟨⟨_, by kernel_rfl, .cons (.inl ⟨rfl, rfl⟩) (.cons (.inl ⟨rfl, rfl⟩) (.cons (.inl ⟨rfl, rfl⟩) (.cons (.inl ⟨rfl, rfl⟩) (.cons (.inl ⟨rfl, rfl⟩) .nil))))⟩, ⟨_, by kernel_rfl, toldC_flat (ics_flat _)⟩, trivial⟩, .w (.un rfl rfl)⟩
theorem cnt50n (k : Int) (L : List Ft) (t u : Int) : Lent E 50 [.pointer (some ⟨0, 0, none⟩)] [sB k L t u (.slice none 0 0)] (.int .i64 u) [sB k L t u (.slice none 0 0)] := by
  refine Lent.of g50 rfl (of_decide_eq_true (by kernel_rfl)) rfl rfl (Nat.le_refl _) rfl rfl rfl ?_
  unfold sB
  refine Wp.seq (Wp.text (kp 2 (.int .i64 0) (WpOps.nil (thenK_at (Wp.seq (Wp.text (kp 3 (.pointer (some ⟨0, 0, none⟩)) (kp 4 (.pointer (some ⟨0, 0, none⟩)) (kp 5 (.pointer (some ⟨0, 3, none⟩)) (kp 6 (.int .i64 u) (kp 2 (.int .i64 u) (WpOps.nil (thenK_at (Wp.ret (endK_retn [Value.int .i64 u] (Value.int .i64 u) (by kernel_rfl) (by kernel_rfl) ?_)))))))))))))))
  exact ⟨[0], by decide, by kernel_rfl, ⟨⟨_, by kernel_rfl, toldC_flat rfl⟩, trivial⟩, .w (.un rfl rfl)⟩
theorem cnt50o (k : Int) (L : List Ft) (t u : Int) (Y : List Tr) : Lent E 50 [.pointer (some ⟨0, 0, none⟩)] [sB k L t u (wS 1 Y), sR Y] (.int .i64 u) [sB k L t u (wS 1 Y), sR Y] := by
  refine Lent.of g50 rfl (of_decide_eq_true (by kernel_rfl)) rfl rfl (Nat.le_refl _) rfl (okSs _ _ _ _ _ _ rfl) rfl ?_
  unfold sB wS
  refine Wp.seq (Wp.text (kp 2 (.int .i64 0) (WpOps.nil (thenK_at (Wp.seq (Wp.text (kp 3 (.pointer (some ⟨0, 0, none⟩)) (kp 4 (.pointer (some ⟨0, 0, none⟩)) (kp 5 (.pointer (some ⟨0, 3, none⟩)) (kp 6 (.int .i64 u) (kp 2 (.int .i64 u) (WpOps.nil (thenK_at (Wp.ret (endK_retn [Value.int .i64 u] (Value.int .i64 u) (by kernel_rfl) (by kernel_rfl) ?_)))))))))))))))
  exact ⟨[0, 1], by decide, by kernel_rfl, ⟨⟨_, by kernel_rfl, .cons (.inl ⟨rfl, rfl⟩) (.cons (.inl ⟨rfl, rfl⟩) (.cons (.inl ⟨rfl, rfl⟩) (.cons (.inl ⟨rfl, rfl⟩) (.cons (.inl ⟨rfl, rfl⟩) .nil))))⟩, ⟨_, by kernel_rfl, toldC_flat (ics_flat _)⟩, trivial⟩, .w (.un rfl rfl)⟩
theorem reset29n (k : Int) (L : List Ft) (t u : Int) : Lent E 29 [.pointer (some ⟨0, 0, none⟩)] [sB k L t u (.slice none 0 0)] (.int .i64 0) [sB k L t u (.slice none 0 0)] := by
  refine Lent.of g29 rfl (of_decide_eq_true (by kernel_rfl)) rfl rfl (Nat.le_refl _) rfl rfl rfl ?_
  unfold sB
  refine Wp.seq (Wp.text (kp 2 (.int .i64 0) (WpOps.nil (thenK_at (Wp.seq (Wp.text (kp 4 (.pointer (some ⟨0, 0, none⟩)) (kp 5 (.pointer (some ⟨0, 0, none⟩)) (kp 6 (.pointer (some ⟨0, 4, none⟩)) (kp 7 (.slice none 0 0) (kp 8 (.int .i64 (↑0 : Int)) (kp 3 (.int .i64 (↑0 : Int)) (WpOps.nil (thenK_at (Wp.seq (Wp.text (kp 9 (.pointer (some ⟨0, 0, none⟩)) (kp 10 (.pointer (some ⟨0, 0, none⟩)) (kp 11 (.pointer (some ⟨0, 4, none⟩)) (ld (.tuple #[]) (0) (Blk.mk 78 true [Value.int .i64 k, Value.iface 36 (Value.iface (List.length L) (Value.iface 0 (Value.agg (List.toArray (fts L))))), Value.int .i64 t, Value.int .i64 u, Value.slice none 0 0]) (WpOps.nil (thenK_at (Wp.seq (Wp.text (kp 12 (.int .i64 (↑0 : Int)) (kp 2 (.int .i64 (↑0 : Int)) (WpOps.nil (thenK_at (Wp.ret (endK_retn [Value.int .i64 (↑0 : Int)] (Value.int .i64 (↑0 : Int)) (by kernel_rfl) (by kernel_rfl) ?_))))))))))))))))))))))))))))))
  exact ⟨[0], by decide, by kernel_rfl, ⟨⟨_, by kernel_rfl, toldC_flat rfl⟩, trivial⟩, .w (.un rfl rfl)⟩
theorem reset29o (k : Int) (L : List Ft) (t u : Int) (Y : List Tr) : Lent E 29 [.pointer (some ⟨0, 0, none⟩)] [sB k L t u (wS 1 Y), sR Y] (.int .i64 Y.length) [sB k L t u (.slice none 0 0), sR Y] := by
  refine Lent.of g29 rfl (of_decide_eq_true (by kernel_rfl)) rfl rfl (Nat.le_refl _) rfl (okSs _ _ _ _ _ _ rfl) rfl ?_
  unfold sB wS
  refine Wp.seq (Wp.text (kp 2 (.int .i64 0) (WpOps.nil (thenK_at (Wp.seq (Wp.text (kp 4 (.pointer (some ⟨0, 0, none⟩)) (kp 5 (.pointer (some ⟨0, 0, none⟩)) (kp 6 (.pointer (some ⟨0, 4, none⟩)) (kp 7 (.slice (some ⟨1, 0, none⟩) (List.length Y) (List.length Y)) (kp 8 (.int .i64 (List.length Y)) (kp 3 (.int .i64 (List.length Y)) (WpOps.nil (thenK_at (Wp.seq (Wp.text (kp 9 (.pointer (some ⟨0, 0, none⟩)) (kp 10 (.pointer (some ⟨0, 0, none⟩)) (kp 11 (.pointer (some ⟨0, 4, none⟩)) (ld (.tuple #[]) (0) (Blk.mk 78 true [Value.int .i64 k, Value.iface 36 (Value.iface (List.length L) (Value.iface 0 (Value.agg (List.toArray (fts L))))), Value.int .i64 t, Value.int .i64 u, Value.slice none 0 0]) (WpOps.nil (thenK_at (Wp.seq (Wp.text (kp 12 (.int .i64 (List.length Y)) (kp 2 (.int .i64 (List.length Y)) (WpOps.nil (thenK_at (Wp.ret (endK_retn [Value.int .i64 (List.length Y)] (Value.int .i64 (List.length Y)) (by kernel_rfl) (by kernel_rfl) ?_))))))))))))))))))))))))))))))
  exact ⟨[0, 1], by decide, by kernel_rfl, ⟨⟨_, by kernel_rfl, .cons (.inl ⟨rfl, rfl⟩) (.cons (.inl ⟨rfl, rfl⟩) (.cons (.inl ⟨rfl, rfl⟩) (.cons (.inl ⟨rfl, rfl⟩) (.cons (.inl ⟨rfl, rfl⟩) .nil))))⟩, ⟨_, by kernel_rfl, toldC_flat (ics_flat _)⟩, trivial⟩, .w (.un rfl rfl)⟩
theorem tick27n (k : Int) (L : List Ft) (t : Nat) (u : Int) (ht : t ≤ 1000000) : Lent E 27 [.pointer (some ⟨0, 0, none⟩)] [sB k L t u (.slice none 0 0)] (.slice none 0 0) [sB k L (t + 1 : Nat) u (.slice none 0 0)] := by
  refine Lent.of g27 rfl (of_decide_eq_true (by kernel_rfl)) rfl rfl (Nat.le_refl _) rfl rfl rfl ?_
  have wt : IntKind.i64.wrap ((t : Int) + 1) = ((t + 1 : Nat) : Int) := by rw [wr _ (by omega) (by omega)]; omega
  unfold sB
  refine Wp.seq (Wp.text (kp 2 (.slice none 0 0) (WpOps.nil (thenK_at (Wp.seq (Wp.text (kp 6 (.pointer (some ⟨0, 0, none⟩)) (kp 7 (.pointer (some ⟨0, 0, none⟩)) (kp 8 (.pointer (some ⟨0, 0, none⟩)) (kp 9 (.pointer (some ⟨0, 2, none⟩)) (kp 10 (.int .i64 t) (kp 11 (.int .i64 (IntKind.wrap .i64 ((↑t : Int) + 1))) (kp 12 (.pointer (some ⟨0, 0, none⟩)) (kp 13 (.pointer (some ⟨0, 2, none⟩)) (ld (.tuple #[]) (0) (Blk.mk 78 true [Value.int .i64 k, Value.iface 36 (Value.iface (List.length L) (Value.iface 0 (Value.agg (List.toArray (fts L))))), Value.int .i64 (IntKind.wrap .i64 ((↑t : Int) + 1)), Value.int .i64 u, Value.slice none 0 0]) (WpOps.nil (thenK_at (Wp.seq (Wp.text (kp 3 (.slice none 0 0) (WpOps.nil (thenK_at (Wp.seq (Wp.text (kp 4 (.slice none 0 0) (WpOps.nil (thenK_at (Wp.seq (Wp.seq (Wp.text (kp 5 (.int .i64 0) (WpOps.nil (thenK_at (Wp.block ?_))))))))))))))))))))))))))))))))))
  rw [wt]
  refine Wp.unroll (WpL.step ?_)
  refine Wp.seq (Wp.seq (Wp.text (kp 14 (.int .i64 0) (kp 15 (.pointer (some ⟨0, 0, none⟩)) (kp 16 (.pointer (some ⟨0, 0, none⟩)) (kp 17 (.pointer (some ⟨0, 4, none⟩)) (kp 18 (.slice none 0 0) (kp 19 (.int .i64 (↑0 : Int)) (kp 20 (.bool false) (WpOps.nil (thenK_at (off' (Wp.exit (thenK_exit (thenK_exit (blockK_hit (thenK_at (Wp.seq (Wp.text (kp 57 (.pointer (some ⟨0, 0, none⟩)) (kp 58 (.slice none 0 0) (kp 59 (.pointer (some ⟨0, 0, none⟩)) (kp 60 (.pointer (some ⟨0, 4, none⟩)) (ld (.tuple #[]) (0) (Blk.mk 78 true [Value.int .i64 k, Value.iface 36 (Value.iface (List.length L) (Value.iface 0 (Value.agg (List.toArray (fts L))))), Value.int .i64 (↑(t + 1) : Int), Value.int .i64 u, Value.slice none 0 0]) (WpOps.nil (thenK_at (Wp.seq (Wp.text (kp 61 (.slice none 0 0) (kp 2 (.slice none 0 0) (WpOps.nil (thenK_at (Wp.ret (endK_retn [Value.slice none 0 0] (Value.slice none 0 0) (by kernel_rfl) (by kernel_rfl) ?_))))))))))))))))))))))))))))))))))
  exact ⟨[0], by decide, by kernel_rfl, ⟨⟨_, by kernel_rfl, toldC_flat rfl⟩, trivial⟩, .w (.un rfl rfl)⟩
/-- What came out so far, and what stays: nil, or a row. -/
def uV (D : List Tr) : Value := if D = [] then .slice none 0 0 else .slice (some ⟨2, 0, none⟩) D.length D.length
def uB (D : List Tr) : Option Blk := if D = [] then none else some ⟨9, true, uns D⟩
def lV (F : List Tr) : Value := if F = [] then .slice none 0 0 else .slice (some ⟨3, 0, none⟩) F.length F.length
def lB (F : List Tr) : Option Blk := if F = [] then none else some (sR F)
theorem uV_snoc (D : List Tr) (y : Tr) : uV (D ++ [y]) = .slice (some ⟨2, 0, none⟩) (D ++ [y]).length (D ++ [y]).length := if_neg (by simp)
theorem uB_snoc (D : List Tr) (y : Tr) : uB (D ++ [y]) = some ⟨9, true, uns (D ++ [y])⟩ := if_neg (by simp)
theorem lV_snoc (D : List Tr) (y : Tr) : lV (D ++ [y]) = .slice (some ⟨3, 0, none⟩) (D ++ [y]).length (D ++ [y]).length := if_neg (by simp)
theorem lB_snoc (D : List Tr) (y : Tr) : lB (D ++ [y]) = some (sR (D ++ [y])) := if_neg (by simp)
theorem uns_app (a b : List Tr) : uns (a ++ b) = uns a ++ uns b := by simp [uns]
theorem uns_all (D : List Tr) : cellsAt (uns D) 0 (D.length * 1) = some (uns D) := by
  unfold cellsAt
  rw [uns_len, if_pos (by omega), List.drop_zero, List.take_of_length_le (by rw [uns_len]; omega)]
theorem dueS_yes {T : Int} {Y : List Tr} {i : Nat} (h : i < Y.length) (c : Y[i].1 ≤ T) : dueS T (Y.take (i + 1)) = dueS T (Y.take i) ++ [Y[i]] ∧ leftS T (Y.take (i + 1)) = leftS T (Y.take i) := by
  unfold dueS leftS
  rw [List.take_add_one, List.getElem?_eq_getElem h, Option.toList_some, List.filter_append, List.filter_append, List.filter_cons, List.filter_cons]
  simp [c]
theorem dueS_no {T : Int} {Y : List Tr} {i : Nat} (h : i < Y.length) (c : ¬ Y[i].1 ≤ T) : dueS T (Y.take (i + 1)) = dueS T (Y.take i) ∧ leftS T (Y.take (i + 1)) = leftS T (Y.take i) ++ [Y[i]] := by
  unfold dueS leftS
  rw [List.take_add_one, List.getElem?_eq_getElem h, Option.toList_some, List.filter_append, List.filter_append, List.filter_cons, List.filter_cons]
  simp [c]
def tickT (k : Int) (L : List Ft) (t : Nat) (u : Int) (F : List Tr) : List (Option Blk) := if F = [] then [some (sB k L (t + 1 : Nat) u (.slice none 0 0)), none] else [some (sB k L (t + 1 : Nat) u (wS 2 F)), none, some (sR F)]
theorem tick27o (k : Int) (L : List Ft) (t : Nat) (u : Int) (Y : List Tr) (ht : t ≤ 1000000) (hY : Y.length ≤ 1000) :
    SCall E 27 [.pointer (some ⟨0, 0, none⟩)] (heapO [some (sB k L t u (wS 1 Y)), some (sR Y)]) (outU (dueS (t + 1 : Nat) Y)) (heapO (tickT k L t u (leftS (t + 1 : Nat) Y))) := by
  refine SCall.enterO g27 rfl (of_decide_eq_true (by kernel_rfl)) rfl (by unfold tickT; split <;> rfl) (by unfold tickT; split; exact Nat.le_refl 2; exact Nat.le_succ 2) ?_
  have wt : IntKind.i64.wrap ((t : Int) + 1) = ((t + 1 : Nat) : Int) := by rw [wr _ (by omega) (by omega)]; omega
  have hfl : (sR Y).cells.all flat = true := ics_flat _
  unfold sB wS
  refine Wp.seq (Wp.text (kp 2 (.slice none 0 0) (WpOps.nil (thenK_at (Wp.seq (Wp.text (kp 6 (.pointer (some ⟨0, 0, none⟩)) (kp 7 (.pointer (some ⟨0, 0, none⟩)) (kp 8 (.pointer (some ⟨0, 0, none⟩)) (kp 9 (.pointer (some ⟨0, 2, none⟩)) (kp 10 (.int .i64 t) (kp 11 (.int .i64 (IntKind.wrap .i64 ((↑t : Int) + 1))) (kp 12 (.pointer (some ⟨0, 0, none⟩)) (kp 13 (.pointer (some ⟨0, 2, none⟩)) (ld (.tuple #[]) (0) (Blk.mk 78 true [Value.int .i64 k, Value.iface 36 (Value.iface (List.length L) (Value.iface 0 (Value.agg (List.toArray (fts L))))), Value.int .i64 (IntKind.wrap .i64 ((↑t : Int) + 1)), Value.int .i64 u, Value.slice (some ⟨1, 0, none⟩) (List.length Y) (List.length Y)]) (WpOps.nil (thenK_at (Wp.seq (Wp.text (kp 3 (.slice none 0 0) (WpOps.nil (thenK_at (Wp.seq (Wp.text (kp 4 (.slice none 0 0) (WpOps.nil (thenK_at (Wp.seq (Wp.seq (Wp.text (kp 5 (.int .i64 0) (WpOps.nil (thenK_at (Wp.block ?_))))))))))))))))))))))))))))))))))
  rw [wt]
  generalize hT : t + 1 = T at *
  refine Wp.loop (G := Nat) (fun i => layj [(0, .pointer (some ⟨0, 0, none⟩)), (2, .slice none 0 0), (3, uV (dueS T (Y.take i))), (4, lV (leftS T (Y.take i))), (5, .int .i64 i)]) (fun i => heapO [some ⟨78, true, [.int .i64 k, FS 36 L.length 0 (fts L).toArray, .int .i64 T, .int .i64 u, .slice (some ⟨1, 0, none⟩) Y.length Y.length]⟩, some (sR Y), uB (dueS T (Y.take i)), lB (leftS T (Y.take i))]) (fun i => Y.length - i) (fun i => i ≤ Y.length) 0
    (View.ofP [0, 1, 2, 3] _ _ (by decide) rfl ⟨⟨_, by kernel_rfl, ⟨rfl, rfl⟩⟩, ⟨_, by kernel_rfl, CellsOk.eq rfl (ics_flat _)⟩, trivial⟩ ⟨⟨by kernel_rfl, rfl⟩, ⟨by kernel_rfl, rfl⟩, ⟨by kernel_rfl, rfl⟩, ⟨by kernel_rfl, rfl⟩, ⟨by kernel_rfl, rfl⟩, trivial⟩) (Nat.zero_le _) ?_
  intro i hi
  by_cases hc : i < Y.length
  · have d2 : decide ((i : Int) < (Y.length : Int)) = true := decide_eq_true (by omega)
    have g1 : 0 ≤ (i : Int) ∧ (i : Int) < Y.length := by omega
    have g2 : cellsAt (ics Y) (0 + (i : Int).toNat * 2) 2 = some [.string Y[i].2, .int .i64 Y[i].1] := by
      rw [Int.toNat_natCast, Nat.zero_add]
      exact ics_at hc
    have wi : IntKind.i64.wrap ((i : Int) + 1) = ((i + 1 : Nat) : Int) := by rw [wr _ (by omega) (by omega)]; omega
    have g3 : (ics Y)[0 + (i : Int).toNat * 2 + 1]? = some (.int .i64 Y[i].1) := by
      have := cellsAt_one (i := 1) g2 rfl
      rwa [Nat.add_zero] at this
    have g4 : (ics Y)[0 + (i : Int).toNat * 2 + 0]? = some (.string Y[i].2) := by
      have := cellsAt_one (i := 0) g2 rfl
      rwa [Nat.add_zero] at this
    have hlD : (dueS T (Y.take i)).length ≤ 1000 := by
      have h1 := two_len T (Y.take i)
      rw [List.length_take] at h1
      omega
    have hlF : (leftS T (Y.take i)).length ≤ 1000 := by
      have h1 := two_len T (Y.take i)
      rw [List.length_take] at h1
      omega
    have hy : ∃ y, Y[i] = y := ⟨_, rfl⟩
    by_cases hy : Y[i].1 ≤ (T : Int)
    · obtain ⟨e1, e2⟩ := dueS_yes hc hy
      have d3 : decide (Y[i].1 ≤ (T : Int)) = true := decide_eq_true hy
      have hgo : ∀ s' h', View 2 E Try.f27.ntmps s' h' (layj [(0, .pointer (some ⟨0, 0, none⟩)), (2, .slice none 0 0), (3, uV (dueS T (Y.take (i + 1)))), (4, lV (leftS T (Y.take (i + 1)))), (5, .int .i64 (i + 1 : Nat))]) (heapO [some ⟨78, true, [.int .i64 k, FS 36 L.length 0 (fts L).toArray, .int .i64 T, .int .i64 u, .slice (some ⟨1, 0, none⟩) Y.length Y.length]⟩, some (sR Y), uB (dueS T (Y.take (i + 1))), lB (leftS T (Y.take (i + 1)))]) → ∃ g, Y.length - g < Y.length - i ∧ g ≤ Y.length ∧ View 2 E Try.f27.ntmps s' h' (layj [(0, .pointer (some ⟨0, 0, none⟩)), (2, .slice none 0 0), (3, uV (dueS T (Y.take g))), (4, lV (leftS T (Y.take g))), (5, .int .i64 g)]) (heapO [some ⟨78, true, [.int .i64 k, FS 36 L.length 0 (fts L).toArray, .int .i64 T, .int .i64 u, .slice (some ⟨1, 0, none⟩) Y.length Y.length]⟩, some (sR Y), uB (dueS T (Y.take g)), lB (leftS T (Y.take g))]) := fun _ _ v => ⟨i + 1, by omega, by omega, v⟩
      rw [e1, e2] at hgo
      generalize dueS T (Y.take i) = D at *
      generalize leftS T (Y.take i) = F at *
      clear e1 e2
      by_cases hD : D = []
      · subst hD
        by_cases hF : F = []
        · subst hF
          have r1 : ([Value.string Y[i].2] : List Value) = uns ([] ++ [Y[i]]) := rfl
          show Wp 2 E Try.f27.ntmps _ (layj [(0, .pointer (some ⟨0, 0, none⟩)), (2, .slice none 0 0), (3, .slice none 0 0), (4, .slice none 0 0), (5, .int .i64 i)]) (heapO [some ⟨78, true, [.int .i64 k, FS 36 L.length 0 (fts L).toArray, .int .i64 T, .int .i64 u, .slice (some ⟨1, 0, none⟩) Y.length Y.length]⟩, some (sR Y), none, none]) _
          unfold sR
          refine Wp.seq (Wp.seq (Wp.text (kp 14 (.int .i64 i) (kp 15 (.pointer (some ⟨0, 0, none⟩)) (kp 16 (.pointer (some ⟨0, 0, none⟩)) (kp 17 (.pointer (some ⟨0, 4, none⟩)) (kp 18 (.slice (some ⟨1, 0, none⟩) (List.length Y) (List.length Y)) (kp 19 (.int .i64 (List.length Y)) (kp 20 (.bool true) (WpOps.nil (thenK_at (on' (Wp.skip (thenK_at (Wp.seq (Wp.block (Wp.seq (Wp.region (by kernel_rfl) (kp 23 (.pointer (some ⟨0, 0, none⟩)) (kp 24 (.pointer (some ⟨0, 0, none⟩)) (kp 25 (.pointer (some ⟨0, 4, none⟩)) (kp 26 (.slice (some ⟨1, 0, none⟩) (List.length Y) (List.length Y)) (kp 27 (.int .i64 i) (kp 28 (.pointer (some (Addr.mk 1 (0 + Int.toNat (↑i : Int) * 2) none))) (kp 29 (.pointer (some (Addr.mk 1 (0 + Int.toNat (↑i : Int) * 2 + 1) none))) (kp 30 (.int .i64 (Prod.fst Y[i])) (kp 31 (.pointer (some ⟨0, 0, none⟩)) (kp 32 (.pointer (some ⟨0, 0, none⟩)) (kp 33 (.pointer (some ⟨0, 2, none⟩)) (kp 34 (.int .i64 T) (kp 35 (.bool true) (WpOps.nil (thenK_at (on' (Wp.text (kp 36 (.slice none 0 0) (kp 37 (.pointer (some ⟨0, 0, none⟩)) (kp 38 (.pointer (some ⟨0, 0, none⟩)) (kp 39 (.pointer (some ⟨0, 4, none⟩)) (kp 40 (.slice (some ⟨1, 0, none⟩) (List.length Y) (List.length Y)) (kp 41 (.int .i64 i) (kp 42 (.pointer (some (Addr.mk 1 (0 + Int.toNat (↑i : Int) * 2) none))) ?_ (hop := fun _ => o_indexAddr (a := (↑i : Int)) (bl := 1) (off := 0) (size := 2) 80 (List.length Y) g1)))))))))))) (hop := fun _ => by_fact d3)))))) (hop := fun _ => o_load1 (1) (0 + Int.toNat (↑i : Int) * 2 + 1) g3))) (hop := fun _ => o_indexAddr (a := (↑i : Int)) (bl := 1) (off := 0) (size := 2) 80 (List.length Y) g1)))))))))))))))) (hop := fun _ => by_fact d2))))))))))
          refine kp 43 (.pointer (some (Addr.mk 1 (0 + Int.toNat (↑i : Int) * 2 + 0) none))) (kp 44 (.string (Prod.snd Y[i])) (md 45 (.slice (some ⟨4, 0, none⟩) 1 1) (Blk.mk 9 true [Value.string (Prod.snd Y[i])]) (md 46 (.slice (some ⟨5, 0, none⟩) 1 1) (Blk.mk 9 true [Value.string (Prod.snd Y[i])]) (kp 3 (.slice (some ⟨5, 0, none⟩) 1 1) (WpOps.nil (blockK_norm (thenK_at (Wp.text (kp 21 (.int .i64 i) (kp 22 (.int .i64 (IntKind.wrap .i64 ((↑i : Int) + 1))) (kp 5 (.int .i64 (IntKind.wrap .i64 ((↑i : Int) + 1))) (WpOps.nil (thenK_at ?_)))))))))))) (hop := fun _ => o_load1 (1) (0 + Int.toNat (↑i : Int) * 2 + 0) g4))
          rw [r1]
          rw [uV_snoc, uB_snoc] at hgo
          exact hgo _ _ (View.ofP [0, 1, 5, 3] [some ⟨78, true, [.int .i64 k, FS 36 L.length 0 (fts L).toArray, .int .i64 T, .int .i64 u, .slice (some ⟨1, 0, none⟩) Y.length Y.length]⟩, some (sR Y), some ⟨9, true, uns ([] ++ [Y[i]])⟩, none] _ (by decide) rfl ⟨⟨_, by kernel_rfl, ⟨rfl, rfl⟩⟩, ⟨_, by kernel_rfl, CellsOk.eq rfl (ics_flat _)⟩, ⟨_, by kernel_rfl, CellsOk.eq rfl (uns_flat _)⟩, trivial⟩ ⟨⟨by kernel_rfl, rfl⟩, ⟨by kernel_rfl, rfl⟩, ⟨by kernel_rfl, rfl⟩, ⟨by kernel_rfl, rfl⟩, ⟨congrArg (Value.int .i64) wi, rfl⟩, trivial⟩)
        · have le : lV F = .slice (some ⟨3, 0, none⟩) F.length F.length := if_neg hF
          have lb : lB F = some (sR F) := if_neg hF
          rw [le, lb] at hgo ⊢
          have r1 : ([Value.string Y[i].2] : List Value) = uns ([] ++ [Y[i]]) := rfl
          show Wp 2 E Try.f27.ntmps _ (layj [(0, .pointer (some ⟨0, 0, none⟩)), (2, .slice none 0 0), (3, .slice none 0 0), (4, .slice (some ⟨3, 0, none⟩) F.length F.length), (5, .int .i64 i)]) (heapO [some ⟨78, true, [.int .i64 k, FS 36 L.length 0 (fts L).toArray, .int .i64 T, .int .i64 u, .slice (some ⟨1, 0, none⟩) Y.length Y.length]⟩, some (sR Y), none, some (sR F)]) _
          unfold sR
          refine Wp.seq (Wp.seq (Wp.text (kp 14 (.int .i64 i) (kp 15 (.pointer (some ⟨0, 0, none⟩)) (kp 16 (.pointer (some ⟨0, 0, none⟩)) (kp 17 (.pointer (some ⟨0, 4, none⟩)) (kp 18 (.slice (some ⟨1, 0, none⟩) (List.length Y) (List.length Y)) (kp 19 (.int .i64 (List.length Y)) (kp 20 (.bool true) (WpOps.nil (thenK_at (on' (Wp.skip (thenK_at (Wp.seq (Wp.block (Wp.seq (Wp.region (by kernel_rfl) (kp 23 (.pointer (some ⟨0, 0, none⟩)) (kp 24 (.pointer (some ⟨0, 0, none⟩)) (kp 25 (.pointer (some ⟨0, 4, none⟩)) (kp 26 (.slice (some ⟨1, 0, none⟩) (List.length Y) (List.length Y)) (kp 27 (.int .i64 i) (kp 28 (.pointer (some (Addr.mk 1 (0 + Int.toNat (↑i : Int) * 2) none))) (kp 29 (.pointer (some (Addr.mk 1 (0 + Int.toNat (↑i : Int) * 2 + 1) none))) (kp 30 (.int .i64 (Prod.fst Y[i])) (kp 31 (.pointer (some ⟨0, 0, none⟩)) (kp 32 (.pointer (some ⟨0, 0, none⟩)) (kp 33 (.pointer (some ⟨0, 2, none⟩)) (kp 34 (.int .i64 T) (kp 35 (.bool true) (WpOps.nil (thenK_at (on' (Wp.text (kp 36 (.slice none 0 0) (kp 37 (.pointer (some ⟨0, 0, none⟩)) (kp 38 (.pointer (some ⟨0, 0, none⟩)) (kp 39 (.pointer (some ⟨0, 4, none⟩)) (kp 40 (.slice (some ⟨1, 0, none⟩) (List.length Y) (List.length Y)) (kp 41 (.int .i64 i) (kp 42 (.pointer (some (Addr.mk 1 (0 + Int.toNat (↑i : Int) * 2) none))) ?_ (hop := fun _ => o_indexAddr (a := (↑i : Int)) (bl := 1) (off := 0) (size := 2) 80 (List.length Y) g1)))))))))))) (hop := fun _ => by_fact d3)))))) (hop := fun _ => o_load1 (1) (0 + Int.toNat (↑i : Int) * 2 + 1) g3))) (hop := fun _ => o_indexAddr (a := (↑i : Int)) (bl := 1) (off := 0) (size := 2) 80 (List.length Y) g1)))))))))))))))) (hop := fun _ => by_fact d2))))))))))
          refine kp 43 (.pointer (some (Addr.mk 1 (0 + Int.toNat (↑i : Int) * 2 + 0) none))) (kp 44 (.string (Prod.snd Y[i])) (md 45 (.slice (some ⟨4, 0, none⟩) 1 1) (Blk.mk 9 true [Value.string (Prod.snd Y[i])]) (md 46 (.slice (some ⟨5, 0, none⟩) 1 1) (Blk.mk 9 true [Value.string (Prod.snd Y[i])]) (kp 3 (.slice (some ⟨5, 0, none⟩) 1 1) (WpOps.nil (blockK_norm (thenK_at (Wp.text (kp 21 (.int .i64 i) (kp 22 (.int .i64 (IntKind.wrap .i64 ((↑i : Int) + 1))) (kp 5 (.int .i64 (IntKind.wrap .i64 ((↑i : Int) + 1))) (WpOps.nil (thenK_at ?_)))))))))))) (hop := fun _ => o_load1 (1) (0 + Int.toNat (↑i : Int) * 2 + 0) g4))
          rw [r1]
          rw [uV_snoc, uB_snoc] at hgo
          exact hgo _ _ (View.ofP [0, 1, 5, 3] [some ⟨78, true, [.int .i64 k, FS 36 L.length 0 (fts L).toArray, .int .i64 T, .int .i64 u, .slice (some ⟨1, 0, none⟩) Y.length Y.length]⟩, some (sR Y), some ⟨9, true, uns ([] ++ [Y[i]])⟩, some (sR F)] _ (by decide) rfl ⟨⟨_, by kernel_rfl, ⟨rfl, rfl⟩⟩, ⟨_, by kernel_rfl, CellsOk.eq rfl (ics_flat _)⟩, ⟨_, by kernel_rfl, CellsOk.eq rfl (uns_flat _)⟩, ⟨_, by kernel_rfl, CellsOk.eq rfl (ics_flat _)⟩, trivial⟩ ⟨⟨by kernel_rfl, rfl⟩, ⟨by kernel_rfl, rfl⟩, ⟨by kernel_rfl, rfl⟩, ⟨by kernel_rfl, rfl⟩, ⟨congrArg (Value.int .i64) wi, rfl⟩, trivial⟩)
      · have oe : uV D = .slice (some ⟨2, 0, none⟩) D.length D.length := if_neg hD
        have ob : uB D = some ⟨9, true, uns D⟩ := if_neg hD
        rw [oe, ob]
        by_cases hF : F = []
        · subst hF
          have q0 : cellsAt (uns D) 0 (D.length * 1) = some (uns D) := uns_all D
          have q1 : ¬ D.length + 1 ≤ D.length := by omega
          have q2 : 1 ≤ 16 ∧ (D.length + 1) * 16 ≤ 140737488355328 ∧ 1 = 1 ∧ D.length + 1 ≤ 9223372036854775807 := by omega
          have r1 : uns D ++ [Value.string Y[i].2] = uns (D ++ [Y[i]]) := (uns_app D [Y[i]]).symm
          have r2 : D.length + 1 = (D ++ [Y[i]]).length := by simp
          show Wp 2 E Try.f27.ntmps _ (layj [(0, .pointer (some ⟨0, 0, none⟩)), (2, .slice none 0 0), (3, .slice (some ⟨2, 0, none⟩) D.length D.length), (4, .slice none 0 0), (5, .int .i64 i)]) (heapO [some ⟨78, true, [.int .i64 k, FS 36 L.length 0 (fts L).toArray, .int .i64 T, .int .i64 u, .slice (some ⟨1, 0, none⟩) Y.length Y.length]⟩, some (sR Y), some ⟨9, true, uns D⟩, none]) _
          unfold sR
          refine Wp.seq (Wp.seq (Wp.text (kp 14 (.int .i64 i) (kp 15 (.pointer (some ⟨0, 0, none⟩)) (kp 16 (.pointer (some ⟨0, 0, none⟩)) (kp 17 (.pointer (some ⟨0, 4, none⟩)) (kp 18 (.slice (some ⟨1, 0, none⟩) (List.length Y) (List.length Y)) (kp 19 (.int .i64 (List.length Y)) (kp 20 (.bool true) (WpOps.nil (thenK_at (on' (Wp.skip (thenK_at (Wp.seq (Wp.block (Wp.seq (Wp.region (by kernel_rfl) (kp 23 (.pointer (some ⟨0, 0, none⟩)) (kp 24 (.pointer (some ⟨0, 0, none⟩)) (kp 25 (.pointer (some ⟨0, 4, none⟩)) (kp 26 (.slice (some ⟨1, 0, none⟩) (List.length Y) (List.length Y)) (kp 27 (.int .i64 i) (kp 28 (.pointer (some (Addr.mk 1 (0 + Int.toNat (↑i : Int) * 2) none))) (kp 29 (.pointer (some (Addr.mk 1 (0 + Int.toNat (↑i : Int) * 2 + 1) none))) (kp 30 (.int .i64 (Prod.fst Y[i])) (kp 31 (.pointer (some ⟨0, 0, none⟩)) (kp 32 (.pointer (some ⟨0, 0, none⟩)) (kp 33 (.pointer (some ⟨0, 2, none⟩)) (kp 34 (.int .i64 T) (kp 35 (.bool true) (WpOps.nil (thenK_at (on' (Wp.text (kp 36 (.slice (some ⟨2, 0, none⟩) (List.length D) (List.length D)) (kp 37 (.pointer (some ⟨0, 0, none⟩)) (kp 38 (.pointer (some ⟨0, 0, none⟩)) (kp 39 (.pointer (some ⟨0, 4, none⟩)) (kp 40 (.slice (some ⟨1, 0, none⟩) (List.length Y) (List.length Y)) (kp 41 (.int .i64 i) ?_)))))))))) (hop := fun _ => by_fact d3)))))) (hop := fun _ => o_load1 (1) (0 + Int.toNat (↑i : Int) * 2 + 1) g3))) (hop := fun _ => o_indexAddr (a := (↑i : Int)) (bl := 1) (off := 0) (size := 2) 80 (List.length Y) g1)))))))))))))))) (hop := fun _ => by_fact d2))))))))))
          refine kp 42 (.pointer (some (Addr.mk 1 (0 + Int.toNat (↑i : Int) * 2) none))) (kp 43 (.pointer (some (Addr.mk 1 (0 + Int.toNat (↑i : Int) * 2 + 0) none))) (kp 44 (.string (Prod.snd Y[i])) (md 45 (.slice (some ⟨4, 0, none⟩) 1 1) (Blk.mk 9 true [Value.string (Prod.snd Y[i])]) ?_) (hop := fun _ => o_load1 (1) (0 + Int.toNat (↑i : Int) * 2 + 0) g4))) (hop := fun _ => o_indexAddr (a := (↑i : Int)) (bl := 1) (off := 0) (size := 2) 80 (List.length Y) g1)
          refine ra 46 (.slice (some ⟨5, 0, none⟩) (List.length D + 1) (List.length D + 1)) (2) (Blk.mk 9 true (uns D ++ [Value.string (Prod.snd Y[i])])) ?_ (hop := fun _ => o_append (e := 9) (2) (0) (List.length D) _ (List.length D) q1 q2 q0)
          refine kp 3 (.slice (some ⟨5, 0, none⟩) (List.length D + 1) (List.length D + 1)) (WpOps.nil (blockK_norm (thenK_at (Wp.text (kp 21 (.int .i64 i) (kp 22 (.int .i64 (IntKind.wrap .i64 ((↑i : Int) + 1))) (kp 5 (.int .i64 (IntKind.wrap .i64 ((↑i : Int) + 1))) (WpOps.nil (thenK_at ?_)))))))))
          rw [r1, r2]
          rw [uV_snoc, uB_snoc] at hgo
          exact hgo _ _ (View.ofP [0, 1, 5, 3] [some ⟨78, true, [.int .i64 k, FS 36 L.length 0 (fts L).toArray, .int .i64 T, .int .i64 u, .slice (some ⟨1, 0, none⟩) Y.length Y.length]⟩, some (sR Y), some ⟨9, true, uns (D ++ [Y[i]])⟩, none] _ (by decide) rfl ⟨⟨_, by kernel_rfl, ⟨rfl, rfl⟩⟩, ⟨_, by kernel_rfl, CellsOk.eq rfl (ics_flat _)⟩, ⟨_, by kernel_rfl, CellsOk.eq rfl (uns_flat _)⟩, trivial⟩ ⟨⟨by kernel_rfl, rfl⟩, ⟨by kernel_rfl, rfl⟩, ⟨by kernel_rfl, rfl⟩, ⟨by kernel_rfl, rfl⟩, ⟨congrArg (Value.int .i64) wi, rfl⟩, trivial⟩)
        · have le : lV F = .slice (some ⟨3, 0, none⟩) F.length F.length := if_neg hF
          have lb : lB F = some (sR F) := if_neg hF
          rw [le, lb] at hgo ⊢
          have q0 : cellsAt (uns D) 0 (D.length * 1) = some (uns D) := uns_all D
          have q1 : ¬ D.length + 1 ≤ D.length := by omega
          have q2 : 1 ≤ 16 ∧ (D.length + 1) * 16 ≤ 140737488355328 ∧ 1 = 1 ∧ D.length + 1 ≤ 9223372036854775807 := by omega
          have r1 : uns D ++ [Value.string Y[i].2] = uns (D ++ [Y[i]]) := (uns_app D [Y[i]]).symm
          have r2 : D.length + 1 = (D ++ [Y[i]]).length := by simp
          show Wp 2 E Try.f27.ntmps _ (layj [(0, .pointer (some ⟨0, 0, none⟩)), (2, .slice none 0 0), (3, .slice (some ⟨2, 0, none⟩) D.length D.length), (4, .slice (some ⟨3, 0, none⟩) F.length F.length), (5, .int .i64 i)]) (heapO [some ⟨78, true, [.int .i64 k, FS 36 L.length 0 (fts L).toArray, .int .i64 T, .int .i64 u, .slice (some ⟨1, 0, none⟩) Y.length Y.length]⟩, some (sR Y), some ⟨9, true, uns D⟩, some (sR F)]) _
          unfold sR
          refine Wp.seq (Wp.seq (Wp.text (kp 14 (.int .i64 i) (kp 15 (.pointer (some ⟨0, 0, none⟩)) (kp 16 (.pointer (some ⟨0, 0, none⟩)) (kp 17 (.pointer (some ⟨0, 4, none⟩)) (kp 18 (.slice (some ⟨1, 0, none⟩) (List.length Y) (List.length Y)) (kp 19 (.int .i64 (List.length Y)) (kp 20 (.bool true) (WpOps.nil (thenK_at (on' (Wp.skip (thenK_at (Wp.seq (Wp.block (Wp.seq (Wp.region (by kernel_rfl) (kp 23 (.pointer (some ⟨0, 0, none⟩)) (kp 24 (.pointer (some ⟨0, 0, none⟩)) (kp 25 (.pointer (some ⟨0, 4, none⟩)) (kp 26 (.slice (some ⟨1, 0, none⟩) (List.length Y) (List.length Y)) (kp 27 (.int .i64 i) (kp 28 (.pointer (some (Addr.mk 1 (0 + Int.toNat (↑i : Int) * 2) none))) (kp 29 (.pointer (some (Addr.mk 1 (0 + Int.toNat (↑i : Int) * 2 + 1) none))) (kp 30 (.int .i64 (Prod.fst Y[i])) (kp 31 (.pointer (some ⟨0, 0, none⟩)) (kp 32 (.pointer (some ⟨0, 0, none⟩)) (kp 33 (.pointer (some ⟨0, 2, none⟩)) (kp 34 (.int .i64 T) (kp 35 (.bool true) (WpOps.nil (thenK_at (on' (Wp.text (kp 36 (.slice (some ⟨2, 0, none⟩) (List.length D) (List.length D)) (kp 37 (.pointer (some ⟨0, 0, none⟩)) (kp 38 (.pointer (some ⟨0, 0, none⟩)) (kp 39 (.pointer (some ⟨0, 4, none⟩)) (kp 40 (.slice (some ⟨1, 0, none⟩) (List.length Y) (List.length Y)) (kp 41 (.int .i64 i) ?_)))))))))) (hop := fun _ => by_fact d3)))))) (hop := fun _ => o_load1 (1) (0 + Int.toNat (↑i : Int) * 2 + 1) g3))) (hop := fun _ => o_indexAddr (a := (↑i : Int)) (bl := 1) (off := 0) (size := 2) 80 (List.length Y) g1)))))))))))))))) (hop := fun _ => by_fact d2))))))))))
          refine kp 42 (.pointer (some (Addr.mk 1 (0 + Int.toNat (↑i : Int) * 2) none))) (kp 43 (.pointer (some (Addr.mk 1 (0 + Int.toNat (↑i : Int) * 2 + 0) none))) (kp 44 (.string (Prod.snd Y[i])) (md 45 (.slice (some ⟨4, 0, none⟩) 1 1) (Blk.mk 9 true [Value.string (Prod.snd Y[i])]) ?_) (hop := fun _ => o_load1 (1) (0 + Int.toNat (↑i : Int) * 2 + 0) g4))) (hop := fun _ => o_indexAddr (a := (↑i : Int)) (bl := 1) (off := 0) (size := 2) 80 (List.length Y) g1)
          refine ra 46 (.slice (some ⟨5, 0, none⟩) (List.length D + 1) (List.length D + 1)) (2) (Blk.mk 9 true (uns D ++ [Value.string (Prod.snd Y[i])])) ?_ (hop := fun _ => o_append (e := 9) (2) (0) (List.length D) _ (List.length D) q1 q2 q0)
          refine kp 3 (.slice (some ⟨5, 0, none⟩) (List.length D + 1) (List.length D + 1)) (WpOps.nil (blockK_norm (thenK_at (Wp.text (kp 21 (.int .i64 i) (kp 22 (.int .i64 (IntKind.wrap .i64 ((↑i : Int) + 1))) (kp 5 (.int .i64 (IntKind.wrap .i64 ((↑i : Int) + 1))) (WpOps.nil (thenK_at ?_)))))))))
          rw [r1, r2]
          rw [uV_snoc, uB_snoc] at hgo
          exact hgo _ _ (View.ofP [0, 1, 5, 3] [some ⟨78, true, [.int .i64 k, FS 36 L.length 0 (fts L).toArray, .int .i64 T, .int .i64 u, .slice (some ⟨1, 0, none⟩) Y.length Y.length]⟩, some (sR Y), some ⟨9, true, uns (D ++ [Y[i]])⟩, some (sR F)] _ (by decide) rfl ⟨⟨_, by kernel_rfl, ⟨rfl, rfl⟩⟩, ⟨_, by kernel_rfl, CellsOk.eq rfl (ics_flat _)⟩, ⟨_, by kernel_rfl, CellsOk.eq rfl (uns_flat _)⟩, ⟨_, by kernel_rfl, CellsOk.eq rfl (ics_flat _)⟩, trivial⟩ ⟨⟨by kernel_rfl, rfl⟩, ⟨by kernel_rfl, rfl⟩, ⟨by kernel_rfl, rfl⟩, ⟨by kernel_rfl, rfl⟩, ⟨congrArg (Value.int .i64) wi, rfl⟩, trivial⟩)
    · obtain ⟨e1, e2⟩ := dueS_no hc hy
      have d3 : decide (Y[i].1 ≤ (T : Int)) = false := decide_eq_false hy
      have hgo : ∀ s' h', View 2 E Try.f27.ntmps s' h' (layj [(0, .pointer (some ⟨0, 0, none⟩)), (2, .slice none 0 0), (3, uV (dueS T (Y.take (i + 1)))), (4, lV (leftS T (Y.take (i + 1)))), (5, .int .i64 (i + 1 : Nat))]) (heapO [some ⟨78, true, [.int .i64 k, FS 36 L.length 0 (fts L).toArray, .int .i64 T, .int .i64 u, .slice (some ⟨1, 0, none⟩) Y.length Y.length]⟩, some (sR Y), uB (dueS T (Y.take (i + 1))), lB (leftS T (Y.take (i + 1)))]) → ∃ g, Y.length - g < Y.length - i ∧ g ≤ Y.length ∧ View 2 E Try.f27.ntmps s' h' (layj [(0, .pointer (some ⟨0, 0, none⟩)), (2, .slice none 0 0), (3, uV (dueS T (Y.take g))), (4, lV (leftS T (Y.take g))), (5, .int .i64 g)]) (heapO [some ⟨78, true, [.int .i64 k, FS 36 L.length 0 (fts L).toArray, .int .i64 T, .int .i64 u, .slice (some ⟨1, 0, none⟩) Y.length Y.length]⟩, some (sR Y), uB (dueS T (Y.take g)), lB (leftS T (Y.take g))]) := fun _ _ v => ⟨i + 1, by omega, by omega, v⟩
      rw [e1, e2] at hgo
      generalize dueS T (Y.take i) = D at *
      generalize leftS T (Y.take i) = F at *
      clear e1 e2
      by_cases hD : D = []
      · subst hD
        by_cases hF : F = []
        · subst hF
          have r1 : ([Value.string Y[i].2, .int .i64 Y[i].1] : List Value) = ics ([] ++ [Y[i]]) := rfl
          show Wp 2 E Try.f27.ntmps _ (layj [(0, .pointer (some ⟨0, 0, none⟩)), (2, .slice none 0 0), (3, .slice none 0 0), (4, .slice none 0 0), (5, .int .i64 i)]) (heapO [some ⟨78, true, [.int .i64 k, FS 36 L.length 0 (fts L).toArray, .int .i64 T, .int .i64 u, .slice (some ⟨1, 0, none⟩) Y.length Y.length]⟩, some (sR Y), none, none]) _
          unfold sR
          refine Wp.seq (Wp.seq (Wp.text (kp 14 (.int .i64 i) (kp 15 (.pointer (some ⟨0, 0, none⟩)) (kp 16 (.pointer (some ⟨0, 0, none⟩)) (kp 17 (.pointer (some ⟨0, 4, none⟩)) (kp 18 (.slice (some ⟨1, 0, none⟩) (List.length Y) (List.length Y)) (kp 19 (.int .i64 (List.length Y)) (kp 20 (.bool true) (WpOps.nil (thenK_at (on' (Wp.skip (thenK_at (Wp.seq (Wp.block (Wp.seq (Wp.region (by kernel_rfl) (kp 23 (.pointer (some ⟨0, 0, none⟩)) (kp 24 (.pointer (some ⟨0, 0, none⟩)) (kp 25 (.pointer (some ⟨0, 4, none⟩)) (kp 26 (.slice (some ⟨1, 0, none⟩) (List.length Y) (List.length Y)) (kp 27 (.int .i64 i) (kp 28 (.pointer (some (Addr.mk 1 (0 + Int.toNat (↑i : Int) * 2) none))) (kp 29 (.pointer (some (Addr.mk 1 (0 + Int.toNat (↑i : Int) * 2 + 1) none))) (kp 30 (.int .i64 (Prod.fst Y[i])) (kp 31 (.pointer (some ⟨0, 0, none⟩)) (kp 32 (.pointer (some ⟨0, 0, none⟩)) (kp 33 (.pointer (some ⟨0, 2, none⟩)) (kp 34 (.int .i64 T) (kp 35 (.bool false) (WpOps.nil (thenK_at (off' (Wp.text (kp 47 (.slice none 0 0) (kp 48 (.pointer (some ⟨0, 0, none⟩)) (kp 49 (.pointer (some ⟨0, 0, none⟩)) (kp 50 (.pointer (some ⟨0, 4, none⟩)) (kp 51 (.slice (some ⟨1, 0, none⟩) (List.length Y) (List.length Y)) (kp 52 (.int .i64 i) (kp 53 (.pointer (some (Addr.mk 1 (0 + Int.toNat (↑i : Int) * 2) none))) ?_ (hop := fun _ => o_indexAddr (a := (↑i : Int)) (bl := 1) (off := 0) (size := 2) 80 (List.length Y) g1)))))))))))) (hop := fun _ => by_fact d3)))))) (hop := fun _ => o_load1 (1) (0 + Int.toNat (↑i : Int) * 2 + 1) g3))) (hop := fun _ => o_indexAddr (a := (↑i : Int)) (bl := 1) (off := 0) (size := 2) 80 (List.length Y) g1)))))))))))))))) (hop := fun _ => by_fact d2))))))))))
          refine kp 54 (.agg #[Value.string (Prod.snd Y[i]), Value.int .i64 (Prod.fst Y[i])]) (md 55 (.slice (some ⟨4, 0, none⟩) 1 1) (Blk.mk 80 true [Value.string (Prod.snd Y[i]), Value.int .i64 (Prod.fst Y[i])]) (md 56 (.slice (some ⟨5, 0, none⟩) 1 1) (Blk.mk 80 true [Value.string (Prod.snd Y[i]), Value.int .i64 (Prod.fst Y[i])]) (kp 4 (.slice (some ⟨5, 0, none⟩) 1 1) (WpOps.nil (blockK_norm (thenK_at (Wp.text (kp 21 (.int .i64 i) (kp 22 (.int .i64 (IntKind.wrap .i64 ((↑i : Int) + 1))) (kp 5 (.int .i64 (IntKind.wrap .i64 ((↑i : Int) + 1))) (WpOps.nil (thenK_at ?_)))))))))))) (hop := fun _ => o_loadA (1) (0 + Int.toNat (↑i : Int) * 2) g2)
          rw [r1]
          rw [lV_snoc, lB_snoc] at hgo
          exact hgo _ _ (View.ofP [0, 1, 2, 5] [some ⟨78, true, [.int .i64 k, FS 36 L.length 0 (fts L).toArray, .int .i64 T, .int .i64 u, .slice (some ⟨1, 0, none⟩) Y.length Y.length]⟩, some (sR Y), none, some (sR ([] ++ [Y[i]]))] _ (by decide) rfl ⟨⟨_, by kernel_rfl, ⟨rfl, rfl⟩⟩, ⟨_, by kernel_rfl, CellsOk.eq rfl (ics_flat _)⟩, ⟨_, by kernel_rfl, CellsOk.eq rfl (ics_flat _)⟩, trivial⟩ ⟨⟨by kernel_rfl, rfl⟩, ⟨by kernel_rfl, rfl⟩, ⟨by kernel_rfl, rfl⟩, ⟨by kernel_rfl, rfl⟩, ⟨congrArg (Value.int .i64) wi, rfl⟩, trivial⟩)
        · have le : lV F = .slice (some ⟨3, 0, none⟩) F.length F.length := if_neg hF
          have lb : lB F = some (sR F) := if_neg hF
          rw [le, lb]
          have q0 : cellsAt (sR F).cells 0 (F.length * 2) = some (ics F) := ics_all F
          have q1 : ¬ F.length + 1 ≤ F.length := by omega
          have q2 : 1 ≤ 24 ∧ (F.length + 1) * 24 ≤ 140737488355328 ∧ 2 = 2 ∧ F.length + 1 ≤ 9223372036854775807 := by omega
          have r1 : ics F ++ [Value.string Y[i].2, .int .i64 Y[i].1] = ics (F ++ [Y[i]]) := (ics_app F [Y[i]]).symm
          have r2 : F.length + 1 = (F ++ [Y[i]]).length := by simp
          show Wp 2 E Try.f27.ntmps _ (layj [(0, .pointer (some ⟨0, 0, none⟩)), (2, .slice none 0 0), (3, .slice none 0 0), (4, .slice (some ⟨3, 0, none⟩) F.length F.length), (5, .int .i64 i)]) (heapO [some ⟨78, true, [.int .i64 k, FS 36 L.length 0 (fts L).toArray, .int .i64 T, .int .i64 u, .slice (some ⟨1, 0, none⟩) Y.length Y.length]⟩, some (sR Y), none, some (sR F)]) _
          unfold sR
          refine Wp.seq (Wp.seq (Wp.text (kp 14 (.int .i64 i) (kp 15 (.pointer (some ⟨0, 0, none⟩)) (kp 16 (.pointer (some ⟨0, 0, none⟩)) (kp 17 (.pointer (some ⟨0, 4, none⟩)) (kp 18 (.slice (some ⟨1, 0, none⟩) (List.length Y) (List.length Y)) (kp 19 (.int .i64 (List.length Y)) (kp 20 (.bool true) (WpOps.nil (thenK_at (on' (Wp.skip (thenK_at (Wp.seq (Wp.block (Wp.seq (Wp.region (by kernel_rfl) (kp 23 (.pointer (some ⟨0, 0, none⟩)) (kp 24 (.pointer (some ⟨0, 0, none⟩)) (kp 25 (.pointer (some ⟨0, 4, none⟩)) (kp 26 (.slice (some ⟨1, 0, none⟩) (List.length Y) (List.length Y)) (kp 27 (.int .i64 i) (kp 28 (.pointer (some (Addr.mk 1 (0 + Int.toNat (↑i : Int) * 2) none))) (kp 29 (.pointer (some (Addr.mk 1 (0 + Int.toNat (↑i : Int) * 2 + 1) none))) (kp 30 (.int .i64 (Prod.fst Y[i])) (kp 31 (.pointer (some ⟨0, 0, none⟩)) (kp 32 (.pointer (some ⟨0, 0, none⟩)) (kp 33 (.pointer (some ⟨0, 2, none⟩)) (kp 34 (.int .i64 T) (kp 35 (.bool false) (WpOps.nil (thenK_at (off' (Wp.text (kp 47 (.slice (some ⟨3, 0, none⟩) (List.length F) (List.length F)) (kp 48 (.pointer (some ⟨0, 0, none⟩)) (kp 49 (.pointer (some ⟨0, 0, none⟩)) (kp 50 (.pointer (some ⟨0, 4, none⟩)) (kp 51 (.slice (some ⟨1, 0, none⟩) (List.length Y) (List.length Y)) (kp 52 (.int .i64 i) ?_)))))))))) (hop := fun _ => by_fact d3)))))) (hop := fun _ => o_load1 (1) (0 + Int.toNat (↑i : Int) * 2 + 1) g3))) (hop := fun _ => o_indexAddr (a := (↑i : Int)) (bl := 1) (off := 0) (size := 2) 80 (List.length Y) g1)))))))))))))))) (hop := fun _ => by_fact d2))))))))))
          refine kp 53 (.pointer (some (Addr.mk 1 (0 + Int.toNat (↑i : Int) * 2) none))) (kp 54 (.agg #[Value.string (Prod.snd Y[i]), Value.int .i64 (Prod.fst Y[i])]) (md 55 (.slice (some ⟨4, 0, none⟩) 1 1) (Blk.mk 80 true [Value.string (Prod.snd Y[i]), Value.int .i64 (Prod.fst Y[i])]) ?_) (hop := fun _ => o_loadA (1) (0 + Int.toNat (↑i : Int) * 2) g2)) (hop := fun _ => o_indexAddr (a := (↑i : Int)) (bl := 1) (off := 0) (size := 2) 80 (List.length Y) g1)
          refine ra 56 (.slice (some ⟨5, 0, none⟩) (List.length F + 1) (List.length F + 1)) (3) (Blk.mk 80 true (ics F ++ [Value.string (Prod.snd Y[i]), Value.int .i64 (Prod.fst Y[i])])) ?_ (hop := fun _ => o_append (e := 80) (3) (0) (List.length F) _ (List.length F) q1 q2 q0)
          refine kp 4 (.slice (some ⟨5, 0, none⟩) (List.length F + 1) (List.length F + 1)) (WpOps.nil (blockK_norm (thenK_at (Wp.text (kp 21 (.int .i64 i) (kp 22 (.int .i64 (IntKind.wrap .i64 ((↑i : Int) + 1))) (kp 5 (.int .i64 (IntKind.wrap .i64 ((↑i : Int) + 1))) (WpOps.nil (thenK_at ?_)))))))))
          rw [r1, r2]
          rw [lV_snoc, lB_snoc] at hgo
          exact hgo _ _ (View.ofP [0, 1, 2, 5] [some ⟨78, true, [.int .i64 k, FS 36 L.length 0 (fts L).toArray, .int .i64 T, .int .i64 u, .slice (some ⟨1, 0, none⟩) Y.length Y.length]⟩, some (sR Y), none, some (sR (F ++ [Y[i]]))] _ (by decide) rfl ⟨⟨_, by kernel_rfl, ⟨rfl, rfl⟩⟩, ⟨_, by kernel_rfl, CellsOk.eq rfl (ics_flat _)⟩, ⟨_, by kernel_rfl, CellsOk.eq rfl (ics_flat _)⟩, trivial⟩ ⟨⟨by kernel_rfl, rfl⟩, ⟨by kernel_rfl, rfl⟩, ⟨by kernel_rfl, rfl⟩, ⟨by kernel_rfl, rfl⟩, ⟨congrArg (Value.int .i64) wi, rfl⟩, trivial⟩)
      · have oe : uV D = .slice (some ⟨2, 0, none⟩) D.length D.length := if_neg hD
        have ob : uB D = some ⟨9, true, uns D⟩ := if_neg hD
        rw [oe, ob] at hgo ⊢
        by_cases hF : F = []
        · subst hF
          have r1 : ([Value.string Y[i].2, .int .i64 Y[i].1] : List Value) = ics ([] ++ [Y[i]]) := rfl
          show Wp 2 E Try.f27.ntmps _ (layj [(0, .pointer (some ⟨0, 0, none⟩)), (2, .slice none 0 0), (3, .slice (some ⟨2, 0, none⟩) D.length D.length), (4, .slice none 0 0), (5, .int .i64 i)]) (heapO [some ⟨78, true, [.int .i64 k, FS 36 L.length 0 (fts L).toArray, .int .i64 T, .int .i64 u, .slice (some ⟨1, 0, none⟩) Y.length Y.length]⟩, some (sR Y), some ⟨9, true, uns D⟩, none]) _
          unfold sR
          refine Wp.seq (Wp.seq (Wp.text (kp 14 (.int .i64 i) (kp 15 (.pointer (some ⟨0, 0, none⟩)) (kp 16 (.pointer (some ⟨0, 0, none⟩)) (kp 17 (.pointer (some ⟨0, 4, none⟩)) (kp 18 (.slice (some ⟨1, 0, none⟩) (List.length Y) (List.length Y)) (kp 19 (.int .i64 (List.length Y)) (kp 20 (.bool true) (WpOps.nil (thenK_at (on' (Wp.skip (thenK_at (Wp.seq (Wp.block (Wp.seq (Wp.region (by kernel_rfl) (kp 23 (.pointer (some ⟨0, 0, none⟩)) (kp 24 (.pointer (some ⟨0, 0, none⟩)) (kp 25 (.pointer (some ⟨0, 4, none⟩)) (kp 26 (.slice (some ⟨1, 0, none⟩) (List.length Y) (List.length Y)) (kp 27 (.int .i64 i) (kp 28 (.pointer (some (Addr.mk 1 (0 + Int.toNat (↑i : Int) * 2) none))) (kp 29 (.pointer (some (Addr.mk 1 (0 + Int.toNat (↑i : Int) * 2 + 1) none))) (kp 30 (.int .i64 (Prod.fst Y[i])) (kp 31 (.pointer (some ⟨0, 0, none⟩)) (kp 32 (.pointer (some ⟨0, 0, none⟩)) (kp 33 (.pointer (some ⟨0, 2, none⟩)) (kp 34 (.int .i64 T) (kp 35 (.bool false) (WpOps.nil (thenK_at (off' (Wp.text (kp 47 (.slice none 0 0) (kp 48 (.pointer (some ⟨0, 0, none⟩)) (kp 49 (.pointer (some ⟨0, 0, none⟩)) (kp 50 (.pointer (some ⟨0, 4, none⟩)) (kp 51 (.slice (some ⟨1, 0, none⟩) (List.length Y) (List.length Y)) (kp 52 (.int .i64 i) (kp 53 (.pointer (some (Addr.mk 1 (0 + Int.toNat (↑i : Int) * 2) none))) ?_ (hop := fun _ => o_indexAddr (a := (↑i : Int)) (bl := 1) (off := 0) (size := 2) 80 (List.length Y) g1)))))))))))) (hop := fun _ => by_fact d3)))))) (hop := fun _ => o_load1 (1) (0 + Int.toNat (↑i : Int) * 2 + 1) g3))) (hop := fun _ => o_indexAddr (a := (↑i : Int)) (bl := 1) (off := 0) (size := 2) 80 (List.length Y) g1)))))))))))))))) (hop := fun _ => by_fact d2))))))))))
          refine kp 54 (.agg #[Value.string (Prod.snd Y[i]), Value.int .i64 (Prod.fst Y[i])]) (md 55 (.slice (some ⟨4, 0, none⟩) 1 1) (Blk.mk 80 true [Value.string (Prod.snd Y[i]), Value.int .i64 (Prod.fst Y[i])]) (md 56 (.slice (some ⟨5, 0, none⟩) 1 1) (Blk.mk 80 true [Value.string (Prod.snd Y[i]), Value.int .i64 (Prod.fst Y[i])]) (kp 4 (.slice (some ⟨5, 0, none⟩) 1 1) (WpOps.nil (blockK_norm (thenK_at (Wp.text (kp 21 (.int .i64 i) (kp 22 (.int .i64 (IntKind.wrap .i64 ((↑i : Int) + 1))) (kp 5 (.int .i64 (IntKind.wrap .i64 ((↑i : Int) + 1))) (WpOps.nil (thenK_at ?_)))))))))))) (hop := fun _ => o_loadA (1) (0 + Int.toNat (↑i : Int) * 2) g2)
          rw [r1]
          rw [lV_snoc, lB_snoc] at hgo
          exact hgo _ _ (View.ofP [0, 1, 2, 5] [some ⟨78, true, [.int .i64 k, FS 36 L.length 0 (fts L).toArray, .int .i64 T, .int .i64 u, .slice (some ⟨1, 0, none⟩) Y.length Y.length]⟩, some (sR Y), some ⟨9, true, uns D⟩, some (sR ([] ++ [Y[i]]))] _ (by decide) rfl ⟨⟨_, by kernel_rfl, ⟨rfl, rfl⟩⟩, ⟨_, by kernel_rfl, CellsOk.eq rfl (ics_flat _)⟩, ⟨_, by kernel_rfl, CellsOk.eq rfl (uns_flat _)⟩, ⟨_, by kernel_rfl, CellsOk.eq rfl (ics_flat _)⟩, trivial⟩ ⟨⟨by kernel_rfl, rfl⟩, ⟨by kernel_rfl, rfl⟩, ⟨by kernel_rfl, rfl⟩, ⟨by kernel_rfl, rfl⟩, ⟨congrArg (Value.int .i64) wi, rfl⟩, trivial⟩)
        · have le : lV F = .slice (some ⟨3, 0, none⟩) F.length F.length := if_neg hF
          have lb : lB F = some (sR F) := if_neg hF
          rw [le, lb]
          have q0 : cellsAt (sR F).cells 0 (F.length * 2) = some (ics F) := ics_all F
          have q1 : ¬ F.length + 1 ≤ F.length := by omega
          have q2 : 1 ≤ 24 ∧ (F.length + 1) * 24 ≤ 140737488355328 ∧ 2 = 2 ∧ F.length + 1 ≤ 9223372036854775807 := by omega
          have r1 : ics F ++ [Value.string Y[i].2, .int .i64 Y[i].1] = ics (F ++ [Y[i]]) := (ics_app F [Y[i]]).symm
          have r2 : F.length + 1 = (F ++ [Y[i]]).length := by simp
          show Wp 2 E Try.f27.ntmps _ (layj [(0, .pointer (some ⟨0, 0, none⟩)), (2, .slice none 0 0), (3, .slice (some ⟨2, 0, none⟩) D.length D.length), (4, .slice (some ⟨3, 0, none⟩) F.length F.length), (5, .int .i64 i)]) (heapO [some ⟨78, true, [.int .i64 k, FS 36 L.length 0 (fts L).toArray, .int .i64 T, .int .i64 u, .slice (some ⟨1, 0, none⟩) Y.length Y.length]⟩, some (sR Y), some ⟨9, true, uns D⟩, some (sR F)]) _
          unfold sR
          refine Wp.seq (Wp.seq (Wp.text (kp 14 (.int .i64 i) (kp 15 (.pointer (some ⟨0, 0, none⟩)) (kp 16 (.pointer (some ⟨0, 0, none⟩)) (kp 17 (.pointer (some ⟨0, 4, none⟩)) (kp 18 (.slice (some ⟨1, 0, none⟩) (List.length Y) (List.length Y)) (kp 19 (.int .i64 (List.length Y)) (kp 20 (.bool true) (WpOps.nil (thenK_at (on' (Wp.skip (thenK_at (Wp.seq (Wp.block (Wp.seq (Wp.region (by kernel_rfl) (kp 23 (.pointer (some ⟨0, 0, none⟩)) (kp 24 (.pointer (some ⟨0, 0, none⟩)) (kp 25 (.pointer (some ⟨0, 4, none⟩)) (kp 26 (.slice (some ⟨1, 0, none⟩) (List.length Y) (List.length Y)) (kp 27 (.int .i64 i) (kp 28 (.pointer (some (Addr.mk 1 (0 + Int.toNat (↑i : Int) * 2) none))) (kp 29 (.pointer (some (Addr.mk 1 (0 + Int.toNat (↑i : Int) * 2 + 1) none))) (kp 30 (.int .i64 (Prod.fst Y[i])) (kp 31 (.pointer (some ⟨0, 0, none⟩)) (kp 32 (.pointer (some ⟨0, 0, none⟩)) (kp 33 (.pointer (some ⟨0, 2, none⟩)) (kp 34 (.int .i64 T) (kp 35 (.bool false) (WpOps.nil (thenK_at (off' (Wp.text (kp 47 (.slice (some ⟨3, 0, none⟩) (List.length F) (List.length F)) (kp 48 (.pointer (some ⟨0, 0, none⟩)) (kp 49 (.pointer (some ⟨0, 0, none⟩)) (kp 50 (.pointer (some ⟨0, 4, none⟩)) (kp 51 (.slice (some ⟨1, 0, none⟩) (List.length Y) (List.length Y)) (kp 52 (.int .i64 i) ?_)))))))))) (hop := fun _ => by_fact d3)))))) (hop := fun _ => o_load1 (1) (0 + Int.toNat (↑i : Int) * 2 + 1) g3))) (hop := fun _ => o_indexAddr (a := (↑i : Int)) (bl := 1) (off := 0) (size := 2) 80 (List.length Y) g1)))))))))))))))) (hop := fun _ => by_fact d2))))))))))
          refine kp 53 (.pointer (some (Addr.mk 1 (0 + Int.toNat (↑i : Int) * 2) none))) (kp 54 (.agg #[Value.string (Prod.snd Y[i]), Value.int .i64 (Prod.fst Y[i])]) (md 55 (.slice (some ⟨4, 0, none⟩) 1 1) (Blk.mk 80 true [Value.string (Prod.snd Y[i]), Value.int .i64 (Prod.fst Y[i])]) ?_) (hop := fun _ => o_loadA (1) (0 + Int.toNat (↑i : Int) * 2) g2)) (hop := fun _ => o_indexAddr (a := (↑i : Int)) (bl := 1) (off := 0) (size := 2) 80 (List.length Y) g1)
          refine ra 56 (.slice (some ⟨5, 0, none⟩) (List.length F + 1) (List.length F + 1)) (3) (Blk.mk 80 true (ics F ++ [Value.string (Prod.snd Y[i]), Value.int .i64 (Prod.fst Y[i])])) ?_ (hop := fun _ => o_append (e := 80) (3) (0) (List.length F) _ (List.length F) q1 q2 q0)
          refine kp 4 (.slice (some ⟨5, 0, none⟩) (List.length F + 1) (List.length F + 1)) (WpOps.nil (blockK_norm (thenK_at (Wp.text (kp 21 (.int .i64 i) (kp 22 (.int .i64 (IntKind.wrap .i64 ((↑i : Int) + 1))) (kp 5 (.int .i64 (IntKind.wrap .i64 ((↑i : Int) + 1))) (WpOps.nil (thenK_at ?_)))))))))
          rw [r1, r2]
          rw [lV_snoc, lB_snoc] at hgo
          exact hgo _ _ (View.ofP [0, 1, 2, 5] [some ⟨78, true, [.int .i64 k, FS 36 L.length 0 (fts L).toArray, .int .i64 T, .int .i64 u, .slice (some ⟨1, 0, none⟩) Y.length Y.length]⟩, some (sR Y), some ⟨9, true, uns D⟩, some (sR (F ++ [Y[i]]))] _ (by decide) rfl ⟨⟨_, by kernel_rfl, ⟨rfl, rfl⟩⟩, ⟨_, by kernel_rfl, CellsOk.eq rfl (ics_flat _)⟩, ⟨_, by kernel_rfl, CellsOk.eq rfl (uns_flat _)⟩, ⟨_, by kernel_rfl, CellsOk.eq rfl (ics_flat _)⟩, trivial⟩ ⟨⟨by kernel_rfl, rfl⟩, ⟨by kernel_rfl, rfl⟩, ⟨by kernel_rfl, rfl⟩, ⟨by kernel_rfl, rfl⟩, ⟨congrArg (Value.int .i64) wi, rfl⟩, trivial⟩)
  · have d2 : decide ((i : Int) < (Y.length : Int)) = false := decide_eq_false (by omega)
    obtain rfl : i = Y.length := by omega
    rw [List.take_length]
    generalize dueS T Y = D
    generalize leftS T Y = F
    by_cases hD : D = []
    · subst hD
      by_cases hF : F = []
      · subst hF
        rw [show tickT k L t u [] = [some (sB k L (t + 1 : Nat) u (.slice none 0 0)), none] from rfl, hT]
        show Wp 2 E Try.f27.ntmps _ (layj [(0, .pointer (some ⟨0, 0, none⟩)), (2, .slice none 0 0), (3, .slice none 0 0), (4, .slice none 0 0), (5, .int .i64 Y.length)]) (heapO [some ⟨78, true, [.int .i64 k, FS 36 L.length 0 (fts L).toArray, .int .i64 T, .int .i64 u, .slice (some ⟨1, 0, none⟩) Y.length Y.length]⟩, some (sR Y), none, none]) _
        refine Wp.seq (Wp.seq (Wp.text (kp 14 (.int .i64 (List.length Y)) (kp 15 (.pointer (some ⟨0, 0, none⟩)) (kp 16 (.pointer (some ⟨0, 0, none⟩)) (kp 17 (.pointer (some ⟨0, 4, none⟩)) (kp 18 (.slice (some ⟨1, 0, none⟩) (List.length Y) (List.length Y)) (kp 19 (.int .i64 (List.length Y)) (kp 20 (.bool false) (WpOps.nil (thenK_at (off' (Wp.exit (thenK_exit (thenK_exit (blockK_hit (thenK_at (Wp.seq (Wp.text (kp 57 (.pointer (some ⟨0, 0, none⟩)) (kp 58 (.slice none 0 0) (kp 59 (.pointer (some ⟨0, 0, none⟩)) (kp 60 (.pointer (some ⟨0, 4, none⟩)) (ld (.tuple #[]) (0) (Blk.mk 78 true [Value.int .i64 k, Value.iface 36 (Value.iface (List.length L) (Value.iface 0 (Value.agg (List.toArray (fts L))))), Value.int .i64 T, Value.int .i64 u, Value.slice none 0 0]) (WpOps.nil (thenK_at (Wp.seq (Wp.text (kp 61 (.slice none 0 0) (kp 2 (.slice none 0 0) (WpOps.nil (thenK_at (Wp.ret (endK_retn [Value.slice none 0 0] (Value.slice none 0 0) (by kernel_rfl) (by kernel_rfl) ?_))))))))))))))))))))))))) (hop := fun _ => by_fact d2))))))))))
        exact ⟨[0, 1], by decide, rfl, BlksP.told ⟨⟨_, by kernel_rfl, ⟨rfl, rfl⟩⟩, trivial⟩, .w (.un rfl rfl)⟩
      · have le : lV F = .slice (some ⟨3, 0, none⟩) F.length F.length := if_neg hF
        have lb : lB F = some (sR F) := if_neg hF
        have hT2 : tickT k L t u F = [some (sB k L (t + 1 : Nat) u (wS 2 F)), none, some (sR F)] := if_neg hF
        rw [le, lb, hT2, hT]
        show Wp 2 E Try.f27.ntmps _ (layj [(0, .pointer (some ⟨0, 0, none⟩)), (2, .slice none 0 0), (3, .slice none 0 0), (4, .slice (some ⟨3, 0, none⟩) F.length F.length), (5, .int .i64 Y.length)]) (heapO [some ⟨78, true, [.int .i64 k, FS 36 L.length 0 (fts L).toArray, .int .i64 T, .int .i64 u, .slice (some ⟨1, 0, none⟩) Y.length Y.length]⟩, some (sR Y), none, some (sR F)]) _
        refine Wp.seq (Wp.seq (Wp.text (kp 14 (.int .i64 (List.length Y)) (kp 15 (.pointer (some ⟨0, 0, none⟩)) (kp 16 (.pointer (some ⟨0, 0, none⟩)) (kp 17 (.pointer (some ⟨0, 4, none⟩)) (kp 18 (.slice (some ⟨1, 0, none⟩) (List.length Y) (List.length Y)) (kp 19 (.int .i64 (List.length Y)) (kp 20 (.bool false) (WpOps.nil (thenK_at (off' (Wp.exit (thenK_exit (thenK_exit (blockK_hit (thenK_at (Wp.seq (Wp.text (kp 57 (.pointer (some ⟨0, 0, none⟩)) (kp 58 (.slice (some ⟨3, 0, none⟩) (List.length F) (List.length F)) (kp 59 (.pointer (some ⟨0, 0, none⟩)) (kp 60 (.pointer (some ⟨0, 4, none⟩)) (ld (.tuple #[]) (0) (Blk.mk 78 true [Value.int .i64 k, Value.iface 36 (Value.iface (List.length L) (Value.iface 0 (Value.agg (List.toArray (fts L))))), Value.int .i64 T, Value.int .i64 u, Value.slice (some ⟨3, 0, none⟩) (List.length F) (List.length F)]) (WpOps.nil (thenK_at (Wp.seq (Wp.text (kp 61 (.slice none 0 0) (kp 2 (.slice none 0 0) (WpOps.nil (thenK_at (Wp.ret (endK_retn [Value.slice none 0 0] (Value.slice none 0 0) (by kernel_rfl) (by kernel_rfl) ?_))))))))))))))))))))))))) (hop := fun _ => by_fact d2))))))))))
        exact ⟨[0, 1, 3], by decide, rfl, BlksP.told ⟨⟨_, by kernel_rfl, ⟨rfl, rfl⟩⟩, ⟨_, by kernel_rfl, CellsOk.eq rfl (ics_flat _)⟩, trivial⟩, .w (.un rfl rfl)⟩
    · have oe : uV D = .slice (some ⟨2, 0, none⟩) D.length D.length := if_neg hD
      have ob : uB D = some ⟨9, true, uns D⟩ := if_neg hD
      have hu : outU D = FS 9 D.length 0 (uns D).toArray := if_neg hD
      have hfu := uns_flat D
      rw [oe, ob]
      by_cases hF : F = []
      · subst hF
        rw [show tickT k L t u [] = [some (sB k L (t + 1 : Nat) u (.slice none 0 0)), none] from rfl, hT]
        show Wp 2 E Try.f27.ntmps _ (layj [(0, .pointer (some ⟨0, 0, none⟩)), (2, .slice none 0 0), (3, .slice (some ⟨2, 0, none⟩) D.length D.length), (4, .slice none 0 0), (5, .int .i64 Y.length)]) (heapO [some ⟨78, true, [.int .i64 k, FS 36 L.length 0 (fts L).toArray, .int .i64 T, .int .i64 u, .slice (some ⟨1, 0, none⟩) Y.length Y.length]⟩, some (sR Y), some ⟨9, true, uns D⟩, none]) _
        refine Wp.seq (Wp.seq (Wp.text (kp 14 (.int .i64 (List.length Y)) (kp 15 (.pointer (some ⟨0, 0, none⟩)) (kp 16 (.pointer (some ⟨0, 0, none⟩)) (kp 17 (.pointer (some ⟨0, 4, none⟩)) (kp 18 (.slice (some ⟨1, 0, none⟩) (List.length Y) (List.length Y)) (kp 19 (.int .i64 (List.length Y)) (kp 20 (.bool false) (WpOps.nil (thenK_at (off' (Wp.exit (thenK_exit (thenK_exit (blockK_hit (thenK_at (Wp.seq (Wp.text (kp 57 (.pointer (some ⟨0, 0, none⟩)) (kp 58 (.slice none 0 0) (kp 59 (.pointer (some ⟨0, 0, none⟩)) (kp 60 (.pointer (some ⟨0, 4, none⟩)) (ld (.tuple #[]) (0) (Blk.mk 78 true [Value.int .i64 k, Value.iface 36 (Value.iface (List.length L) (Value.iface 0 (Value.agg (List.toArray (fts L))))), Value.int .i64 T, Value.int .i64 u, Value.slice none 0 0]) (WpOps.nil (thenK_at (Wp.seq (Wp.text (kp 61 (.slice (some ⟨2, 0, none⟩) (List.length D) (List.length D)) (kp 2 (.slice (some ⟨2, 0, none⟩) (List.length D) (List.length D)) (WpOps.nil (thenK_at (Wp.ret (endK_retn [Value.slice (some (Addr.mk 2 0 none)) (List.length D) (List.length D)] (Value.slice (some (Addr.mk 2 0 none)) (List.length D) (List.length D)) (by kernel_rfl) (by kernel_rfl) ?_))))))))))))))))))))))))) (hop := fun _ => by_fact d2))))))))))
        exact ⟨[0, 1], by decide, rfl, BlksP.told ⟨⟨_, by kernel_rfl, ⟨rfl, rfl⟩⟩, trivial⟩, .w (.ice _ (ice_uns _ (by kernel_rfl)) (.c (.inl hu.symm)))⟩
      · have le : lV F = .slice (some ⟨3, 0, none⟩) F.length F.length := if_neg hF
        have lb : lB F = some (sR F) := if_neg hF
        have hT2 : tickT k L t u F = [some (sB k L (t + 1 : Nat) u (wS 2 F)), none, some (sR F)] := if_neg hF
        rw [le, lb, hT2, hT]
        show Wp 2 E Try.f27.ntmps _ (layj [(0, .pointer (some ⟨0, 0, none⟩)), (2, .slice none 0 0), (3, .slice (some ⟨2, 0, none⟩) D.length D.length), (4, .slice (some ⟨3, 0, none⟩) F.length F.length), (5, .int .i64 Y.length)]) (heapO [some ⟨78, true, [.int .i64 k, FS 36 L.length 0 (fts L).toArray, .int .i64 T, .int .i64 u, .slice (some ⟨1, 0, none⟩) Y.length Y.length]⟩, some (sR Y), some ⟨9, true, uns D⟩, some (sR F)]) _
        refine Wp.seq (Wp.seq (Wp.text (kp 14 (.int .i64 (List.length Y)) (kp 15 (.pointer (some ⟨0, 0, none⟩)) (kp 16 (.pointer (some ⟨0, 0, none⟩)) (kp 17 (.pointer (some ⟨0, 4, none⟩)) (kp 18 (.slice (some ⟨1, 0, none⟩) (List.length Y) (List.length Y)) (kp 19 (.int .i64 (List.length Y)) (kp 20 (.bool false) (WpOps.nil (thenK_at (off' (Wp.exit (thenK_exit (thenK_exit (blockK_hit (thenK_at (Wp.seq (Wp.text (kp 57 (.pointer (some ⟨0, 0, none⟩)) (kp 58 (.slice (some ⟨3, 0, none⟩) (List.length F) (List.length F)) (kp 59 (.pointer (some ⟨0, 0, none⟩)) (kp 60 (.pointer (some ⟨0, 4, none⟩)) (ld (.tuple #[]) (0) (Blk.mk 78 true [Value.int .i64 k, Value.iface 36 (Value.iface (List.length L) (Value.iface 0 (Value.agg (List.toArray (fts L))))), Value.int .i64 T, Value.int .i64 u, Value.slice (some ⟨3, 0, none⟩) (List.length F) (List.length F)]) (WpOps.nil (thenK_at (Wp.seq (Wp.text (kp 61 (.slice (some ⟨2, 0, none⟩) (List.length D) (List.length D)) (kp 2 (.slice (some ⟨2, 0, none⟩) (List.length D) (List.length D)) (WpOps.nil (thenK_at (Wp.ret (endK_retn [Value.slice (some (Addr.mk 2 0 none)) (List.length D) (List.length D)] (Value.slice (some (Addr.mk 2 0 none)) (List.length D) (List.length D)) (by kernel_rfl) (by kernel_rfl) ?_))))))))))))))))))))))))) (hop := fun _ => by_fact d2))))))))))
        exact ⟨[0, 1, 3], by decide, rfl, BlksP.told ⟨⟨_, by kernel_rfl, ⟨rfl, rfl⟩⟩, ⟨_, by kernel_rfl, CellsOk.eq rfl (ics_flat _)⟩, trivial⟩, .w (.ice _ (ice_uns _ (by kernel_rfl)) (.c (.inl hu.symm)))⟩
open Go.Fw Go.RowKit

theorem sp_ne {x : Int} (h : -1 ≤ x) : (x != -1) = decide (x ≥ 0) := by
  by_cases e : x = -1
  · subst e
    rfl
  · rw [bne_iff_ne.2 e]
    exact (decide_eq_true (by omega)).symm
theorem put25ln (k : Int) (L : List Ft) (t u : Nat) (b : ByteArray) (hb : b.size ≤ 4000) (hu : u ≤ 1000000) (hlo : (fate L u).lo = true) :
    SCall E 25 [.pointer (some ⟨0, 0, none⟩), .string b] (heapO [some (sB k L t u (.slice none 0 0))]) (.int .i64 0) (heapO [some (sB k L t (u + 1 : Nat) (.slice none 0 0))]) := by
  refine SCall.enterO g25 rfl (of_decide_eq_true (by kernel_rfl)) rfl rfl (Nat.le_refl _) ?_
  unfold sB
  have d1 : decide ((b.size : Int) > 4000) = false := decide_eq_false (by omega)
  refine Wp.seq (Wp.text (kp 4 (.int .i64 0) (WpOps.nil (thenK_at (Wp.seq (Wp.seq (Wp.text (kp 9 (.string b) (kp 10 (.int .i64 (ByteArray.size b)) (kp 11 (.bool false) (WpOps.nil (thenK_at (off' (Wp.skip (thenK_at (Wp.seq (Wp.text (kp 12 (.agg #[Value.bool false, Value.int .i64 0, Value.int .i64 0, Value.int .i64 (-1)]) (md 5 (.pointer (some ⟨1, 0, none⟩)) (Blk.mk 36 true [Value.bool false, Value.int .i64 0, Value.int .i64 0, Value.int .i64 0]) (ld (.tuple #[]) (1) (Blk.mk 36 true [Value.bool false, Value.int .i64 0, Value.int .i64 0, Value.int .i64 (-1)]) (WpOps.nil (thenK_at (Wp.seq (Wp.seq (Wp.region (by kernel_rfl) (kp 13 (.pointer (some ⟨0, 0, none⟩)) (kp 14 (.pointer (some ⟨0, 0, none⟩)) (kp 15 (.pointer (some ⟨0, 3, none⟩)) (kp 16 (.int .i64 u) (kp 17 (.pointer (some ⟨0, 0, none⟩)) (kp 18 (.pointer (some ⟨0, 0, none⟩)) (kp 19 (.pointer (some ⟨0, 1, none⟩)) (kp 20 (.iface 36 (Value.iface (List.length L) (Value.iface 0 (Value.agg (List.toArray (fts L)))))) (kp 21 (.int .i64 (List.length L)) (kp 22 (.bool (decide ((↑u : Int) < (↑(List.length L) : Int)))) (WpOps.nil (thenK_at ?_))))))))))))))))))))))))))) (hop := fun _ => by_fact d1)))))))))))
  refine Wp.mergeH [(0, .pointer (some ⟨0, 0, none⟩)), (1, .string b), (4, .int .i64 0), (5, .pointer (some ⟨1, 0, none⟩))] (heapO [some ⟨78, true, [.int .i64 k, FS 36 L.length 0 (fts L).toArray, .int .i64 t, .int .i64 u, .slice none 0 0]⟩, some ⟨36, true, [.bool (fate L u).lo, .int .i64 (fate L u).co, .int .i64 (fate L u).de, .int .i64 (fate L u).sp]⟩]) ?_ ?_
  · refine Wp.split (decide ((↑u : Int) < (↑(List.length L) : Int))) (by kernel_rfl) (fun hc => ?_) (fun hc => ?_)
    · have hul : u < L.length := by
        have := of_decide_eq_true hc
        omega
      have g1 : 0 ≤ (u : Int) ∧ (u : Int) < L.length := by omega
      have hs : cellsAt (fts L).toArray.toList ((u : Int).toNat * 4) 4 = some (fce L[u]) := fts_cells L u hul
      have hf : fate L u = L[u] := by unfold fate; rw [List.getD_eq_getElem?_getD, List.getElem?_eq_getElem hul]; rfl
      unfold fce at hs
      rw [← hf] at hs
      refine Wp.region (by kernel_rfl) (kp 23 (.pointer (some ⟨0, 0, none⟩)) (kp 24 (.pointer (some ⟨0, 0, none⟩)) (kp 25 (.pointer (some ⟨0, 1, none⟩)) (kp 26 (.iface 36 (Value.iface (List.length L) (Value.iface 0 (Value.agg (List.toArray (fts L)))))) (kp 27 (.pointer (some ⟨0, 0, none⟩)) (kp 28 (.pointer (some ⟨0, 0, none⟩)) (kp 29 (.pointer (some ⟨0, 3, none⟩)) (kp 30 (.int .i64 u) (kp 31 (.iface 36 (Value.iface (Int.toNat (↑u : Int) * 4) (Value.agg (List.toArray (fts L))))) (kp 32 (.agg #[Value.bool (Ft.lo (fate L u)), Value.int .i64 (Ft.co (fate L u)), Value.int .i64 (Ft.de (fate L u)), Value.int .i64 (Ft.sp (fate L u))]) (ld (.tuple #[]) (1) (Blk.mk 36 true [Value.bool (Ft.lo (fate L u)), Value.int .i64 (Ft.co (fate L u)), Value.int .i64 (Ft.de (fate L u)), Value.int .i64 (Ft.sp (fate L u))]) (WpOps.nil ?_)) (hop := fun _ => o_loadIA (Int.toNat (↑u : Int) * 4) hs)) (hop := fun _ => o_indexI (e := 36) (size := 4) (a := (↑u : Int)) g1))))))))))
      exact ⟨rfl, View.ofP [0, 1] _ _ (by decide) rfl ⟨⟨_, by kernel_rfl, ⟨rfl, rfl⟩⟩, ⟨_, by kernel_rfl, ⟨rfl, rfl⟩⟩, trivial⟩ ⟨⟨by kernel_rfl, rfl⟩, ⟨by kernel_rfl, rfl⟩, ⟨by kernel_rfl, rfl⟩, ⟨by kernel_rfl, rfl⟩, trivial⟩⟩
    · have hul : L.length ≤ u := by
        have := of_decide_eq_false hc
        omega
      have hf : fate L u = ⟨false, 0, 0, -1⟩ := by unfold fate; rw [List.getD_eq_getElem?_getD, List.getElem?_eq_none hul]; rfl
      refine Wp.skip ?_
      rw [hf]
      exact ⟨rfl, View.ofP [0, 1] _ _ (by decide) rfl ⟨⟨_, by kernel_rfl, ⟨rfl, rfl⟩⟩, ⟨_, by kernel_rfl, ⟨rfl, rfl⟩⟩, trivial⟩ ⟨⟨by kernel_rfl, rfl⟩, ⟨by kernel_rfl, rfl⟩, ⟨by kernel_rfl, rfl⟩, ⟨by kernel_rfl, rfl⟩, trivial⟩⟩
  have wu : IntKind.i64.wrap ((u : Int) + 1) = ((u + 1 : Nat) : Int) := by rw [wr _ (by omega) (by omega)]; omega
  refine Wp.seq (Wp.text (kp 33 (.pointer (some ⟨0, 0, none⟩)) (kp 34 (.pointer (some ⟨0, 0, none⟩)) (kp 35 (.pointer (some ⟨0, 0, none⟩)) (kp 36 (.pointer (some ⟨0, 3, none⟩)) (kp 37 (.int .i64 u) (kp 38 (.int .i64 (IntKind.wrap .i64 ((↑u : Int) + 1))) (kp 39 (.pointer (some ⟨0, 0, none⟩)) (kp 40 (.pointer (some ⟨0, 3, none⟩)) (ld (.tuple #[]) (0) (Blk.mk 78 true [Value.int .i64 k, Value.iface 36 (Value.iface (List.length L) (Value.iface 0 (Value.agg (List.toArray (fts L))))), Value.int .i64 t, Value.int .i64 (IntKind.wrap .i64 ((↑u : Int) + 1)), Value.slice none 0 0]) (WpOps.nil (thenK_at (Wp.seq (Wp.seq (Wp.text (kp 41 (.pointer (some ⟨1, 0, none⟩)) (kp 42 (.bool true) (WpOps.nil (thenK_at (on' (Wp.seq (Wp.text (kp 4 (.int .i64 0) (WpOps.nil (thenK_at (Wp.ret (thenK_ret (endK_retn [Value.int .i64 0] (Value.int .i64 0) (by kernel_rfl) (by kernel_rfl) ?_))))))))))) (hop := fun _ => by_fact hlo))))))))))))))))))
  rw [wu]
  exact ⟨[0], by decide, rfl, BlksP.told ⟨⟨_, by kernel_rfl, ⟨rfl, rfl⟩⟩, trivial⟩, .w (.un rfl rfl)⟩
theorem put25lo (k : Int) (L : List Ft) (t u : Nat) (Y : List Tr) (b : ByteArray) (hb : b.size ≤ 4000) (hu : u ≤ 1000000) (hlo : (fate L u).lo = true) :
    SCall E 25 [.pointer (some ⟨0, 0, none⟩), .string b] (heapO [some (sB k L t u (wS 1 Y)), some (sR Y)]) (.int .i64 0) (heapO [some (sB k L t (u + 1 : Nat) (wS 1 Y)), some (sR Y)]) := by
  refine SCall.enterO g25 rfl (of_decide_eq_true (by kernel_rfl)) rfl rfl (Nat.le_refl _) ?_
  unfold sB wS
  have d1 : decide ((b.size : Int) > 4000) = false := decide_eq_false (by omega)
  have hfl : (sR Y).cells.all flat = true := ics_flat _
  refine Wp.seq (Wp.text (kp 4 (.int .i64 0) (WpOps.nil (thenK_at (Wp.seq (Wp.seq (Wp.text (kp 9 (.string b) (kp 10 (.int .i64 (ByteArray.size b)) (kp 11 (.bool false) (WpOps.nil (thenK_at (off' (Wp.skip (thenK_at (Wp.seq (Wp.text (kp 12 (.agg #[Value.bool false, Value.int .i64 0, Value.int .i64 0, Value.int .i64 (-1)]) (md 5 (.pointer (some ⟨2, 0, none⟩)) (Blk.mk 36 true [Value.bool false, Value.int .i64 0, Value.int .i64 0, Value.int .i64 0]) (ld (.tuple #[]) (2) (Blk.mk 36 true [Value.bool false, Value.int .i64 0, Value.int .i64 0, Value.int .i64 (-1)]) (WpOps.nil (thenK_at (Wp.seq (Wp.seq (Wp.region (by kernel_rfl) (kp 13 (.pointer (some ⟨0, 0, none⟩)) (kp 14 (.pointer (some ⟨0, 0, none⟩)) (kp 15 (.pointer (some ⟨0, 3, none⟩)) (kp 16 (.int .i64 u) (kp 17 (.pointer (some ⟨0, 0, none⟩)) (kp 18 (.pointer (some ⟨0, 0, none⟩)) (kp 19 (.pointer (some ⟨0, 1, none⟩)) (kp 20 (.iface 36 (Value.iface (List.length L) (Value.iface 0 (Value.agg (List.toArray (fts L)))))) (kp 21 (.int .i64 (List.length L)) (kp 22 (.bool (decide ((↑u : Int) < (↑(List.length L) : Int)))) (WpOps.nil (thenK_at ?_))))))))))))))))))))))))))) (hop := fun _ => by_fact d1)))))))))))
  refine Wp.mergeH [(0, .pointer (some ⟨0, 0, none⟩)), (1, .string b), (4, .int .i64 0), (5, .pointer (some ⟨2, 0, none⟩))] (heapO [some ⟨78, true, [.int .i64 k, FS 36 L.length 0 (fts L).toArray, .int .i64 t, .int .i64 u, .slice (some ⟨1, 0, none⟩) Y.length Y.length]⟩, some (sR Y), some ⟨36, true, [.bool (fate L u).lo, .int .i64 (fate L u).co, .int .i64 (fate L u).de, .int .i64 (fate L u).sp]⟩]) ?_ ?_
  · refine Wp.split (decide ((↑u : Int) < (↑(List.length L) : Int))) (by kernel_rfl) (fun hc => ?_) (fun hc => ?_)
    · have hul : u < L.length := by
        have := of_decide_eq_true hc
        omega
      have g1 : 0 ≤ (u : Int) ∧ (u : Int) < L.length := by omega
      have hs : cellsAt (fts L).toArray.toList ((u : Int).toNat * 4) 4 = some (fce L[u]) := fts_cells L u hul
      have hf : fate L u = L[u] := by unfold fate; rw [List.getD_eq_getElem?_getD, List.getElem?_eq_getElem hul]; rfl
      unfold fce at hs
      rw [← hf] at hs
      refine Wp.region (by kernel_rfl) (kp 23 (.pointer (some ⟨0, 0, none⟩)) (kp 24 (.pointer (some ⟨0, 0, none⟩)) (kp 25 (.pointer (some ⟨0, 1, none⟩)) (kp 26 (.iface 36 (Value.iface (List.length L) (Value.iface 0 (Value.agg (List.toArray (fts L)))))) (kp 27 (.pointer (some ⟨0, 0, none⟩)) (kp 28 (.pointer (some ⟨0, 0, none⟩)) (kp 29 (.pointer (some ⟨0, 3, none⟩)) (kp 30 (.int .i64 u) (kp 31 (.iface 36 (Value.iface (Int.toNat (↑u : Int) * 4) (Value.agg (List.toArray (fts L))))) (kp 32 (.agg #[Value.bool (Ft.lo (fate L u)), Value.int .i64 (Ft.co (fate L u)), Value.int .i64 (Ft.de (fate L u)), Value.int .i64 (Ft.sp (fate L u))]) (ld (.tuple #[]) (2) (Blk.mk 36 true [Value.bool (Ft.lo (fate L u)), Value.int .i64 (Ft.co (fate L u)), Value.int .i64 (Ft.de (fate L u)), Value.int .i64 (Ft.sp (fate L u))]) (WpOps.nil ?_)) (hop := fun _ => o_loadIA (Int.toNat (↑u : Int) * 4) hs)) (hop := fun _ => o_indexI (e := 36) (size := 4) (a := (↑u : Int)) g1))))))))))
      exact ⟨rfl, View.ofP [0, 1, 2] _ _ (by decide) rfl ⟨⟨_, by kernel_rfl, ⟨rfl, rfl⟩⟩, ⟨_, by kernel_rfl, CellsOk.eq rfl (ics_flat _)⟩, ⟨_, by kernel_rfl, ⟨rfl, rfl⟩⟩, trivial⟩ ⟨⟨by kernel_rfl, rfl⟩, ⟨by kernel_rfl, rfl⟩, ⟨by kernel_rfl, rfl⟩, ⟨by kernel_rfl, rfl⟩, trivial⟩⟩
    · have hul : L.length ≤ u := by
        have := of_decide_eq_false hc
        omega
      have hf : fate L u = ⟨false, 0, 0, -1⟩ := by unfold fate; rw [List.getD_eq_getElem?_getD, List.getElem?_eq_none hul]; rfl
      refine Wp.skip ?_
      rw [hf]
      exact ⟨rfl, View.ofP [0, 1, 2] _ _ (by decide) rfl ⟨⟨_, by kernel_rfl, ⟨rfl, rfl⟩⟩, ⟨_, by kernel_rfl, CellsOk.eq rfl (ics_flat _)⟩, ⟨_, by kernel_rfl, ⟨rfl, rfl⟩⟩, trivial⟩ ⟨⟨by kernel_rfl, rfl⟩, ⟨by kernel_rfl, rfl⟩, ⟨by kernel_rfl, rfl⟩, ⟨by kernel_rfl, rfl⟩, trivial⟩⟩
  have wu : IntKind.i64.wrap ((u : Int) + 1) = ((u + 1 : Nat) : Int) := by rw [wr _ (by omega) (by omega)]; omega
  refine Wp.seq (Wp.text (kp 33 (.pointer (some ⟨0, 0, none⟩)) (kp 34 (.pointer (some ⟨0, 0, none⟩)) (kp 35 (.pointer (some ⟨0, 0, none⟩)) (kp 36 (.pointer (some ⟨0, 3, none⟩)) (kp 37 (.int .i64 u) (kp 38 (.int .i64 (IntKind.wrap .i64 ((↑u : Int) + 1))) (kp 39 (.pointer (some ⟨0, 0, none⟩)) (kp 40 (.pointer (some ⟨0, 3, none⟩)) (ld (.tuple #[]) (0) (Blk.mk 78 true [Value.int .i64 k, Value.iface 36 (Value.iface (List.length L) (Value.iface 0 (Value.agg (List.toArray (fts L))))), Value.int .i64 t, Value.int .i64 (IntKind.wrap .i64 ((↑u : Int) + 1)), Value.slice (some ⟨1, 0, none⟩) (List.length Y) (List.length Y)]) (WpOps.nil (thenK_at (Wp.seq (Wp.seq (Wp.text (kp 41 (.pointer (some ⟨2, 0, none⟩)) (kp 42 (.bool true) (WpOps.nil (thenK_at (on' (Wp.seq (Wp.text (kp 4 (.int .i64 0) (WpOps.nil (thenK_at (Wp.ret (thenK_ret (endK_retn [Value.int .i64 0] (Value.int .i64 0) (by kernel_rfl) (by kernel_rfl) ?_))))))))))) (hop := fun _ => by_fact hlo))))))))))))))))))
  rw [wu]
  exact ⟨[0, 1], by decide, rfl, BlksP.told ⟨⟨_, by kernel_rfl, ⟨rfl, rfl⟩⟩, ⟨_, by kernel_rfl, CellsOk.eq rfl (ics_flat _)⟩, trivial⟩, .w (.un rfl rfl)⟩
theorem put25n (k : Int) (L : List Ft) (t u : Nat) (b : ByteArray) (hb : b.size ≤ 4000) (hk : k = 0 ∨ k = 1) (hok : L.all Ft.ok = true) (ht : t ≤ 1000000) (hu : u ≤ 1000000) (hlo : (fate L u).lo = false) :
    SCall E 25 [.pointer (some ⟨0, 0, none⟩), .string b] (heapO [some (sB k L t u (.slice none 0 0))]) (.int .i64 0) (heapO [some (sB k L t (u + 1 : Nat) (wS 1 (nxt k L t u ([] : List Tr) b))), some (sR (nxt k L t u ([] : List Tr) b))]) := by
  refine SCall.enterO g25 rfl (of_decide_eq_true (by kernel_rfl)) rfl rfl (Nat.le_succ _) ?_
  unfold sB
  have d1 : decide ((b.size : Int) > 4000) = false := decide_eq_false (by omega)
  refine Wp.seq (Wp.text (kp 4 (.int .i64 0) (WpOps.nil (thenK_at (Wp.seq (Wp.seq (Wp.text (kp 9 (.string b) (kp 10 (.int .i64 (ByteArray.size b)) (kp 11 (.bool false) (WpOps.nil (thenK_at (off' (Wp.skip (thenK_at (Wp.seq (Wp.text (kp 12 (.agg #[Value.bool false, Value.int .i64 0, Value.int .i64 0, Value.int .i64 (-1)]) (md 5 (.pointer (some ⟨1, 0, none⟩)) (Blk.mk 36 true [Value.bool false, Value.int .i64 0, Value.int .i64 0, Value.int .i64 0]) (ld (.tuple #[]) (1) (Blk.mk 36 true [Value.bool false, Value.int .i64 0, Value.int .i64 0, Value.int .i64 (-1)]) (WpOps.nil (thenK_at (Wp.seq (Wp.seq (Wp.region (by kernel_rfl) (kp 13 (.pointer (some ⟨0, 0, none⟩)) (kp 14 (.pointer (some ⟨0, 0, none⟩)) (kp 15 (.pointer (some ⟨0, 3, none⟩)) (kp 16 (.int .i64 u) (kp 17 (.pointer (some ⟨0, 0, none⟩)) (kp 18 (.pointer (some ⟨0, 0, none⟩)) (kp 19 (.pointer (some ⟨0, 1, none⟩)) (kp 20 (.iface 36 (Value.iface (List.length L) (Value.iface 0 (Value.agg (List.toArray (fts L)))))) (kp 21 (.int .i64 (List.length L)) (kp 22 (.bool (decide ((↑u : Int) < (↑(List.length L) : Int)))) (WpOps.nil (thenK_at ?_))))))))))))))))))))))))))) (hop := fun _ => by_fact d1)))))))))))
  refine Wp.mergeH [(0, .pointer (some ⟨0, 0, none⟩)), (1, .string b), (4, .int .i64 0), (5, .pointer (some ⟨1, 0, none⟩))] (heapO [some ⟨78, true, [.int .i64 k, FS 36 L.length 0 (fts L).toArray, .int .i64 t, .int .i64 u, .slice none 0 0]⟩, some ⟨36, true, [.bool (fate L u).lo, .int .i64 (fate L u).co, .int .i64 (fate L u).de, .int .i64 (fate L u).sp]⟩]) ?_ ?_
  · refine Wp.split (decide ((↑u : Int) < (↑(List.length L) : Int))) (by kernel_rfl) (fun hc => ?_) (fun hc => ?_)
    · have hul : u < L.length := by
        have := of_decide_eq_true hc
        omega
      have g1 : 0 ≤ (u : Int) ∧ (u : Int) < L.length := by omega
      have hs : cellsAt (fts L).toArray.toList ((u : Int).toNat * 4) 4 = some (fce L[u]) := fts_cells L u hul
      have hf : fate L u = L[u] := by unfold fate; rw [List.getD_eq_getElem?_getD, List.getElem?_eq_getElem hul]; rfl
      unfold fce at hs
      rw [← hf] at hs
      refine Wp.region (by kernel_rfl) (kp 23 (.pointer (some ⟨0, 0, none⟩)) (kp 24 (.pointer (some ⟨0, 0, none⟩)) (kp 25 (.pointer (some ⟨0, 1, none⟩)) (kp 26 (.iface 36 (Value.iface (List.length L) (Value.iface 0 (Value.agg (List.toArray (fts L)))))) (kp 27 (.pointer (some ⟨0, 0, none⟩)) (kp 28 (.pointer (some ⟨0, 0, none⟩)) (kp 29 (.pointer (some ⟨0, 3, none⟩)) (kp 30 (.int .i64 u) (kp 31 (.iface 36 (Value.iface (Int.toNat (↑u : Int) * 4) (Value.agg (List.toArray (fts L))))) (kp 32 (.agg #[Value.bool (Ft.lo (fate L u)), Value.int .i64 (Ft.co (fate L u)), Value.int .i64 (Ft.de (fate L u)), Value.int .i64 (Ft.sp (fate L u))]) (ld (.tuple #[]) (1) (Blk.mk 36 true [Value.bool (Ft.lo (fate L u)), Value.int .i64 (Ft.co (fate L u)), Value.int .i64 (Ft.de (fate L u)), Value.int .i64 (Ft.sp (fate L u))]) (WpOps.nil ?_)) (hop := fun _ => o_loadIA (Int.toNat (↑u : Int) * 4) hs)) (hop := fun _ => o_indexI (e := 36) (size := 4) (a := (↑u : Int)) g1))))))))))
      exact ⟨rfl, View.ofP [0, 1] _ _ (by decide) rfl ⟨⟨_, by kernel_rfl, ⟨rfl, rfl⟩⟩, ⟨_, by kernel_rfl, ⟨rfl, rfl⟩⟩, trivial⟩ ⟨⟨by kernel_rfl, rfl⟩, ⟨by kernel_rfl, rfl⟩, ⟨by kernel_rfl, rfl⟩, ⟨by kernel_rfl, rfl⟩, trivial⟩⟩
    · have hul : L.length ≤ u := by
        have := of_decide_eq_false hc
        omega
      have hf : fate L u = ⟨false, 0, 0, -1⟩ := by unfold fate; rw [List.getD_eq_getElem?_getD, List.getElem?_eq_none hul]; rfl
      refine Wp.skip ?_
      rw [hf]
      exact ⟨rfl, View.ofP [0, 1] _ _ (by decide) rfl ⟨⟨_, by kernel_rfl, ⟨rfl, rfl⟩⟩, ⟨_, by kernel_rfl, ⟨rfl, rfl⟩⟩, trivial⟩ ⟨⟨by kernel_rfl, rfl⟩, ⟨by kernel_rfl, rfl⟩, ⟨by kernel_rfl, rfl⟩, ⟨by kernel_rfl, rfl⟩, trivial⟩⟩
  have wu : IntKind.i64.wrap ((u : Int) + 1) = ((u + 1 : Nat) : Int) := by rw [wr _ (by omega) (by omega)]; omega
  refine Wp.seq (Wp.text (kp 33 (.pointer (some ⟨0, 0, none⟩)) (kp 34 (.pointer (some ⟨0, 0, none⟩)) (kp 35 (.pointer (some ⟨0, 0, none⟩)) (kp 36 (.pointer (some ⟨0, 3, none⟩)) (kp 37 (.int .i64 u) (kp 38 (.int .i64 (IntKind.wrap .i64 ((↑u : Int) + 1))) (kp 39 (.pointer (some ⟨0, 0, none⟩)) (kp 40 (.pointer (some ⟨0, 3, none⟩)) (ld (.tuple #[]) (0) (Blk.mk 78 true [Value.int .i64 k, Value.iface 36 (Value.iface (List.length L) (Value.iface 0 (Value.agg (List.toArray (fts L))))), Value.int .i64 t, Value.int .i64 (IntKind.wrap .i64 ((↑u : Int) + 1)), Value.slice none 0 0]) (WpOps.nil (thenK_at (Wp.seq (Wp.seq (Wp.text (kp 41 (.pointer (some ⟨1, 0, none⟩)) (kp 42 (.bool false) (WpOps.nil (thenK_at (off' (Wp.skip (thenK_at (Wp.seq (Wp.seq (Wp.text (kp 43 (.pointer (some ⟨1, 3, none⟩)) (kp 44 (.int .i64 (Ft.sp (fate L u))) (kp 45 (.bool (Ft.sp (fate L u) != -1)) (WpOps.nil (thenK_at ?_))))))))))))) (hop := fun _ => by_fact hlo))))))))))))))))))
  rw [wu]
  obtain ⟨o1, o2, o3, o4, o5⟩ := fate_ok hok u
  refine Wp.mergeH [(0, .pointer (some ⟨0, 0, none⟩)), (1, .string (unit' (fate L u) b)), (4, .int .i64 0), (5, .pointer (some ⟨1, 0, none⟩))] (heapO [some ⟨78, true, [.int .i64 k, FS 36 L.length 0 (fts L).toArray, .int .i64 t, .int .i64 (u + 1 : Nat), .slice none 0 0]⟩, some ⟨36, true, [.bool (fate L u).lo, .int .i64 (fate L u).co, .int .i64 (fate L u).de, .int .i64 (fate L u).sp]⟩]) ?_ ?_
  · rw [sp_ne o5]
    refine Wp.split (decide (Ft.sp (fate L u) ≥ 0)) (by kernel_rfl) (fun hs => ?_) (fun hs => ?_)
    · have hu' : unit' (fate L u) b = spu b (fate L u).sp := if_pos (of_decide_eq_true hs)
      have c1 := spoil17 b (fate L u).sp (by omega)
      rw [← hu'] at c1
      refine Wp.text (kp 47 (.string b) (kp 48 (.pointer (some ⟨1, 3, none⟩)) (kp 49 (.int .i64 (Ft.sp (fate L u))) (fr 50 17 [Value.string b, Value.int .i64 (Ft.sp (fate L u))] (WpFun.of (c1) (kp 46 (.tuple #[Value.string (unit' (fate L u) b), Value.int .i64 0]) (kp 51 (.string (unit' (fate L u) b)) (kp 52 (.int .i64 0) (kp 1 (.string (unit' (fate L u) b)) (WpOps.nil ?_))))))))))
      exact ⟨rfl, View.ofP [0, 1] _ _ (by decide) rfl ⟨⟨_, by kernel_rfl, ⟨rfl, rfl⟩⟩, ⟨_, by kernel_rfl, ⟨rfl, rfl⟩⟩, trivial⟩ ⟨⟨by kernel_rfl, rfl⟩, ⟨by kernel_rfl, rfl⟩, ⟨by kernel_rfl, rfl⟩, ⟨by kernel_rfl, rfl⟩, trivial⟩⟩
    · have hu' : unit' (fate L u) b = b := if_neg (of_decide_eq_false hs)
      rw [hu']
      refine Wp.skip ?_
      exact ⟨rfl, View.ofP [0, 1] _ _ (by decide) rfl ⟨⟨_, by kernel_rfl, ⟨rfl, rfl⟩⟩, ⟨_, by kernel_rfl, ⟨rfl, rfl⟩⟩, trivial⟩ ⟨⟨by kernel_rfl, rfl⟩, ⟨by kernel_rfl, rfl⟩, ⟨by kernel_rfl, rfl⟩, ⟨by kernel_rfl, rfl⟩, trivial⟩⟩
  have wa : IntKind.i64.wrap (IntKind.i64.wrap ((t : Int) + 1) + (fate L u).de) = (t : Int) + 1 + (fate L u).de := by rw [wr ((t : Int) + 1) (by omega) (by omega), wr _ (by omega) (by omega)]
  refine Wp.seq (Wp.region (by kernel_rfl) (kp 53 (.pointer (some ⟨0, 0, none⟩)) (kp 54 (.pointer (some ⟨0, 0, none⟩)) (kp 55 (.pointer (some ⟨0, 2, none⟩)) (kp 56 (.int .i64 t) (kp 57 (.int .i64 (IntKind.wrap .i64 ((↑t : Int) + 1))) (kp 58 (.pointer (some ⟨1, 2, none⟩)) (kp 59 (.int .i64 (Ft.de (fate L u))) (kp 60 (.int .i64 (IntKind.wrap .i64 (IntKind.wrap .i64 ((↑t : Int) + 1) + Ft.de (fate L u)))) (kp 6 (.int .i64 (IntKind.wrap .i64 (IntKind.wrap .i64 ((↑t : Int) + 1) + Ft.de (fate L u)))) (WpOps.nil (thenK_at ?_))))))))))))
  rw [wa]
  refine Wp.seq ?_
  refine Wp.mergeH [(0, .pointer (some ⟨0, 0, none⟩)), (1, .string (unit' (fate L u) b)), (4, .int .i64 0), (5, .pointer (some ⟨1, 0, none⟩)), (6, .int .i64 (atW k (fate L u) t ([] : List Tr)))] (heapO [some ⟨78, true, [.int .i64 k, FS 36 L.length 0 (fts L).toArray, .int .i64 t, .int .i64 (u + 1 : Nat), .slice none 0 0]⟩, some ⟨36, true, [.bool (fate L u).lo, .int .i64 (fate L u).co, .int .i64 (fate L u).de, .int .i64 (fate L u).sp]⟩]) ?_ ?_
  · rcases hk with rfl | rfl
    · have e0 : ((0 : Int) == 0) = true := rfl
      have e1 : atW 0 (fate L u) t [] = (t : Int) + 1 + (fate L u).de := rfl
      rw [e1]
      refine Wp.seq (Wp.text (kp 7 (.int .i64 0) (WpOps.nil (thenK_at (Wp.block ?_)))))
      refine Wp.unroll (WpL.step ?_)
      refine Wp.seq (Wp.seq (Wp.text (kp 61 (.pointer (some ⟨0, 0, none⟩)) (kp 62 (.pointer (some ⟨0, 0, none⟩)) (kp 63 (.pointer (some ⟨0, 0, none⟩)) (kp 64 (.int .i64 0) (kp 65 (.bool true) (kp 66 (.bool true) (kp 67 (.int .i64 0) (kp 68 (.pointer (some ⟨0, 0, none⟩)) (kp 69 (.pointer (some ⟨0, 0, none⟩)) (kp 70 (.pointer (some ⟨0, 4, none⟩)) (kp 71 (.slice none 0 0) (kp 72 (.int .i64 (↑0 : Int)) (kp 73 (.bool false) (kp 74 (.bool false) (WpOps.nil (thenK_at (off' (Wp.exit (thenK_exit (thenK_exit (blockK_hit ?_)))))))))))))))))))))))
      exact ⟨rfl, View.ofP [0, 1] _ _ (by decide) rfl ⟨⟨_, by kernel_rfl, ⟨rfl, rfl⟩⟩, ⟨_, by kernel_rfl, ⟨rfl, rfl⟩⟩, trivial⟩ ⟨⟨by kernel_rfl, rfl⟩, ⟨by kernel_rfl, rfl⟩, ⟨by kernel_rfl, rfl⟩, ⟨by kernel_rfl, rfl⟩, ⟨by kernel_rfl, rfl⟩, trivial⟩⟩
    · have e0 : ((1 : Int) == 0) = false := rfl
      have e1 : atW 1 (fate L u) t [] = (t : Int) + 1 + (fate L u).de := rfl
      rw [e1]
      refine Wp.seq (Wp.text (kp 7 (.int .i64 0) (WpOps.nil (thenK_at (Wp.block ?_)))))
      refine Wp.unroll (WpL.step ?_)
      refine Wp.seq (Wp.seq (Wp.text (kp 61 (.pointer (some ⟨0, 0, none⟩)) (kp 62 (.pointer (some ⟨0, 0, none⟩)) (kp 63 (.pointer (some ⟨0, 0, none⟩)) (kp 64 (.int .i64 1) (kp 65 (.bool false) (kp 66 (.bool false) (um 67 (um 68 (um 69 (um 70 (um 71 (um 72 (um 73 (kp 74 (.bool false) (WpOps.nil (thenK_at (off' (Wp.exit (thenK_exit (thenK_exit (blockK_hit ?_)))))))))))))))))))))))
      exact ⟨rfl, View.ofP [0, 1] _ _ (by decide) rfl ⟨⟨_, by kernel_rfl, ⟨rfl, rfl⟩⟩, ⟨_, by kernel_rfl, ⟨rfl, rfl⟩⟩, trivial⟩ ⟨⟨by kernel_rfl, rfl⟩, ⟨by kernel_rfl, rfl⟩, ⟨by kernel_rfl, rfl⟩, ⟨by kernel_rfl, rfl⟩, ⟨by kernel_rfl, rfl⟩, trivial⟩⟩
  obtain ⟨C, hC⟩ : ∃ C : Nat, (fate L u).co = C := ⟨(fate L u).co.toNat, by omega⟩
  have hC3 : C ≤ 3 := by omega
  obtain ⟨a1, a2⟩ := atW_in k (fate L u) t ([] : List Tr) ht o3 o4 (fun _ h => by cases h)
  unfold nxt
  rw [hC, Int.toNat_natCast]
  generalize atW k (fate L u) t ([] : List Tr) = a at a1 a2 ⊢
  generalize unit' (fate L u) b = v
  have r1 : [((IntKind.i64.wrap (a + IntKind.i64.wrap (0 * k)) : Int), v)] = Yl a k v [] 1 := by
    rw [show Yl a k v [] 1 = [(a + 0 * k, v)] from rfl, wr (0 * k) (by omega) (by omega), wr _ (by omega) (by omega)]
  have c1 := lent46n k L t (u + 1 : Nat) v (IntKind.i64.wrap (a + IntKind.i64.wrap (0 * k)))
  rw [r1] at c1
  unfold sB wS at c1
  have q3 : decide ((0 : Int) ≤ ((C : Nat) : Int)) = true := decide_eq_true (by omega)
  refine Wp.seq (Wp.seq (Wp.text (kp 8 (.int .i64 0) (WpOps.nil (thenK_at (Wp.block ?_))))))
  refine Wp.unroll (WpL.step ?_)
  refine Wp.seq (Wp.seq (Wp.text (kp 87 (.int .i64 0) (kp 88 (.pointer (some ⟨1, 1, none⟩)) (kp 89 (.int .i64 C) (kp 90 (.bool (decide (0 ≤ (↑C : Int)))) (WpOps.nil (thenK_at (on' (Wp.skip (thenK_at (Wp.seq (Wp.block (Wp.text (kp 93 (.pointer (some ⟨0, 0, none⟩)) (kp 94 (.string v) (kp 95 (.int .i64 a) (kp 96 (.int .i64 0) (kp 97 (.pointer (some ⟨0, 0, none⟩)) (kp 98 (.pointer (some ⟨0, 0, none⟩)) (kp 99 (.pointer (some ⟨0, 0, none⟩)) (kp 100 (.int .i64 k) (kp 101 (.int .i64 (IntKind.wrap .i64 (0 * k))) (kp 102 (.int .i64 (IntKind.wrap .i64 (a + IntKind.wrap .i64 (0 * k)))) (cl 103 46 [Value.pointer (some ⟨0, 0, none⟩), Value.string v, Value.int .i64 (IntKind.wrap .i64 (a + IntKind.wrap .i64 (0 * k)))] ?_)))))))))))))))))))))))))
  refine WpCall.lentP [0] c1 (by decide) ⟨⟨_, by kernel_rfl, ⟨rfl, rfl⟩⟩, trivial⟩ rfl (.tuple #[]) [some ⟨78, true, [.int .i64 k, FS 36 L.length 0 (fts L).toArray, .int .i64 t, .int .i64 (u + 1 : Nat), .slice (some ⟨2, 0, none⟩) (Yl a k v [] 1).length (Yl a k v [] 1).length]⟩, some (sR (Yl a k v [] 1))] (.cons rfl (.cons (congrArg some (unB_flat (ics_flat _))) .nil)) rfl _ rfl ?_
  refine WpOps.nil (blockK_norm (thenK_at (Wp.text (kp 91 (.int .i64 0) (kp 92 (.int .i64 (IntKind.wrap .i64 (0 + 1))) (kp 8 (.int .i64 (IntKind.wrap .i64 (0 + 1))) (WpOps.nil (thenK_at ?_))))))))
  refine WpL.loop (G := Nat) (fun i => layj [(0, .pointer (some ⟨0, 0, none⟩)), (1, .string v), (4, .int .i64 0), (5, .pointer (some ⟨1, 0, none⟩)), (6, .int .i64 a), (8, .int .i64 i)]) (fun i => heapO [some ⟨78, true, [.int .i64 k, FS 36 L.length 0 (fts L).toArray, .int .i64 t, .int .i64 (u + 1 : Nat), .slice (some ⟨2, 0, none⟩) (Yl a k v ([] : List Tr) i).length (Yl a k v ([] : List Tr) i).length]⟩, some ⟨36, true, [.bool (fate L u).lo, .int .i64 (C : Nat), .int .i64 (fate L u).de, .int .i64 (fate L u).sp]⟩, some (sR (Yl a k v ([] : List Tr) i))]) (fun i => C + 1 - i) (fun i => 1 ≤ i ∧ i ≤ C + 1) 1
    (View.ofP [0, 1, 2] _ _ (by decide) rfl ⟨⟨_, by kernel_rfl, ⟨rfl, rfl⟩⟩, ⟨_, by kernel_rfl, ⟨rfl, rfl⟩⟩, ⟨_, by kernel_rfl, CellsOk.eq rfl (ics_flat _)⟩, trivial⟩ ⟨⟨by kernel_rfl, rfl⟩, ⟨by kernel_rfl, rfl⟩, ⟨by kernel_rfl, rfl⟩, ⟨by kernel_rfl, rfl⟩, ⟨by kernel_rfl, rfl⟩, ⟨by kernel_rfl, rfl⟩, trivial⟩) ⟨Nat.le_refl _, by omega⟩ ?_
  clear r1 q3 c1
  rintro i ⟨hi1, hi2⟩
  have hYl := Yl_len a k v ([] : List Tr) i
  by_cases hc : i < C + 1
  · have q3 : decide ((i : Int) ≤ ((C : Nat) : Int)) = true := decide_eq_true (by omega)
    have wi : IntKind.i64.wrap ((i : Int) + 1) = ((i + 1 : Nat) : Int) := by rw [wr _ (by omega) (by omega)]; omega
    by_cases hl : i < 400 - ([] : List Tr).length
    · have wk : IntKind.i64.wrap ((i : Int) * k) = (i : Int) * k ∧ 0 ≤ (i : Int) * k ∧ (i : Int) * k ≤ 4 := by
        have : 0 ≤ (i : Int) * k ∧ (i : Int) * k ≤ 4 := by rcases hk with rfl | rfl <;> omega
        exact ⟨wr _ (by omega) (by omega), this⟩
      have c1 := lent46o k L t (u + 1 : Nat) (Yl a k v ([] : List Tr) i) v (IntKind.i64.wrap (a + IntKind.i64.wrap ((i : Int) * k))) (by omega)
      have r1 : (Yl a k v ([] : List Tr) i) ++ [((IntKind.i64.wrap (a + IntKind.i64.wrap ((i : Int) * k)) : Int), v)] = Yl a k v ([] : List Tr) (i + 1) := by
        rw [Yl_snoc a k v ([] : List Tr) hl, wk.1, wr _ (by omega) (by omega)]
      rw [r1] at c1
      unfold sB wS at c1
      refine Wp.seq (Wp.seq (Wp.text (kp 87 (.int .i64 i) (kp 88 (.pointer (some ⟨1, 1, none⟩)) (kp 89 (.int .i64 C) (kp 90 (.bool true) (WpOps.nil (thenK_at (on' (Wp.skip (thenK_at (Wp.seq (Wp.block (Wp.text (kp 93 (.pointer (some ⟨0, 0, none⟩)) (kp 94 (.string v) (kp 95 (.int .i64 a) (kp 96 (.int .i64 i) (kp 97 (.pointer (some ⟨0, 0, none⟩)) (kp 98 (.pointer (some ⟨0, 0, none⟩)) (kp 99 (.pointer (some ⟨0, 0, none⟩)) (kp 100 (.int .i64 k) (kp 101 (.int .i64 (IntKind.wrap .i64 ((↑i : Int) * k))) (kp 102 (.int .i64 (IntKind.wrap .i64 (a + IntKind.wrap .i64 ((↑i : Int) * k)))) (cl 103 46 [Value.pointer (some ⟨0, 0, none⟩), Value.string v, Value.int .i64 (IntKind.wrap .i64 (a + IntKind.wrap .i64 ((↑i : Int) * k)))] ?_))))))))))))))))))) (hop := fun _ => by_fact q3)))))))
      refine WpCall.lentP [0, 2] c1 (by decide) ⟨⟨_, by kernel_rfl, ⟨rfl, rfl⟩⟩, ⟨_, by kernel_rfl, CellsOk.eq rfl (ics_flat _)⟩, trivial⟩ rfl (.tuple #[]) [some ⟨78, true, [.int .i64 k, FS 36 L.length 0 (fts L).toArray, .int .i64 t, .int .i64 (u + 1 : Nat), .slice (some ⟨3, 0, none⟩) (Yl a k v ([] : List Tr) (i + 1)).length (Yl a k v ([] : List Tr) (i + 1)).length]⟩, none, some (sR (Yl a k v ([] : List Tr) (i + 1)))] (.cons rfl (.cons rfl (.cons (congrArg some (unB_flat (ics_flat _))) .nil))) rfl _ rfl ?_
      refine WpOps.nil (blockK_norm (thenK_at (Wp.text (kp 91 (.int .i64 i) (kp 92 (.int .i64 (IntKind.wrap .i64 ((↑i : Int) + 1))) (kp 8 (.int .i64 (IntKind.wrap .i64 ((↑i : Int) + 1))) (WpOps.nil (thenK_at ?_))))))))
      exact ⟨i + 1, by omega, ⟨by omega, by omega⟩, View.ofP [0, 1, 3] _ _ (by decide) rfl ⟨⟨_, by kernel_rfl, ⟨rfl, rfl⟩⟩, ⟨_, by kernel_rfl, ⟨rfl, rfl⟩⟩, ⟨_, by kernel_rfl, CellsOk.eq rfl (ics_flat _)⟩, trivial⟩ ⟨⟨by kernel_rfl, rfl⟩, ⟨by kernel_rfl, rfl⟩, ⟨by kernel_rfl, rfl⟩, ⟨by kernel_rfl, rfl⟩, ⟨by kernel_rfl, rfl⟩, ⟨congrArg (Value.int .i64) wi, rfl⟩, trivial⟩⟩
    · have c1 := lent46f k L t (u + 1 : Nat) (Yl a k v ([] : List Tr) i) v (IntKind.i64.wrap (a + IntKind.i64.wrap ((i : Int) * k))) (by omega)
      have r3 : (Yl a k v ([] : List Tr) i) = Yl a k v ([] : List Tr) (i + 1) := Yl_stay a k v ([] : List Tr) (by omega)
      rw [r3] at c1 ⊢
      unfold sB wS at c1
      refine Wp.seq (Wp.seq (Wp.text (kp 87 (.int .i64 i) (kp 88 (.pointer (some ⟨1, 1, none⟩)) (kp 89 (.int .i64 C) (kp 90 (.bool true) (WpOps.nil (thenK_at (on' (Wp.skip (thenK_at (Wp.seq (Wp.block (Wp.text (kp 93 (.pointer (some ⟨0, 0, none⟩)) (kp 94 (.string v) (kp 95 (.int .i64 a) (kp 96 (.int .i64 i) (kp 97 (.pointer (some ⟨0, 0, none⟩)) (kp 98 (.pointer (some ⟨0, 0, none⟩)) (kp 99 (.pointer (some ⟨0, 0, none⟩)) (kp 100 (.int .i64 k) (kp 101 (.int .i64 (IntKind.wrap .i64 ((↑i : Int) * k))) (kp 102 (.int .i64 (IntKind.wrap .i64 (a + IntKind.wrap .i64 ((↑i : Int) * k)))) (cl 103 46 [Value.pointer (some ⟨0, 0, none⟩), Value.string v, Value.int .i64 (IntKind.wrap .i64 (a + IntKind.wrap .i64 ((↑i : Int) * k)))] ?_))))))))))))))))))) (hop := fun _ => by_fact q3)))))))
      refine WpCall.lentP [0, 2] c1 (by decide) ⟨⟨_, by kernel_rfl, ⟨rfl, rfl⟩⟩, ⟨_, by kernel_rfl, CellsOk.eq rfl (ics_flat _)⟩, trivial⟩ rfl (.tuple #[]) [some ⟨78, true, [.int .i64 k, FS 36 L.length 0 (fts L).toArray, .int .i64 t, .int .i64 (u + 1 : Nat), .slice (some ⟨2, 0, none⟩) (Yl a k v ([] : List Tr) (i + 1)).length (Yl a k v ([] : List Tr) (i + 1)).length]⟩, some (sR (Yl a k v ([] : List Tr) (i + 1)))] (.cons rfl (.cons (congrArg some (unB_flat (ics_flat _))) .nil)) rfl _ rfl ?_
      refine WpOps.nil (blockK_norm (thenK_at (Wp.text (kp 91 (.int .i64 i) (kp 92 (.int .i64 (IntKind.wrap .i64 ((↑i : Int) + 1))) (kp 8 (.int .i64 (IntKind.wrap .i64 ((↑i : Int) + 1))) (WpOps.nil (thenK_at ?_))))))))
      exact ⟨i + 1, by omega, ⟨by omega, by omega⟩, View.ofP [0, 1, 2] _ _ (by decide) rfl ⟨⟨_, by kernel_rfl, ⟨rfl, rfl⟩⟩, ⟨_, by kernel_rfl, ⟨rfl, rfl⟩⟩, ⟨_, by kernel_rfl, CellsOk.eq rfl (ics_flat _)⟩, trivial⟩ ⟨⟨by kernel_rfl, rfl⟩, ⟨by kernel_rfl, rfl⟩, ⟨by kernel_rfl, rfl⟩, ⟨by kernel_rfl, rfl⟩, ⟨by kernel_rfl, rfl⟩, ⟨congrArg (Value.int .i64) wi, rfl⟩, trivial⟩⟩
  · have q3 : decide ((i : Int) ≤ ((C : Nat) : Int)) = false := decide_eq_false (by omega)
    obtain rfl : i = C + 1 := by omega
    refine Wp.seq (Wp.seq (Wp.text (kp 87 (.int .i64 (↑(C + 1) : Int)) (kp 88 (.pointer (some ⟨1, 1, none⟩)) (kp 89 (.int .i64 C) (kp 90 (.bool false) (WpOps.nil (thenK_at (off' (Wp.exit (thenK_exit (thenK_exit (blockK_hit (thenK_at (Wp.seq (Wp.text (kp 4 (.int .i64 0) (WpOps.nil (thenK_at (Wp.ret (endK_retn [Value.int .i64 0] (Value.int .i64 0) (by kernel_rfl) (by kernel_rfl) ?_))))))))))))))) (hop := fun _ => by_fact q3)))))))
    exact ⟨[0, 2], by decide, rfl, BlksP.told ⟨⟨_, by kernel_rfl, ⟨rfl, rfl⟩⟩, ⟨_, by kernel_rfl, CellsOk.eq rfl (ics_flat _)⟩, trivial⟩, .w (.un rfl rfl)⟩
theorem put25o (k : Int) (L : List Ft) (t u : Nat) (Y : List Tr) (b : ByteArray) (hb : b.size ≤ 4000) (hk : k = 0 ∨ k = 1) (hok : L.all Ft.ok = true) (ht : t ≤ 1000000) (hu : u ≤ 1000000) (hY : Y.length < 400) (hin : InT Y) (hlo : (fate L u).lo = false) :
    SCall E 25 [.pointer (some ⟨0, 0, none⟩), .string b] (heapO [some (sB k L t u (wS 1 Y)), some (sR Y)]) (.int .i64 0) (heapO [some (sB k L t (u + 1 : Nat) (wS 2 (nxt k L t u Y b))), none, some (sR (nxt k L t u Y b))]) := by
  refine SCall.enterO g25 rfl (of_decide_eq_true (by kernel_rfl)) rfl rfl (Nat.le_succ _) ?_
  unfold sB wS
  have d1 : decide ((b.size : Int) > 4000) = false := decide_eq_false (by omega)
  have hfl : (sR Y).cells.all flat = true := ics_flat _
  refine Wp.seq (Wp.text (kp 4 (.int .i64 0) (WpOps.nil (thenK_at (Wp.seq (Wp.seq (Wp.text (kp 9 (.string b) (kp 10 (.int .i64 (ByteArray.size b)) (kp 11 (.bool false) (WpOps.nil (thenK_at (off' (Wp.skip (thenK_at (Wp.seq (Wp.text (kp 12 (.agg #[Value.bool false, Value.int .i64 0, Value.int .i64 0, Value.int .i64 (-1)]) (md 5 (.pointer (some ⟨2, 0, none⟩)) (Blk.mk 36 true [Value.bool false, Value.int .i64 0, Value.int .i64 0, Value.int .i64 0]) (ld (.tuple #[]) (2) (Blk.mk 36 true [Value.bool false, Value.int .i64 0, Value.int .i64 0, Value.int .i64 (-1)]) (WpOps.nil (thenK_at (Wp.seq (Wp.seq (Wp.region (by kernel_rfl) (kp 13 (.pointer (some ⟨0, 0, none⟩)) (kp 14 (.pointer (some ⟨0, 0, none⟩)) (kp 15 (.pointer (some ⟨0, 3, none⟩)) (kp 16 (.int .i64 u) (kp 17 (.pointer (some ⟨0, 0, none⟩)) (kp 18 (.pointer (some ⟨0, 0, none⟩)) (kp 19 (.pointer (some ⟨0, 1, none⟩)) (kp 20 (.iface 36 (Value.iface (List.length L) (Value.iface 0 (Value.agg (List.toArray (fts L)))))) (kp 21 (.int .i64 (List.length L)) (kp 22 (.bool (decide ((↑u : Int) < (↑(List.length L) : Int)))) (WpOps.nil (thenK_at ?_))))))))))))))))))))))))))) (hop := fun _ => by_fact d1)))))))))))
  refine Wp.mergeH [(0, .pointer (some ⟨0, 0, none⟩)), (1, .string b), (4, .int .i64 0), (5, .pointer (some ⟨2, 0, none⟩))] (heapO [some ⟨78, true, [.int .i64 k, FS 36 L.length 0 (fts L).toArray, .int .i64 t, .int .i64 u, .slice (some ⟨1, 0, none⟩) Y.length Y.length]⟩, some (sR Y), some ⟨36, true, [.bool (fate L u).lo, .int .i64 (fate L u).co, .int .i64 (fate L u).de, .int .i64 (fate L u).sp]⟩]) ?_ ?_
  · refine Wp.split (decide ((↑u : Int) < (↑(List.length L) : Int))) (by kernel_rfl) (fun hc => ?_) (fun hc => ?_)
    · have hul : u < L.length := by
        have := of_decide_eq_true hc
        omega
      have g1 : 0 ≤ (u : Int) ∧ (u : Int) < L.length := by omega
      have hs : cellsAt (fts L).toArray.toList ((u : Int).toNat * 4) 4 = some (fce L[u]) := fts_cells L u hul
      have hf : fate L u = L[u] := by unfold fate; rw [List.getD_eq_getElem?_getD, List.getElem?_eq_getElem hul]; rfl
      unfold fce at hs
      rw [← hf] at hs
      refine Wp.region (by kernel_rfl) (kp 23 (.pointer (some ⟨0, 0, none⟩)) (kp 24 (.pointer (some ⟨0, 0, none⟩)) (kp 25 (.pointer (some ⟨0, 1, none⟩)) (kp 26 (.iface 36 (Value.iface (List.length L) (Value.iface 0 (Value.agg (List.toArray (fts L)))))) (kp 27 (.pointer (some ⟨0, 0, none⟩)) (kp 28 (.pointer (some ⟨0, 0, none⟩)) (kp 29 (.pointer (some ⟨0, 3, none⟩)) (kp 30 (.int .i64 u) (kp 31 (.iface 36 (Value.iface (Int.toNat (↑u : Int) * 4) (Value.agg (List.toArray (fts L))))) (kp 32 (.agg #[Value.bool (Ft.lo (fate L u)), Value.int .i64 (Ft.co (fate L u)), Value.int .i64 (Ft.de (fate L u)), Value.int .i64 (Ft.sp (fate L u))]) (ld (.tuple #[]) (2) (Blk.mk 36 true [Value.bool (Ft.lo (fate L u)), Value.int .i64 (Ft.co (fate L u)), Value.int .i64 (Ft.de (fate L u)), Value.int .i64 (Ft.sp (fate L u))]) (WpOps.nil ?_)) (hop := fun _ => o_loadIA (Int.toNat (↑u : Int) * 4) hs)) (hop := fun _ => o_indexI (e := 36) (size := 4) (a := (↑u : Int)) g1))))))))))
      exact ⟨rfl, View.ofP [0, 1, 2] _ _ (by decide) rfl ⟨⟨_, by kernel_rfl, ⟨rfl, rfl⟩⟩, ⟨_, by kernel_rfl, CellsOk.eq rfl (ics_flat _)⟩, ⟨_, by kernel_rfl, ⟨rfl, rfl⟩⟩, trivial⟩ ⟨⟨by kernel_rfl, rfl⟩, ⟨by kernel_rfl, rfl⟩, ⟨by kernel_rfl, rfl⟩, ⟨by kernel_rfl, rfl⟩, trivial⟩⟩
    · have hul : L.length ≤ u := by
        have := of_decide_eq_false hc
        omega
      have hf : fate L u = ⟨false, 0, 0, -1⟩ := by unfold fate; rw [List.getD_eq_getElem?_getD, List.getElem?_eq_none hul]; rfl
      refine Wp.skip ?_
      rw [hf]
      exact ⟨rfl, View.ofP [0, 1, 2] _ _ (by decide) rfl ⟨⟨_, by kernel_rfl, ⟨rfl, rfl⟩⟩, ⟨_, by kernel_rfl, CellsOk.eq rfl (ics_flat _)⟩, ⟨_, by kernel_rfl, ⟨rfl, rfl⟩⟩, trivial⟩ ⟨⟨by kernel_rfl, rfl⟩, ⟨by kernel_rfl, rfl⟩, ⟨by kernel_rfl, rfl⟩, ⟨by kernel_rfl, rfl⟩, trivial⟩⟩
  have wu : IntKind.i64.wrap ((u : Int) + 1) = ((u + 1 : Nat) : Int) := by rw [wr _ (by omega) (by omega)]; omega
  refine Wp.seq (Wp.text (kp 33 (.pointer (some ⟨0, 0, none⟩)) (kp 34 (.pointer (some ⟨0, 0, none⟩)) (kp 35 (.pointer (some ⟨0, 0, none⟩)) (kp 36 (.pointer (some ⟨0, 3, none⟩)) (kp 37 (.int .i64 u) (kp 38 (.int .i64 (IntKind.wrap .i64 ((↑u : Int) + 1))) (kp 39 (.pointer (some ⟨0, 0, none⟩)) (kp 40 (.pointer (some ⟨0, 3, none⟩)) (ld (.tuple #[]) (0) (Blk.mk 78 true [Value.int .i64 k, Value.iface 36 (Value.iface (List.length L) (Value.iface 0 (Value.agg (List.toArray (fts L))))), Value.int .i64 t, Value.int .i64 (IntKind.wrap .i64 ((↑u : Int) + 1)), Value.slice (some ⟨1, 0, none⟩) (List.length Y) (List.length Y)]) (WpOps.nil (thenK_at (Wp.seq (Wp.seq (Wp.text (kp 41 (.pointer (some ⟨2, 0, none⟩)) (kp 42 (.bool false) (WpOps.nil (thenK_at (off' (Wp.skip (thenK_at (Wp.seq (Wp.seq (Wp.text (kp 43 (.pointer (some ⟨2, 3, none⟩)) (kp 44 (.int .i64 (Ft.sp (fate L u))) (kp 45 (.bool (Ft.sp (fate L u) != -1)) (WpOps.nil (thenK_at ?_))))))))))))) (hop := fun _ => by_fact hlo))))))))))))))))))
  rw [wu]
  obtain ⟨o1, o2, o3, o4, o5⟩ := fate_ok hok u
  refine Wp.mergeH [(0, .pointer (some ⟨0, 0, none⟩)), (1, .string (unit' (fate L u) b)), (4, .int .i64 0), (5, .pointer (some ⟨2, 0, none⟩))] (heapO [some ⟨78, true, [.int .i64 k, FS 36 L.length 0 (fts L).toArray, .int .i64 t, .int .i64 (u + 1 : Nat), .slice (some ⟨1, 0, none⟩) Y.length Y.length]⟩, some (sR Y), some ⟨36, true, [.bool (fate L u).lo, .int .i64 (fate L u).co, .int .i64 (fate L u).de, .int .i64 (fate L u).sp]⟩]) ?_ ?_
  · rw [sp_ne o5]
    refine Wp.split (decide (Ft.sp (fate L u) ≥ 0)) (by kernel_rfl) (fun hs => ?_) (fun hs => ?_)
    · have hu' : unit' (fate L u) b = spu b (fate L u).sp := if_pos (of_decide_eq_true hs)
      have c1 := spoil17 b (fate L u).sp (by omega)
      rw [← hu'] at c1
      refine Wp.text (kp 47 (.string b) (kp 48 (.pointer (some ⟨2, 3, none⟩)) (kp 49 (.int .i64 (Ft.sp (fate L u))) (fr 50 17 [Value.string b, Value.int .i64 (Ft.sp (fate L u))] (WpFun.of (c1) (kp 46 (.tuple #[Value.string (unit' (fate L u) b), Value.int .i64 0]) (kp 51 (.string (unit' (fate L u) b)) (kp 52 (.int .i64 0) (kp 1 (.string (unit' (fate L u) b)) (WpOps.nil ?_))))))))))
      exact ⟨rfl, View.ofP [0, 1, 2] _ _ (by decide) rfl ⟨⟨_, by kernel_rfl, ⟨rfl, rfl⟩⟩, ⟨_, by kernel_rfl, CellsOk.eq rfl (ics_flat _)⟩, ⟨_, by kernel_rfl, ⟨rfl, rfl⟩⟩, trivial⟩ ⟨⟨by kernel_rfl, rfl⟩, ⟨by kernel_rfl, rfl⟩, ⟨by kernel_rfl, rfl⟩, ⟨by kernel_rfl, rfl⟩, trivial⟩⟩
    · have hu' : unit' (fate L u) b = b := if_neg (of_decide_eq_false hs)
      rw [hu']
      refine Wp.skip ?_
      exact ⟨rfl, View.ofP [0, 1, 2] _ _ (by decide) rfl ⟨⟨_, by kernel_rfl, ⟨rfl, rfl⟩⟩, ⟨_, by kernel_rfl, CellsOk.eq rfl (ics_flat _)⟩, ⟨_, by kernel_rfl, ⟨rfl, rfl⟩⟩, trivial⟩ ⟨⟨by kernel_rfl, rfl⟩, ⟨by kernel_rfl, rfl⟩, ⟨by kernel_rfl, rfl⟩, ⟨by kernel_rfl, rfl⟩, trivial⟩⟩
  have wa : IntKind.i64.wrap (IntKind.i64.wrap ((t : Int) + 1) + (fate L u).de) = (t : Int) + 1 + (fate L u).de := by rw [wr ((t : Int) + 1) (by omega) (by omega), wr _ (by omega) (by omega)]
  refine Wp.seq (Wp.region (by kernel_rfl) (kp 53 (.pointer (some ⟨0, 0, none⟩)) (kp 54 (.pointer (some ⟨0, 0, none⟩)) (kp 55 (.pointer (some ⟨0, 2, none⟩)) (kp 56 (.int .i64 t) (kp 57 (.int .i64 (IntKind.wrap .i64 ((↑t : Int) + 1))) (kp 58 (.pointer (some ⟨2, 2, none⟩)) (kp 59 (.int .i64 (Ft.de (fate L u))) (kp 60 (.int .i64 (IntKind.wrap .i64 (IntKind.wrap .i64 ((↑t : Int) + 1) + Ft.de (fate L u)))) (kp 6 (.int .i64 (IntKind.wrap .i64 (IntKind.wrap .i64 ((↑t : Int) + 1) + Ft.de (fate L u)))) (WpOps.nil (thenK_at ?_))))))))))))
  rw [wa]
  refine Wp.seq ?_
  refine Wp.mergeH [(0, .pointer (some ⟨0, 0, none⟩)), (1, .string (unit' (fate L u) b)), (4, .int .i64 0), (5, .pointer (some ⟨2, 0, none⟩)), (6, .int .i64 (atW k (fate L u) t Y))] (heapO [some ⟨78, true, [.int .i64 k, FS 36 L.length 0 (fts L).toArray, .int .i64 t, .int .i64 (u + 1 : Nat), .slice (some ⟨1, 0, none⟩) Y.length Y.length]⟩, some (sR Y), some ⟨36, true, [.bool (fate L u).lo, .int .i64 (fate L u).co, .int .i64 (fate L u).de, .int .i64 (fate L u).sp]⟩]) ?_ ?_
  · rcases hk with rfl | rfl
    · have e0 : ((0 : Int) == 0) = true := rfl
      refine Wp.seq (Wp.text (kp 7 (.int .i64 0) (WpOps.nil (thenK_at (Wp.block ?_)))))
      refine Wp.loop (G := Nat) (fun i => layj [(0, .pointer (some ⟨0, 0, none⟩)), (1, .string (unit' (fate L u) b)), (4, .int .i64 0), (5, .pointer (some ⟨2, 0, none⟩)), (6, .int .i64 ((Y.take i).foldl mx ((t : Int) + 1 + (fate L u).de))), (7, .int .i64 i)]) (fun _ => (heapO [some ⟨78, true, [.int .i64 0, FS 36 L.length 0 (fts L).toArray, .int .i64 t, .int .i64 (u + 1 : Nat), .slice (some ⟨1, 0, none⟩) Y.length Y.length]⟩, some (sR Y), some ⟨36, true, [.bool (fate L u).lo, .int .i64 (fate L u).co, .int .i64 (fate L u).de, .int .i64 (fate L u).sp]⟩])) (fun i => Y.length - i) (fun i => i ≤ Y.length) 0
        (View.ofP [0, 1, 2] _ _ (by decide) rfl ⟨⟨_, by kernel_rfl, ⟨rfl, rfl⟩⟩, ⟨_, by kernel_rfl, CellsOk.eq rfl (ics_flat _)⟩, ⟨_, by kernel_rfl, ⟨rfl, rfl⟩⟩, trivial⟩ ⟨⟨by kernel_rfl, rfl⟩, ⟨by kernel_rfl, rfl⟩, ⟨by kernel_rfl, rfl⟩, ⟨by kernel_rfl, rfl⟩, ⟨by kernel_rfl, rfl⟩, ⟨by kernel_rfl, rfl⟩, trivial⟩) (Nat.zero_le _) ?_
      intro i hi
      by_cases hc : i < Y.length
      · have d2 : decide ((i : Int) < (Y.length : Int)) = true := decide_eq_true (by omega)
        have g1 : 0 ≤ (i : Int) ∧ (i : Int) < Y.length := by omega
        have g2 : cellsAt (sR Y).cells (0 + (i : Int).toNat * 2) 2 = some [.string Y[i].2, .int .i64 Y[i].1] := by
          rw [Int.toNat_natCast, Nat.zero_add]
          exact ics_at hc
        have wi : IntKind.i64.wrap ((i : Int) + 1) = ((i + 1 : Nat) : Int) := by rw [wr _ (by omega) (by omega)]; omega
        have g3 : (sR Y).cells[0 + (i : Int).toNat * 2 + 1]? = some (.int .i64 Y[i].1) := by
          have := cellsAt_one (i := 1) g2 rfl
          rwa [Nat.add_zero] at this
        have ex : (Y.take (i + 1)).foldl mx ((t : Int) + 1 + (fate L u).de) = mx ((Y.take i).foldl mx ((t : Int) + 1 + (fate L u).de)) Y[i] := by
          rw [List.take_add_one, List.getElem?_eq_getElem hc, List.foldl_append]
          rfl
        refine Wp.seq (Wp.seq (Wp.text (kp 61 (.pointer (some ⟨0, 0, none⟩)) (kp 62 (.pointer (some ⟨0, 0, none⟩)) (kp 63 (.pointer (some ⟨0, 0, none⟩)) (kp 64 (.int .i64 0) (kp 65 (.bool true) (kp 66 (.bool true) (kp 67 (.int .i64 i) (kp 68 (.pointer (some ⟨0, 0, none⟩)) (kp 69 (.pointer (some ⟨0, 0, none⟩)) (kp 70 (.pointer (some ⟨0, 4, none⟩)) (kp 71 (.slice (some ⟨1, 0, none⟩) (List.length Y) (List.length Y)) (kp 72 (.int .i64 (List.length Y)) (kp 73 (.bool true) (kp 74 (.bool true) (WpOps.nil (thenK_at (on' (Wp.skip (thenK_at (Wp.seq (Wp.block (Wp.text (kp 77 (.int .i64 (List.foldl mx ((↑t : Int) + 1 + Ft.de (fate L u)) (List.take i Y))) (kp 78 (.pointer (some ⟨0, 0, none⟩)) (kp 79 (.pointer (some ⟨0, 0, none⟩)) (kp 80 (.pointer (some ⟨0, 4, none⟩)) (kp 81 (.slice (some ⟨1, 0, none⟩) (List.length Y) (List.length Y)) (kp 82 (.int .i64 i) (kp 83 (.pointer (some (Addr.mk 1 (0 + Int.toNat (↑i : Int) * 2) none))) (kp 84 (.pointer (some (Addr.mk 1 (0 + Int.toNat (↑i : Int) * 2 + 1) none))) (kp 85 (.int .i64 (Prod.fst Y[i])) (kp 86 (.int .i64 (if Prod.fst Y[i] > List.foldl mx ((↑t : Int) + 1 + Ft.de (fate L u)) (List.take i Y) then Prod.fst Y[i] else List.foldl mx ((↑t : Int) + 1 + Ft.de (fate L u)) (List.take i Y))) (kp 6 (.int .i64 (if Prod.fst Y[i] > List.foldl mx ((↑t : Int) + 1 + Ft.de (fate L u)) (List.take i Y) then Prod.fst Y[i] else List.foldl mx ((↑t : Int) + 1 + Ft.de (fate L u)) (List.take i Y))) ?_)) (hop := fun _ => o_load1 (1) (0 + Int.toNat (↑i : Int) * 2 + 1) g3))) (hop := fun _ => o_indexAddr (a := (↑i : Int)) (bl := 1) (off := 0) (size := 2) 80 (List.length Y) g1))))))))))))))))) (hop := fun _ => by_fact d2))))))))))))))))
        refine WpOps.nil (blockK_norm (thenK_at (Wp.text (kp 75 (.int .i64 i) (kp 76 (.int .i64 (IntKind.wrap .i64 ((↑i : Int) + 1))) (kp 7 (.int .i64 (IntKind.wrap .i64 ((↑i : Int) + 1))) (WpOps.nil (thenK_at ?_))))))))
        exact ⟨i + 1, by omega, by omega, View.ofP [0, 1, 2] _ _ (by decide) rfl ⟨⟨_, by kernel_rfl, ⟨rfl, rfl⟩⟩, ⟨_, by kernel_rfl, CellsOk.eq rfl (ics_flat _)⟩, ⟨_, by kernel_rfl, ⟨rfl, rfl⟩⟩, trivial⟩ ⟨⟨by kernel_rfl, rfl⟩, ⟨by kernel_rfl, rfl⟩, ⟨by kernel_rfl, rfl⟩, ⟨by kernel_rfl, rfl⟩, ⟨congrArg (Value.int .i64) ex.symm, rfl⟩, ⟨congrArg (Value.int .i64) wi, rfl⟩, trivial⟩⟩
      · have d2 : decide ((i : Int) < (Y.length : Int)) = false := decide_eq_false (by omega)
        obtain rfl : i = Y.length := by omega
        have e1 : atW 0 (fate L u) t Y = (Y.take Y.length).foldl mx ((t : Int) + 1 + (fate L u).de) := by rw [List.take_length]; rfl
        rw [e1]
        refine Wp.seq (Wp.seq (Wp.text (kp 61 (.pointer (some ⟨0, 0, none⟩)) (kp 62 (.pointer (some ⟨0, 0, none⟩)) (kp 63 (.pointer (some ⟨0, 0, none⟩)) (kp 64 (.int .i64 0) (kp 65 (.bool true) (kp 66 (.bool true) (kp 67 (.int .i64 (List.length Y)) (kp 68 (.pointer (some ⟨0, 0, none⟩)) (kp 69 (.pointer (some ⟨0, 0, none⟩)) (kp 70 (.pointer (some ⟨0, 4, none⟩)) (kp 71 (.slice (some ⟨1, 0, none⟩) (List.length Y) (List.length Y)) (kp 72 (.int .i64 (List.length Y)) (kp 73 (.bool false) (kp 74 (.bool false) (WpOps.nil (thenK_at (off' (Wp.exit (thenK_exit (thenK_exit (blockK_hit ?_)))))))) (hop := fun _ => by_fact d2))))))))))))))))
        exact ⟨rfl, View.ofP [0, 1, 2] _ _ (by decide) rfl ⟨⟨_, by kernel_rfl, ⟨rfl, rfl⟩⟩, ⟨_, by kernel_rfl, CellsOk.eq rfl (ics_flat _)⟩, ⟨_, by kernel_rfl, ⟨rfl, rfl⟩⟩, trivial⟩ ⟨⟨by kernel_rfl, rfl⟩, ⟨by kernel_rfl, rfl⟩, ⟨by kernel_rfl, rfl⟩, ⟨by kernel_rfl, rfl⟩, ⟨by kernel_rfl, rfl⟩, trivial⟩⟩
    · have e0 : ((1 : Int) == 0) = false := rfl
      have e1 : atW 1 (fate L u) t Y = (t : Int) + 1 + (fate L u).de := rfl
      rw [e1]
      refine Wp.seq (Wp.text (kp 7 (.int .i64 0) (WpOps.nil (thenK_at (Wp.block ?_)))))
      refine Wp.unroll (WpL.step ?_)
      refine Wp.seq (Wp.seq (Wp.text (kp 61 (.pointer (some ⟨0, 0, none⟩)) (kp 62 (.pointer (some ⟨0, 0, none⟩)) (kp 63 (.pointer (some ⟨0, 0, none⟩)) (kp 64 (.int .i64 1) (kp 65 (.bool false) (kp 66 (.bool false) (um 67 (um 68 (um 69 (um 70 (um 71 (um 72 (um 73 (kp 74 (.bool false) (WpOps.nil (thenK_at (off' (Wp.exit (thenK_exit (thenK_exit (blockK_hit ?_)))))))))))))))))))))))
      exact ⟨rfl, View.ofP [0, 1, 2] _ _ (by decide) rfl ⟨⟨_, by kernel_rfl, ⟨rfl, rfl⟩⟩, ⟨_, by kernel_rfl, CellsOk.eq rfl (ics_flat _)⟩, ⟨_, by kernel_rfl, ⟨rfl, rfl⟩⟩, trivial⟩ ⟨⟨by kernel_rfl, rfl⟩, ⟨by kernel_rfl, rfl⟩, ⟨by kernel_rfl, rfl⟩, ⟨by kernel_rfl, rfl⟩, ⟨by kernel_rfl, rfl⟩, trivial⟩⟩
  obtain ⟨C, hC⟩ : ∃ C : Nat, (fate L u).co = C := ⟨(fate L u).co.toNat, by omega⟩
  have hC3 : C ≤ 3 := by omega
  obtain ⟨a1, a2⟩ := atW_in k (fate L u) t Y ht o3 o4 hin
  unfold nxt
  rw [hC, Int.toNat_natCast]
  generalize atW k (fate L u) t Y = a at a1 a2 ⊢
  generalize unit' (fate L u) b = v
  have r1 : Y ++ [((IntKind.i64.wrap (a + IntKind.i64.wrap (0 * k)) : Int), v)] = Yl a k v Y 1 := by
    rw [show Yl a k v Y 1 = Y ++ [(a + 0 * k, v)] from Yl_snoc a k v Y (by omega) |>.trans (by rw [Yl_zero]; rfl), wr (0 * k) (by omega) (by omega), wr _ (by omega) (by omega)]
  have c1 := lent46o k L t (u + 1 : Nat) Y v (IntKind.i64.wrap (a + IntKind.i64.wrap (0 * k))) hY
  rw [r1] at c1
  unfold sB wS at c1
  have q3 : decide ((0 : Int) ≤ ((C : Nat) : Int)) = true := decide_eq_true (by omega)
  refine Wp.seq (Wp.seq (Wp.text (kp 8 (.int .i64 0) (WpOps.nil (thenK_at (Wp.block ?_))))))
  refine Wp.unroll (WpL.step ?_)
  refine Wp.seq (Wp.seq (Wp.text (kp 87 (.int .i64 0) (kp 88 (.pointer (some ⟨2, 1, none⟩)) (kp 89 (.int .i64 C) (kp 90 (.bool (decide (0 ≤ (↑C : Int)))) (WpOps.nil (thenK_at (on' (Wp.skip (thenK_at (Wp.seq (Wp.block (Wp.text (kp 93 (.pointer (some ⟨0, 0, none⟩)) (kp 94 (.string v) (kp 95 (.int .i64 a) (kp 96 (.int .i64 0) (kp 97 (.pointer (some ⟨0, 0, none⟩)) (kp 98 (.pointer (some ⟨0, 0, none⟩)) (kp 99 (.pointer (some ⟨0, 0, none⟩)) (kp 100 (.int .i64 k) (kp 101 (.int .i64 (IntKind.wrap .i64 (0 * k))) (kp 102 (.int .i64 (IntKind.wrap .i64 (a + IntKind.wrap .i64 (0 * k)))) (cl 103 46 [Value.pointer (some ⟨0, 0, none⟩), Value.string v, Value.int .i64 (IntKind.wrap .i64 (a + IntKind.wrap .i64 (0 * k)))] ?_)))))))))))))))))))))))))
  refine WpCall.lentP [0, 1] c1 (by decide) ⟨⟨_, by kernel_rfl, ⟨rfl, rfl⟩⟩, ⟨_, by kernel_rfl, CellsOk.eq rfl (ics_flat _)⟩, trivial⟩ rfl (.tuple #[]) [some ⟨78, true, [.int .i64 k, FS 36 L.length 0 (fts L).toArray, .int .i64 t, .int .i64 (u + 1 : Nat), .slice (some ⟨3, 0, none⟩) (Yl a k v Y 1).length (Yl a k v Y 1).length]⟩, none, some (sR (Yl a k v Y 1))] (.cons rfl (.cons rfl (.cons (congrArg some (unB_flat (ics_flat _))) .nil))) rfl _ rfl ?_
  refine WpOps.nil (blockK_norm (thenK_at (Wp.text (kp 91 (.int .i64 0) (kp 92 (.int .i64 (IntKind.wrap .i64 (0 + 1))) (kp 8 (.int .i64 (IntKind.wrap .i64 (0 + 1))) (WpOps.nil (thenK_at ?_))))))))
  refine WpL.loop (G := Nat) (fun i => layj [(0, .pointer (some ⟨0, 0, none⟩)), (1, .string v), (4, .int .i64 0), (5, .pointer (some ⟨2, 0, none⟩)), (6, .int .i64 a), (8, .int .i64 i)]) (fun i => heapO [some ⟨78, true, [.int .i64 k, FS 36 L.length 0 (fts L).toArray, .int .i64 t, .int .i64 (u + 1 : Nat), .slice (some ⟨3, 0, none⟩) (Yl a k v Y i).length (Yl a k v Y i).length]⟩, none, some ⟨36, true, [.bool (fate L u).lo, .int .i64 (C : Nat), .int .i64 (fate L u).de, .int .i64 (fate L u).sp]⟩, some (sR (Yl a k v Y i))]) (fun i => C + 1 - i) (fun i => 1 ≤ i ∧ i ≤ C + 1) 1
    (View.ofP [0, 1, 2, 3] _ _ (by decide) rfl ⟨⟨_, by kernel_rfl, ⟨rfl, rfl⟩⟩, ⟨_, by kernel_rfl, ⟨rfl, rfl⟩⟩, ⟨_, by kernel_rfl, CellsOk.eq rfl (ics_flat _)⟩, trivial⟩ ⟨⟨by kernel_rfl, rfl⟩, ⟨by kernel_rfl, rfl⟩, ⟨by kernel_rfl, rfl⟩, ⟨by kernel_rfl, rfl⟩, ⟨by kernel_rfl, rfl⟩, ⟨by kernel_rfl, rfl⟩, trivial⟩) ⟨Nat.le_refl _, by omega⟩ ?_
  clear r1 q3 c1
  rintro i ⟨hi1, hi2⟩
  have hYl := Yl_len a k v Y i
  by_cases hc : i < C + 1
  · have q3 : decide ((i : Int) ≤ ((C : Nat) : Int)) = true := decide_eq_true (by omega)
    have wi : IntKind.i64.wrap ((i : Int) + 1) = ((i + 1 : Nat) : Int) := by rw [wr _ (by omega) (by omega)]; omega
    by_cases hl : i < 400 - Y.length
    · have wk : IntKind.i64.wrap ((i : Int) * k) = (i : Int) * k ∧ 0 ≤ (i : Int) * k ∧ (i : Int) * k ≤ 4 := by
        have : 0 ≤ (i : Int) * k ∧ (i : Int) * k ≤ 4 := by rcases hk with rfl | rfl <;> omega
        exact ⟨wr _ (by omega) (by omega), this⟩
      have c1 := lent46o k L t (u + 1 : Nat) (Yl a k v Y i) v (IntKind.i64.wrap (a + IntKind.i64.wrap ((i : Int) * k))) (by omega)
      have r1 : (Yl a k v Y i) ++ [((IntKind.i64.wrap (a + IntKind.i64.wrap ((i : Int) * k)) : Int), v)] = Yl a k v Y (i + 1) := by
        rw [Yl_snoc a k v Y hl, wk.1, wr _ (by omega) (by omega)]
      rw [r1] at c1
      unfold sB wS at c1
      refine Wp.seq (Wp.seq (Wp.text (kp 87 (.int .i64 i) (kp 88 (.pointer (some ⟨2, 1, none⟩)) (kp 89 (.int .i64 C) (kp 90 (.bool true) (WpOps.nil (thenK_at (on' (Wp.skip (thenK_at (Wp.seq (Wp.block (Wp.text (kp 93 (.pointer (some ⟨0, 0, none⟩)) (kp 94 (.string v) (kp 95 (.int .i64 a) (kp 96 (.int .i64 i) (kp 97 (.pointer (some ⟨0, 0, none⟩)) (kp 98 (.pointer (some ⟨0, 0, none⟩)) (kp 99 (.pointer (some ⟨0, 0, none⟩)) (kp 100 (.int .i64 k) (kp 101 (.int .i64 (IntKind.wrap .i64 ((↑i : Int) * k))) (kp 102 (.int .i64 (IntKind.wrap .i64 (a + IntKind.wrap .i64 ((↑i : Int) * k)))) (cl 103 46 [Value.pointer (some ⟨0, 0, none⟩), Value.string v, Value.int .i64 (IntKind.wrap .i64 (a + IntKind.wrap .i64 ((↑i : Int) * k)))] ?_))))))))))))))))))) (hop := fun _ => by_fact q3)))))))
      refine WpCall.lentP [0, 3] c1 (by decide) ⟨⟨_, by kernel_rfl, ⟨rfl, rfl⟩⟩, ⟨_, by kernel_rfl, CellsOk.eq rfl (ics_flat _)⟩, trivial⟩ rfl (.tuple #[]) [some ⟨78, true, [.int .i64 k, FS 36 L.length 0 (fts L).toArray, .int .i64 t, .int .i64 (u + 1 : Nat), .slice (some ⟨4, 0, none⟩) (Yl a k v Y (i + 1)).length (Yl a k v Y (i + 1)).length]⟩, none, some (sR (Yl a k v Y (i + 1)))] (.cons rfl (.cons rfl (.cons (congrArg some (unB_flat (ics_flat _))) .nil))) rfl _ rfl ?_
      refine WpOps.nil (blockK_norm (thenK_at (Wp.text (kp 91 (.int .i64 i) (kp 92 (.int .i64 (IntKind.wrap .i64 ((↑i : Int) + 1))) (kp 8 (.int .i64 (IntKind.wrap .i64 ((↑i : Int) + 1))) (WpOps.nil (thenK_at ?_))))))))
      exact ⟨i + 1, by omega, ⟨by omega, by omega⟩, View.ofP [0, 1, 2, 4] _ _ (by decide) rfl ⟨⟨_, by kernel_rfl, ⟨rfl, rfl⟩⟩, ⟨_, by kernel_rfl, ⟨rfl, rfl⟩⟩, ⟨_, by kernel_rfl, CellsOk.eq rfl (ics_flat _)⟩, trivial⟩ ⟨⟨by kernel_rfl, rfl⟩, ⟨by kernel_rfl, rfl⟩, ⟨by kernel_rfl, rfl⟩, ⟨by kernel_rfl, rfl⟩, ⟨by kernel_rfl, rfl⟩, ⟨congrArg (Value.int .i64) wi, rfl⟩, trivial⟩⟩
    · have c1 := lent46f k L t (u + 1 : Nat) (Yl a k v Y i) v (IntKind.i64.wrap (a + IntKind.i64.wrap ((i : Int) * k))) (by omega)
      have r3 : (Yl a k v Y i) = Yl a k v Y (i + 1) := Yl_stay a k v Y (by omega)
      rw [r3] at c1 ⊢
      unfold sB wS at c1
      refine Wp.seq (Wp.seq (Wp.text (kp 87 (.int .i64 i) (kp 88 (.pointer (some ⟨2, 1, none⟩)) (kp 89 (.int .i64 C) (kp 90 (.bool true) (WpOps.nil (thenK_at (on' (Wp.skip (thenK_at (Wp.seq (Wp.block (Wp.text (kp 93 (.pointer (some ⟨0, 0, none⟩)) (kp 94 (.string v) (kp 95 (.int .i64 a) (kp 96 (.int .i64 i) (kp 97 (.pointer (some ⟨0, 0, none⟩)) (kp 98 (.pointer (some ⟨0, 0, none⟩)) (kp 99 (.pointer (some ⟨0, 0, none⟩)) (kp 100 (.int .i64 k) (kp 101 (.int .i64 (IntKind.wrap .i64 ((↑i : Int) * k))) (kp 102 (.int .i64 (IntKind.wrap .i64 (a + IntKind.wrap .i64 ((↑i : Int) * k)))) (cl 103 46 [Value.pointer (some ⟨0, 0, none⟩), Value.string v, Value.int .i64 (IntKind.wrap .i64 (a + IntKind.wrap .i64 ((↑i : Int) * k)))] ?_))))))))))))))))))) (hop := fun _ => by_fact q3)))))))
      refine WpCall.lentP [0, 3] c1 (by decide) ⟨⟨_, by kernel_rfl, ⟨rfl, rfl⟩⟩, ⟨_, by kernel_rfl, CellsOk.eq rfl (ics_flat _)⟩, trivial⟩ rfl (.tuple #[]) [some ⟨78, true, [.int .i64 k, FS 36 L.length 0 (fts L).toArray, .int .i64 t, .int .i64 (u + 1 : Nat), .slice (some ⟨3, 0, none⟩) (Yl a k v Y (i + 1)).length (Yl a k v Y (i + 1)).length]⟩, some (sR (Yl a k v Y (i + 1)))] (.cons rfl (.cons (congrArg some (unB_flat (ics_flat _))) .nil)) rfl _ rfl ?_
      refine WpOps.nil (blockK_norm (thenK_at (Wp.text (kp 91 (.int .i64 i) (kp 92 (.int .i64 (IntKind.wrap .i64 ((↑i : Int) + 1))) (kp 8 (.int .i64 (IntKind.wrap .i64 ((↑i : Int) + 1))) (WpOps.nil (thenK_at ?_))))))))
      exact ⟨i + 1, by omega, ⟨by omega, by omega⟩, View.ofP [0, 1, 2, 3] _ _ (by decide) rfl ⟨⟨_, by kernel_rfl, ⟨rfl, rfl⟩⟩, ⟨_, by kernel_rfl, ⟨rfl, rfl⟩⟩, ⟨_, by kernel_rfl, CellsOk.eq rfl (ics_flat _)⟩, trivial⟩ ⟨⟨by kernel_rfl, rfl⟩, ⟨by kernel_rfl, rfl⟩, ⟨by kernel_rfl, rfl⟩, ⟨by kernel_rfl, rfl⟩, ⟨by kernel_rfl, rfl⟩, ⟨congrArg (Value.int .i64) wi, rfl⟩, trivial⟩⟩
  · have q3 : decide ((i : Int) ≤ ((C : Nat) : Int)) = false := decide_eq_false (by omega)
    obtain rfl : i = C + 1 := by omega
    refine Wp.seq (Wp.seq (Wp.text (kp 87 (.int .i64 (↑(C + 1) : Int)) (kp 88 (.pointer (some ⟨2, 1, none⟩)) (kp 89 (.int .i64 C) (kp 90 (.bool false) (WpOps.nil (thenK_at (off' (Wp.exit (thenK_exit (thenK_exit (blockK_hit (thenK_at (Wp.seq (Wp.text (kp 4 (.int .i64 0) (WpOps.nil (thenK_at (Wp.ret (endK_retn [Value.int .i64 0] (Value.int .i64 0) (by kernel_rfl) (by kernel_rfl) ?_))))))))))))))) (hop := fun _ => by_fact q3)))))))
    exact ⟨[0, 1, 3], by decide, rfl, BlksP.told ⟨⟨_, by kernel_rfl, ⟨rfl, rfl⟩⟩, ⟨_, by kernel_rfl, CellsOk.eq rfl (ics_flat _)⟩, trivial⟩, .w (.un rfl rfl)⟩
theorem put25f (k : Int) (L : List Ft) (t u : Nat) (Y : List Tr) (b : ByteArray) (hb : b.size ≤ 4000) (hk : k = 0 ∨ k = 1) (hok : L.all Ft.ok = true) (ht : t ≤ 1000000) (hu : u ≤ 1000000) (hY : 400 ≤ Y.length) (hYm : Y.length ≤ 1000) (hin : InT Y) (hlo : (fate L u).lo = false) :
    SCall E 25 [.pointer (some ⟨0, 0, none⟩), .string b] (heapO [some (sB k L t u (wS 1 Y)), some (sR Y)]) (.int .i64 0) (heapO [some (sB k L t (u + 1 : Nat) (wS 1 Y)), some (sR Y)]) := by
  refine SCall.enterO g25 rfl (of_decide_eq_true (by kernel_rfl)) rfl rfl (Nat.le_refl _) ?_
  unfold sB wS
  have d1 : decide ((b.size : Int) > 4000) = false := decide_eq_false (by omega)
  have hfl : (sR Y).cells.all flat = true := ics_flat _
  refine Wp.seq (Wp.text (kp 4 (.int .i64 0) (WpOps.nil (thenK_at (Wp.seq (Wp.seq (Wp.text (kp 9 (.string b) (kp 10 (.int .i64 (ByteArray.size b)) (kp 11 (.bool false) (WpOps.nil (thenK_at (off' (Wp.skip (thenK_at (Wp.seq (Wp.text (kp 12 (.agg #[Value.bool false, Value.int .i64 0, Value.int .i64 0, Value.int .i64 (-1)]) (md 5 (.pointer (some ⟨2, 0, none⟩)) (Blk.mk 36 true [Value.bool false, Value.int .i64 0, Value.int .i64 0, Value.int .i64 0]) (ld (.tuple #[]) (2) (Blk.mk 36 true [Value.bool false, Value.int .i64 0, Value.int .i64 0, Value.int .i64 (-1)]) (WpOps.nil (thenK_at (Wp.seq (Wp.seq (Wp.region (by kernel_rfl) (kp 13 (.pointer (some ⟨0, 0, none⟩)) (kp 14 (.pointer (some ⟨0, 0, none⟩)) (kp 15 (.pointer (some ⟨0, 3, none⟩)) (kp 16 (.int .i64 u) (kp 17 (.pointer (some ⟨0, 0, none⟩)) (kp 18 (.pointer (some ⟨0, 0, none⟩)) (kp 19 (.pointer (some ⟨0, 1, none⟩)) (kp 20 (.iface 36 (Value.iface (List.length L) (Value.iface 0 (Value.agg (List.toArray (fts L)))))) (kp 21 (.int .i64 (List.length L)) (kp 22 (.bool (decide ((↑u : Int) < (↑(List.length L) : Int)))) (WpOps.nil (thenK_at ?_))))))))))))))))))))))))))) (hop := fun _ => by_fact d1)))))))))))
  refine Wp.mergeH [(0, .pointer (some ⟨0, 0, none⟩)), (1, .string b), (4, .int .i64 0), (5, .pointer (some ⟨2, 0, none⟩))] (heapO [some ⟨78, true, [.int .i64 k, FS 36 L.length 0 (fts L).toArray, .int .i64 t, .int .i64 u, .slice (some ⟨1, 0, none⟩) Y.length Y.length]⟩, some (sR Y), some ⟨36, true, [.bool (fate L u).lo, .int .i64 (fate L u).co, .int .i64 (fate L u).de, .int .i64 (fate L u).sp]⟩]) ?_ ?_
  · refine Wp.split (decide ((↑u : Int) < (↑(List.length L) : Int))) (by kernel_rfl) (fun hc => ?_) (fun hc => ?_)
    · have hul : u < L.length := by
        have := of_decide_eq_true hc
        omega
      have g1 : 0 ≤ (u : Int) ∧ (u : Int) < L.length := by omega
      have hs : cellsAt (fts L).toArray.toList ((u : Int).toNat * 4) 4 = some (fce L[u]) := fts_cells L u hul
      have hf : fate L u = L[u] := by unfold fate; rw [List.getD_eq_getElem?_getD, List.getElem?_eq_getElem hul]; rfl
      unfold fce at hs
      rw [← hf] at hs
      refine Wp.region (by kernel_rfl) (kp 23 (.pointer (some ⟨0, 0, none⟩)) (kp 24 (.pointer (some ⟨0, 0, none⟩)) (kp 25 (.pointer (some ⟨0, 1, none⟩)) (kp 26 (.iface 36 (Value.iface (List.length L) (Value.iface 0 (Value.agg (List.toArray (fts L)))))) (kp 27 (.pointer (some ⟨0, 0, none⟩)) (kp 28 (.pointer (some ⟨0, 0, none⟩)) (kp 29 (.pointer (some ⟨0, 3, none⟩)) (kp 30 (.int .i64 u) (kp 31 (.iface 36 (Value.iface (Int.toNat (↑u : Int) * 4) (Value.agg (List.toArray (fts L))))) (kp 32 (.agg #[Value.bool (Ft.lo (fate L u)), Value.int .i64 (Ft.co (fate L u)), Value.int .i64 (Ft.de (fate L u)), Value.int .i64 (Ft.sp (fate L u))]) (ld (.tuple #[]) (2) (Blk.mk 36 true [Value.bool (Ft.lo (fate L u)), Value.int .i64 (Ft.co (fate L u)), Value.int .i64 (Ft.de (fate L u)), Value.int .i64 (Ft.sp (fate L u))]) (WpOps.nil ?_)) (hop := fun _ => o_loadIA (Int.toNat (↑u : Int) * 4) hs)) (hop := fun _ => o_indexI (e := 36) (size := 4) (a := (↑u : Int)) g1))))))))))
      exact ⟨rfl, View.ofP [0, 1, 2] _ _ (by decide) rfl ⟨⟨_, by kernel_rfl, ⟨rfl, rfl⟩⟩, ⟨_, by kernel_rfl, CellsOk.eq rfl (ics_flat _)⟩, ⟨_, by kernel_rfl, ⟨rfl, rfl⟩⟩, trivial⟩ ⟨⟨by kernel_rfl, rfl⟩, ⟨by kernel_rfl, rfl⟩, ⟨by kernel_rfl, rfl⟩, ⟨by kernel_rfl, rfl⟩, trivial⟩⟩
    · have hul : L.length ≤ u := by
        have := of_decide_eq_false hc
        omega
      have hf : fate L u = ⟨false, 0, 0, -1⟩ := by unfold fate; rw [List.getD_eq_getElem?_getD, List.getElem?_eq_none hul]; rfl
      refine Wp.skip ?_
      rw [hf]
      exact ⟨rfl, View.ofP [0, 1, 2] _ _ (by decide) rfl ⟨⟨_, by kernel_rfl, ⟨rfl, rfl⟩⟩, ⟨_, by kernel_rfl, CellsOk.eq rfl (ics_flat _)⟩, ⟨_, by kernel_rfl, ⟨rfl, rfl⟩⟩, trivial⟩ ⟨⟨by kernel_rfl, rfl⟩, ⟨by kernel_rfl, rfl⟩, ⟨by kernel_rfl, rfl⟩, ⟨by kernel_rfl, rfl⟩, trivial⟩⟩
  have wu : IntKind.i64.wrap ((u : Int) + 1) = ((u + 1 : Nat) : Int) := by rw [wr _ (by omega) (by omega)]; omega
  refine Wp.seq (Wp.text (kp 33 (.pointer (some ⟨0, 0, none⟩)) (kp 34 (.pointer (some ⟨0, 0, none⟩)) (kp 35 (.pointer (some ⟨0, 0, none⟩)) (kp 36 (.pointer (some ⟨0, 3, none⟩)) (kp 37 (.int .i64 u) (kp 38 (.int .i64 (IntKind.wrap .i64 ((↑u : Int) + 1))) (kp 39 (.pointer (some ⟨0, 0, none⟩)) (kp 40 (.pointer (some ⟨0, 3, none⟩)) (ld (.tuple #[]) (0) (Blk.mk 78 true [Value.int .i64 k, Value.iface 36 (Value.iface (List.length L) (Value.iface 0 (Value.agg (List.toArray (fts L))))), Value.int .i64 t, Value.int .i64 (IntKind.wrap .i64 ((↑u : Int) + 1)), Value.slice (some ⟨1, 0, none⟩) (List.length Y) (List.length Y)]) (WpOps.nil (thenK_at (Wp.seq (Wp.seq (Wp.text (kp 41 (.pointer (some ⟨2, 0, none⟩)) (kp 42 (.bool false) (WpOps.nil (thenK_at (off' (Wp.skip (thenK_at (Wp.seq (Wp.seq (Wp.text (kp 43 (.pointer (some ⟨2, 3, none⟩)) (kp 44 (.int .i64 (Ft.sp (fate L u))) (kp 45 (.bool (Ft.sp (fate L u) != -1)) (WpOps.nil (thenK_at ?_))))))))))))) (hop := fun _ => by_fact hlo))))))))))))))))))
  rw [wu]
  obtain ⟨o1, o2, o3, o4, o5⟩ := fate_ok hok u
  refine Wp.mergeH [(0, .pointer (some ⟨0, 0, none⟩)), (1, .string (unit' (fate L u) b)), (4, .int .i64 0), (5, .pointer (some ⟨2, 0, none⟩))] (heapO [some ⟨78, true, [.int .i64 k, FS 36 L.length 0 (fts L).toArray, .int .i64 t, .int .i64 (u + 1 : Nat), .slice (some ⟨1, 0, none⟩) Y.length Y.length]⟩, some (sR Y), some ⟨36, true, [.bool (fate L u).lo, .int .i64 (fate L u).co, .int .i64 (fate L u).de, .int .i64 (fate L u).sp]⟩]) ?_ ?_
  · rw [sp_ne o5]
    refine Wp.split (decide (Ft.sp (fate L u) ≥ 0)) (by kernel_rfl) (fun hs => ?_) (fun hs => ?_)
    · have hu' : unit' (fate L u) b = spu b (fate L u).sp := if_pos (of_decide_eq_true hs)
      have c1 := spoil17 b (fate L u).sp (by omega)
      rw [← hu'] at c1
      refine Wp.text (kp 47 (.string b) (kp 48 (.pointer (some ⟨2, 3, none⟩)) (kp 49 (.int .i64 (Ft.sp (fate L u))) (fr 50 17 [Value.string b, Value.int .i64 (Ft.sp (fate L u))] (WpFun.of (c1) (kp 46 (.tuple #[Value.string (unit' (fate L u) b), Value.int .i64 0]) (kp 51 (.string (unit' (fate L u) b)) (kp 52 (.int .i64 0) (kp 1 (.string (unit' (fate L u) b)) (WpOps.nil ?_))))))))))
      exact ⟨rfl, View.ofP [0, 1, 2] _ _ (by decide) rfl ⟨⟨_, by kernel_rfl, ⟨rfl, rfl⟩⟩, ⟨_, by kernel_rfl, CellsOk.eq rfl (ics_flat _)⟩, ⟨_, by kernel_rfl, ⟨rfl, rfl⟩⟩, trivial⟩ ⟨⟨by kernel_rfl, rfl⟩, ⟨by kernel_rfl, rfl⟩, ⟨by kernel_rfl, rfl⟩, ⟨by kernel_rfl, rfl⟩, trivial⟩⟩
    · have hu' : unit' (fate L u) b = b := if_neg (of_decide_eq_false hs)
      rw [hu']
      refine Wp.skip ?_
      exact ⟨rfl, View.ofP [0, 1, 2] _ _ (by decide) rfl ⟨⟨_, by kernel_rfl, ⟨rfl, rfl⟩⟩, ⟨_, by kernel_rfl, CellsOk.eq rfl (ics_flat _)⟩, ⟨_, by kernel_rfl, ⟨rfl, rfl⟩⟩, trivial⟩ ⟨⟨by kernel_rfl, rfl⟩, ⟨by kernel_rfl, rfl⟩, ⟨by kernel_rfl, rfl⟩, ⟨by kernel_rfl, rfl⟩, trivial⟩⟩
  have wa : IntKind.i64.wrap (IntKind.i64.wrap ((t : Int) + 1) + (fate L u).de) = (t : Int) + 1 + (fate L u).de := by rw [wr ((t : Int) + 1) (by omega) (by omega), wr _ (by omega) (by omega)]
  refine Wp.seq (Wp.region (by kernel_rfl) (kp 53 (.pointer (some ⟨0, 0, none⟩)) (kp 54 (.pointer (some ⟨0, 0, none⟩)) (kp 55 (.pointer (some ⟨0, 2, none⟩)) (kp 56 (.int .i64 t) (kp 57 (.int .i64 (IntKind.wrap .i64 ((↑t : Int) + 1))) (kp 58 (.pointer (some ⟨2, 2, none⟩)) (kp 59 (.int .i64 (Ft.de (fate L u))) (kp 60 (.int .i64 (IntKind.wrap .i64 (IntKind.wrap .i64 ((↑t : Int) + 1) + Ft.de (fate L u)))) (kp 6 (.int .i64 (IntKind.wrap .i64 (IntKind.wrap .i64 ((↑t : Int) + 1) + Ft.de (fate L u)))) (WpOps.nil (thenK_at ?_))))))))))))
  rw [wa]
  refine Wp.seq ?_
  refine Wp.mergeH [(0, .pointer (some ⟨0, 0, none⟩)), (1, .string (unit' (fate L u) b)), (4, .int .i64 0), (5, .pointer (some ⟨2, 0, none⟩)), (6, .int .i64 (atW k (fate L u) t Y))] (heapO [some ⟨78, true, [.int .i64 k, FS 36 L.length 0 (fts L).toArray, .int .i64 t, .int .i64 (u + 1 : Nat), .slice (some ⟨1, 0, none⟩) Y.length Y.length]⟩, some (sR Y), some ⟨36, true, [.bool (fate L u).lo, .int .i64 (fate L u).co, .int .i64 (fate L u).de, .int .i64 (fate L u).sp]⟩]) ?_ ?_
  · rcases hk with rfl | rfl
    · have e0 : ((0 : Int) == 0) = true := rfl
      refine Wp.seq (Wp.text (kp 7 (.int .i64 0) (WpOps.nil (thenK_at (Wp.block ?_)))))
      refine Wp.loop (G := Nat) (fun i => layj [(0, .pointer (some ⟨0, 0, none⟩)), (1, .string (unit' (fate L u) b)), (4, .int .i64 0), (5, .pointer (some ⟨2, 0, none⟩)), (6, .int .i64 ((Y.take i).foldl mx ((t : Int) + 1 + (fate L u).de))), (7, .int .i64 i)]) (fun _ => (heapO [some ⟨78, true, [.int .i64 0, FS 36 L.length 0 (fts L).toArray, .int .i64 t, .int .i64 (u + 1 : Nat), .slice (some ⟨1, 0, none⟩) Y.length Y.length]⟩, some (sR Y), some ⟨36, true, [.bool (fate L u).lo, .int .i64 (fate L u).co, .int .i64 (fate L u).de, .int .i64 (fate L u).sp]⟩])) (fun i => Y.length - i) (fun i => i ≤ Y.length) 0
        (View.ofP [0, 1, 2] _ _ (by decide) rfl ⟨⟨_, by kernel_rfl, ⟨rfl, rfl⟩⟩, ⟨_, by kernel_rfl, CellsOk.eq rfl (ics_flat _)⟩, ⟨_, by kernel_rfl, ⟨rfl, rfl⟩⟩, trivial⟩ ⟨⟨by kernel_rfl, rfl⟩, ⟨by kernel_rfl, rfl⟩, ⟨by kernel_rfl, rfl⟩, ⟨by kernel_rfl, rfl⟩, ⟨by kernel_rfl, rfl⟩, ⟨by kernel_rfl, rfl⟩, trivial⟩) (Nat.zero_le _) ?_
      intro i hi
      by_cases hc : i < Y.length
      · have d2 : decide ((i : Int) < (Y.length : Int)) = true := decide_eq_true (by omega)
        have g1 : 0 ≤ (i : Int) ∧ (i : Int) < Y.length := by omega
        have g2 : cellsAt (sR Y).cells (0 + (i : Int).toNat * 2) 2 = some [.string Y[i].2, .int .i64 Y[i].1] := by
          rw [Int.toNat_natCast, Nat.zero_add]
          exact ics_at hc
        have wi : IntKind.i64.wrap ((i : Int) + 1) = ((i + 1 : Nat) : Int) := by rw [wr _ (by omega) (by omega)]; omega
        have g3 : (sR Y).cells[0 + (i : Int).toNat * 2 + 1]? = some (.int .i64 Y[i].1) := by
          have := cellsAt_one (i := 1) g2 rfl
          rwa [Nat.add_zero] at this
        have ex : (Y.take (i + 1)).foldl mx ((t : Int) + 1 + (fate L u).de) = mx ((Y.take i).foldl mx ((t : Int) + 1 + (fate L u).de)) Y[i] := by
          rw [List.take_add_one, List.getElem?_eq_getElem hc, List.foldl_append]
          rfl
        refine Wp.seq (Wp.seq (Wp.text (kp 61 (.pointer (some ⟨0, 0, none⟩)) (kp 62 (.pointer (some ⟨0, 0, none⟩)) (kp 63 (.pointer (some ⟨0, 0, none⟩)) (kp 64 (.int .i64 0) (kp 65 (.bool true) (kp 66 (.bool true) (kp 67 (.int .i64 i) (kp 68 (.pointer (some ⟨0, 0, none⟩)) (kp 69 (.pointer (some ⟨0, 0, none⟩)) (kp 70 (.pointer (some ⟨0, 4, none⟩)) (kp 71 (.slice (some ⟨1, 0, none⟩) (List.length Y) (List.length Y)) (kp 72 (.int .i64 (List.length Y)) (kp 73 (.bool true) (kp 74 (.bool true) (WpOps.nil (thenK_at (on' (Wp.skip (thenK_at (Wp.seq (Wp.block (Wp.text (kp 77 (.int .i64 (List.foldl mx ((↑t : Int) + 1 + Ft.de (fate L u)) (List.take i Y))) (kp 78 (.pointer (some ⟨0, 0, none⟩)) (kp 79 (.pointer (some ⟨0, 0, none⟩)) (kp 80 (.pointer (some ⟨0, 4, none⟩)) (kp 81 (.slice (some ⟨1, 0, none⟩) (List.length Y) (List.length Y)) (kp 82 (.int .i64 i) (kp 83 (.pointer (some (Addr.mk 1 (0 + Int.toNat (↑i : Int) * 2) none))) (kp 84 (.pointer (some (Addr.mk 1 (0 + Int.toNat (↑i : Int) * 2 + 1) none))) (kp 85 (.int .i64 (Prod.fst Y[i])) (kp 86 (.int .i64 (if Prod.fst Y[i] > List.foldl mx ((↑t : Int) + 1 + Ft.de (fate L u)) (List.take i Y) then Prod.fst Y[i] else List.foldl mx ((↑t : Int) + 1 + Ft.de (fate L u)) (List.take i Y))) (kp 6 (.int .i64 (if Prod.fst Y[i] > List.foldl mx ((↑t : Int) + 1 + Ft.de (fate L u)) (List.take i Y) then Prod.fst Y[i] else List.foldl mx ((↑t : Int) + 1 + Ft.de (fate L u)) (List.take i Y))) ?_)) (hop := fun _ => o_load1 (1) (0 + Int.toNat (↑i : Int) * 2 + 1) g3))) (hop := fun _ => o_indexAddr (a := (↑i : Int)) (bl := 1) (off := 0) (size := 2) 80 (List.length Y) g1))))))))))))))))) (hop := fun _ => by_fact d2))))))))))))))))
        refine WpOps.nil (blockK_norm (thenK_at (Wp.text (kp 75 (.int .i64 i) (kp 76 (.int .i64 (IntKind.wrap .i64 ((↑i : Int) + 1))) (kp 7 (.int .i64 (IntKind.wrap .i64 ((↑i : Int) + 1))) (WpOps.nil (thenK_at ?_))))))))
        exact ⟨i + 1, by omega, by omega, View.ofP [0, 1, 2] _ _ (by decide) rfl ⟨⟨_, by kernel_rfl, ⟨rfl, rfl⟩⟩, ⟨_, by kernel_rfl, CellsOk.eq rfl (ics_flat _)⟩, ⟨_, by kernel_rfl, ⟨rfl, rfl⟩⟩, trivial⟩ ⟨⟨by kernel_rfl, rfl⟩, ⟨by kernel_rfl, rfl⟩, ⟨by kernel_rfl, rfl⟩, ⟨by kernel_rfl, rfl⟩, ⟨congrArg (Value.int .i64) ex.symm, rfl⟩, ⟨congrArg (Value.int .i64) wi, rfl⟩, trivial⟩⟩
      · have d2 : decide ((i : Int) < (Y.length : Int)) = false := decide_eq_false (by omega)
        obtain rfl : i = Y.length := by omega
        have e1 : atW 0 (fate L u) t Y = (Y.take Y.length).foldl mx ((t : Int) + 1 + (fate L u).de) := by rw [List.take_length]; rfl
        rw [e1]
        refine Wp.seq (Wp.seq (Wp.text (kp 61 (.pointer (some ⟨0, 0, none⟩)) (kp 62 (.pointer (some ⟨0, 0, none⟩)) (kp 63 (.pointer (some ⟨0, 0, none⟩)) (kp 64 (.int .i64 0) (kp 65 (.bool true) (kp 66 (.bool true) (kp 67 (.int .i64 (List.length Y)) (kp 68 (.pointer (some ⟨0, 0, none⟩)) (kp 69 (.pointer (some ⟨0, 0, none⟩)) (kp 70 (.pointer (some ⟨0, 4, none⟩)) (kp 71 (.slice (some ⟨1, 0, none⟩) (List.length Y) (List.length Y)) (kp 72 (.int .i64 (List.length Y)) (kp 73 (.bool false) (kp 74 (.bool false) (WpOps.nil (thenK_at (off' (Wp.exit (thenK_exit (thenK_exit (blockK_hit ?_)))))))) (hop := fun _ => by_fact d2))))))))))))))))
        exact ⟨rfl, View.ofP [0, 1, 2] _ _ (by decide) rfl ⟨⟨_, by kernel_rfl, ⟨rfl, rfl⟩⟩, ⟨_, by kernel_rfl, CellsOk.eq rfl (ics_flat _)⟩, ⟨_, by kernel_rfl, ⟨rfl, rfl⟩⟩, trivial⟩ ⟨⟨by kernel_rfl, rfl⟩, ⟨by kernel_rfl, rfl⟩, ⟨by kernel_rfl, rfl⟩, ⟨by kernel_rfl, rfl⟩, ⟨by kernel_rfl, rfl⟩, trivial⟩⟩
    · have e0 : ((1 : Int) == 0) = false := rfl
      have e1 : atW 1 (fate L u) t Y = (t : Int) + 1 + (fate L u).de := rfl
      rw [e1]
      refine Wp.seq (Wp.text (kp 7 (.int .i64 0) (WpOps.nil (thenK_at (Wp.block ?_)))))
      refine Wp.unroll (WpL.step ?_)
      refine Wp.seq (Wp.seq (Wp.text (kp 61 (.pointer (some ⟨0, 0, none⟩)) (kp 62 (.pointer (some ⟨0, 0, none⟩)) (kp 63 (.pointer (some ⟨0, 0, none⟩)) (kp 64 (.int .i64 1) (kp 65 (.bool false) (kp 66 (.bool false) (um 67 (um 68 (um 69 (um 70 (um 71 (um 72 (um 73 (kp 74 (.bool false) (WpOps.nil (thenK_at (off' (Wp.exit (thenK_exit (thenK_exit (blockK_hit ?_)))))))))))))))))))))))
      exact ⟨rfl, View.ofP [0, 1, 2] _ _ (by decide) rfl ⟨⟨_, by kernel_rfl, ⟨rfl, rfl⟩⟩, ⟨_, by kernel_rfl, CellsOk.eq rfl (ics_flat _)⟩, ⟨_, by kernel_rfl, ⟨rfl, rfl⟩⟩, trivial⟩ ⟨⟨by kernel_rfl, rfl⟩, ⟨by kernel_rfl, rfl⟩, ⟨by kernel_rfl, rfl⟩, ⟨by kernel_rfl, rfl⟩, ⟨by kernel_rfl, rfl⟩, trivial⟩⟩
  obtain ⟨C, hC⟩ : ∃ C : Nat, (fate L u).co = C := ⟨(fate L u).co.toNat, by omega⟩
  have hC3 : C ≤ 3 := by omega
  obtain ⟨a1, a2⟩ := atW_in k (fate L u) t Y ht o3 o4 hin
  rw [hC]
  generalize atW k (fate L u) t Y = a at a1 a2 ⊢
  generalize unit' (fate L u) b = v
  refine Wp.seq (Wp.seq (Wp.text (kp 8 (.int .i64 0) (WpOps.nil (thenK_at (Wp.block ?_))))))
  refine Wp.loop (G := Nat) (fun i => layj [(0, .pointer (some ⟨0, 0, none⟩)), (1, .string v), (4, .int .i64 0), (5, .pointer (some ⟨2, 0, none⟩)), (6, .int .i64 a), (8, .int .i64 i)]) (fun _ => heapO [some ⟨78, true, [.int .i64 k, FS 36 L.length 0 (fts L).toArray, .int .i64 t, .int .i64 (u + 1 : Nat), .slice (some ⟨1, 0, none⟩) Y.length Y.length]⟩, some (sR Y), some ⟨36, true, [.bool (fate L u).lo, .int .i64 (C : Nat), .int .i64 (fate L u).de, .int .i64 (fate L u).sp]⟩]) (fun i => C + 1 - i) (fun i => i ≤ C + 1) 0
    (View.ofP [0, 1, 2] _ _ (by decide) rfl ⟨⟨_, by kernel_rfl, ⟨rfl, rfl⟩⟩, ⟨_, by kernel_rfl, CellsOk.eq rfl (ics_flat _)⟩, ⟨_, by kernel_rfl, ⟨rfl, rfl⟩⟩, trivial⟩ ⟨⟨by kernel_rfl, rfl⟩, ⟨by kernel_rfl, rfl⟩, ⟨by kernel_rfl, rfl⟩, ⟨by kernel_rfl, rfl⟩, ⟨by kernel_rfl, rfl⟩, ⟨by kernel_rfl, rfl⟩, trivial⟩) (Nat.zero_le _) ?_
  intro i hi
  by_cases hc : i < C + 1
  · have q3 : decide ((i : Int) ≤ ((C : Nat) : Int)) = true := decide_eq_true (by omega)
    have wi : IntKind.i64.wrap ((i : Int) + 1) = ((i + 1 : Nat) : Int) := by rw [wr _ (by omega) (by omega)]; omega
    have c1 := lent46f k L t (u + 1 : Nat) Y v (IntKind.i64.wrap (a + IntKind.i64.wrap ((i : Int) * k))) hY
    unfold sB wS at c1
    refine Wp.seq (Wp.seq (Wp.text (kp 87 (.int .i64 i) (kp 88 (.pointer (some ⟨2, 1, none⟩)) (kp 89 (.int .i64 C) (kp 90 (.bool true) (WpOps.nil (thenK_at (on' (Wp.skip (thenK_at (Wp.seq (Wp.block (Wp.text (kp 93 (.pointer (some ⟨0, 0, none⟩)) (kp 94 (.string v) (kp 95 (.int .i64 a) (kp 96 (.int .i64 i) (kp 97 (.pointer (some ⟨0, 0, none⟩)) (kp 98 (.pointer (some ⟨0, 0, none⟩)) (kp 99 (.pointer (some ⟨0, 0, none⟩)) (kp 100 (.int .i64 k) (kp 101 (.int .i64 (IntKind.wrap .i64 ((↑i : Int) * k))) (kp 102 (.int .i64 (IntKind.wrap .i64 (a + IntKind.wrap .i64 ((↑i : Int) * k)))) (cl 103 46 [Value.pointer (some ⟨0, 0, none⟩), Value.string v, Value.int .i64 (IntKind.wrap .i64 (a + IntKind.wrap .i64 ((↑i : Int) * k)))] ?_))))))))))))))))))) (hop := fun _ => by_fact q3)))))))
    refine WpCall.lentP [0, 1] c1 (by decide) ⟨⟨_, by kernel_rfl, ⟨rfl, rfl⟩⟩, ⟨_, by kernel_rfl, CellsOk.eq rfl (ics_flat _)⟩, trivial⟩ rfl (.tuple #[]) [some ⟨78, true, [.int .i64 k, FS 36 L.length 0 (fts L).toArray, .int .i64 t, .int .i64 (u + 1 : Nat), .slice (some ⟨1, 0, none⟩) Y.length Y.length]⟩, some (sR Y)] (.cons rfl (.cons (congrArg some (unB_flat (ics_flat _))) .nil)) rfl _ rfl ?_
    refine WpOps.nil (blockK_norm (thenK_at (Wp.text (kp 91 (.int .i64 i) (kp 92 (.int .i64 (IntKind.wrap .i64 ((↑i : Int) + 1))) (kp 8 (.int .i64 (IntKind.wrap .i64 ((↑i : Int) + 1))) (WpOps.nil (thenK_at ?_))))))))
    exact ⟨i + 1, by omega, by omega, View.ofP [0, 1, 2] _ _ (by decide) rfl ⟨⟨_, by kernel_rfl, ⟨rfl, rfl⟩⟩, ⟨_, by kernel_rfl, CellsOk.eq rfl (ics_flat _)⟩, ⟨_, by kernel_rfl, ⟨rfl, rfl⟩⟩, trivial⟩ ⟨⟨by kernel_rfl, rfl⟩, ⟨by kernel_rfl, rfl⟩, ⟨by kernel_rfl, rfl⟩, ⟨by kernel_rfl, rfl⟩, ⟨by kernel_rfl, rfl⟩, ⟨congrArg (Value.int .i64) wi, rfl⟩, trivial⟩⟩
  · have q3 : decide ((i : Int) ≤ ((C : Nat) : Int)) = false := decide_eq_false (by omega)
    refine Wp.seq (Wp.seq (Wp.text (kp 87 (.int .i64 i) (kp 88 (.pointer (some ⟨2, 1, none⟩)) (kp 89 (.int .i64 C) (kp 90 (.bool false) (WpOps.nil (thenK_at (off' (Wp.exit (thenK_exit (thenK_exit (blockK_hit (thenK_at (Wp.seq (Wp.text (kp 4 (.int .i64 0) (WpOps.nil (thenK_at (Wp.ret (endK_retn [Value.int .i64 0] (Value.int .i64 0) (by kernel_rfl) (by kernel_rfl) ?_))))))))))))))) (hop := fun _ => by_fact q3)))))))
    exact ⟨[0, 1], by decide, rfl, BlksP.told ⟨⟨_, by kernel_rfl, ⟨rfl, rfl⟩⟩, ⟨_, by kernel_rfl, CellsOk.eq rfl (ics_flat _)⟩, trivial⟩, .w (.un rfl rfl)⟩
end Go.Proofs.Ytdkmdpklojeepaa.D
