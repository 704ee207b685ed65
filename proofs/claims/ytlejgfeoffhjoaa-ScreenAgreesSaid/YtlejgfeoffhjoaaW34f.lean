/- A world is made. -/
import Derived.Test.YtlejgfeoffhjoaaFwLem
import Derived.Test.YtlejgfeoffhjoaaFwHole
import Derived.Test.YtlejgfeoffhjoaaFwHoleL
import Derived.Test.YtlejgfeoffhjoaaW34a
import Derived.Test.YtlejgfeoffhjoaaW34n
namespace Go.Proofs.Ytlejgfeoffhjoaa.D
open Go.Fw Go.RowKit

theorem f20 : E.funcs 20 = some Try.f20 := by kernel_rfl
/-- Nothing is shown. -/
def dBlank (R C : Nat) : Dsp := ⟨mkR R C (fun _ _ => 32), mkR R C (fun _ _ => 48), 0, 0⟩
def okSize (row col : Int) : Prop := (1 ≤ row ∧ row ≤ 40) ∧ (1 ≤ col ∧ col ≤ 80)
theorem new20 (row col : Int) (h : okSize row col) : Lent E 20 [.int .i64 row, .int .i64 col] [] (.tuple #[.pointer (some ⟨0, 0, none⟩), .int .i64 0]) [wB 0 (.slice none 0 0), sdB ⟨dBlank row.toNat col.toNat, dBlank row.toNat col.toNat, 0⟩ ⟨dBlank row.toNat col.toNat, dBlank row.toNat col.toNat, 0⟩ (.slice none 0 0) (.slice none 0 0)] := by
  have c1 := Blank13 row col
  rw [show BlankV row col = _ from if_pos h] at c1
  refine Lent.of f20 rfl (of_decide_eq_true (by kernel_rfl)) rfl rfl (Nat.zero_le _) rfl rfl rfl ?_
  unfold dv at c1
  obtain ⟨r, hr⟩ : ∃ r, mkR row.toNat col.toNat (fun _ _ => 32) = r := ⟨_, rfl⟩
  obtain ⟨m, hm⟩ : ∃ m, mkR row.toNat col.toNat (fun _ _ => 48) = m := ⟨_, rfl⟩
  unfold dBlank
  rw [hr, hm] at c1 ⊢
  refine Wp.seq (Wp.text (kp 4 (.pointer none) (kp 5 (.int .i64 0) (WpOps.nil (thenK_at (Wp.seq (Wp.text (kp 9 (.int .i64 row) (kp 10 (.int .i64 col) (fr 11 13 [Value.int .i64 row, Value.int .i64 col] (WpFun.of (c1) (kp 8 (.tuple #[Value.agg #[strs 0 r, strs 0 m, Value.int .i64 0, Value.int .i64 0], Value.int .i64 0]) (kp 12 (.agg #[strs 0 r, strs 0 m, Value.int .i64 0, Value.int .i64 0]) (kp 13 (.int .i64 0) (md 6 (.pointer (some ⟨0, 0, none⟩)) (Blk.mk 24 true [Value.slice none 0 0, Value.slice none 0 0, Value.int .i64 0, Value.int .i64 0]) (ld (.tuple #[]) (0) (Blk.mk 24 true [strs 0 r, strs 0 m, Value.int .i64 0, Value.int .i64 0]) (kp 7 (.int .i64 0) (WpOps.nil (thenK_at (Wp.seq (Wp.seq (Wp.text (kp 14 (.int .i64 0) (kp 15 (.bool false) (WpOps.nil (thenK_at (off' (Wp.skip (thenK_at (Wp.seq (Wp.text (kp 17 (.agg #[strs 0 r, strs 0 m, Value.int .i64 0, Value.int .i64 0]) (kp 18 (.agg #[strs 0 r, strs 0 m, Value.int .i64 0, Value.int .i64 0]) ?_)))))))))))))))))))))))))))))))))
  refine kp 19 (.agg #[strs 0 r, strs 0 m, Value.int .i64 0, Value.int .i64 0, strs 0 r, strs 0 m, Value.int .i64 0, Value.int .i64 0, Value.int .i64 0, Value.slice none 0 0]) (kp 20 (.agg #[strs 0 r, strs 0 m, Value.int .i64 0, Value.int .i64 0]) (kp 21 (.agg #[strs 0 r, strs 0 m, Value.int .i64 0, Value.int .i64 0]) (kp 22 (.agg #[strs 0 r, strs 0 m, Value.int .i64 0, Value.int .i64 0, strs 0 r, strs 0 m, Value.int .i64 0, Value.int .i64 0, Value.int .i64 0, Value.slice none 0 0]) ?_)))
  refine md 23 (.slice (some ⟨1, 0, none⟩) 2 2) (Blk.mk 83 true [strs 0 r, strs 0 m, Value.int .i64 0, Value.int .i64 0, strs 0 r, strs 0 m, Value.int .i64 0, Value.int .i64 0, Value.int .i64 0, Value.slice none 0 0, strs 0 r, strs 0 m, Value.int .i64 0, Value.int .i64 0, strs 0 r, strs 0 m, Value.int .i64 0, Value.int .i64 0, Value.int .i64 0, Value.slice none 0 0]) (kp 24 (.agg #[Value.slice (some ⟨1, 0, none⟩) 2 2, Value.int .i64 0, Value.slice none 0 0]) (md 25 (.pointer (some ⟨2, 0, none⟩)) (Blk.mk 64 true [Value.slice (some ⟨1, 0, none⟩) 2 2, Value.int .i64 0, Value.slice none 0 0]) (kp 4 (.pointer (some ⟨2, 0, none⟩)) (kp 5 (.int .i64 0) (WpOps.nil (thenK_at (Wp.ret ?_)))))))
  refine endK_retn [Value.pointer (some (Addr.mk 2 0 none)), Value.int .i64 0] (Value.tuple #[Value.pointer (some (Addr.mk 2 0 none)), Value.int .i64 0]) (by kernel_rfl) (by kernel_rfl) ?_
  exact ⟨[2, 1], by decide, by kernel_rfl, ⟨⟨_, by kernel_rfl, .cons (.inl ⟨rfl, rfl⟩) (.cons (.inl ⟨rfl, rfl⟩) (.cons (.inl ⟨rfl, rfl⟩) .nil))⟩, ⟨_, by kernel_rfl, told_flat rfl⟩, trivial⟩, .tuple _ _ rfl rfl (.cons (.un rfl rfl) (.cons (.un rfl rfl) .nil))⟩
theorem new20b (row col : Int) (h : ¬ okSize row col) : Lent E 20 [.int .i64 row, .int .i64 col] [] (.tuple #[.pointer none, .int .i64 1]) [] := by
  have c1 := Blank13 row col
  rw [show BlankV row col = _ from if_neg h] at c1
  refine Lent.of f20 rfl (of_decide_eq_true (by kernel_rfl)) rfl rfl (Nat.zero_le _) rfl rfl rfl ?_
  unfold dv at c1
  refine Wp.seq (Wp.text (kp 4 (.pointer none) (kp 5 (.int .i64 0) (WpOps.nil (thenK_at (Wp.seq (Wp.text (kp 9 (.int .i64 row) (kp 10 (.int .i64 col) (fr 11 13 [Value.int .i64 row, Value.int .i64 col] (WpFun.of (c1) (kp 8 (.tuple #[Value.agg #[Value.iface 9 (Value.iface 0 (Value.iface 2 (Value.agg (List.toArray (List.map Value.string []))))), Value.iface 9 (Value.iface 0 (Value.iface 2 (Value.agg (List.toArray (List.map Value.string []))))), Value.int .i64 0, Value.int .i64 0], Value.int .i64 1]) (kp 12 (.agg #[Value.iface 9 (Value.iface 0 (Value.iface 2 (Value.agg (List.toArray (List.map Value.string []))))), Value.iface 9 (Value.iface 0 (Value.iface 2 (Value.agg (List.toArray (List.map Value.string []))))), Value.int .i64 0, Value.int .i64 0]) (kp 13 (.int .i64 1) (md 6 (.pointer (some ⟨0, 0, none⟩)) (Blk.mk 24 true [Value.slice none 0 0, Value.slice none 0 0, Value.int .i64 0, Value.int .i64 0]) (ld (.tuple #[]) (0) (Blk.mk 24 true [Value.iface 9 (Value.iface 0 (Value.iface 2 (Value.agg (List.toArray (List.map Value.string []))))), Value.iface 9 (Value.iface 0 (Value.iface 2 (Value.agg (List.toArray (List.map Value.string []))))), Value.int .i64 0, Value.int .i64 0]) (kp 7 (.int .i64 1) (WpOps.nil (thenK_at (Wp.seq (Wp.seq (Wp.text (kp 14 (.int .i64 1) (kp 15 (.bool true) (WpOps.nil (thenK_at (on' (Wp.seq (Wp.text (kp 16 (.int .i64 1) (kp 4 (.pointer none) (kp 5 (.int .i64 1) (WpOps.nil (thenK_at (Wp.ret (thenK_ret (endK_retn [Value.pointer none, Value.int .i64 1] (Value.tuple #[Value.pointer none, Value.int .i64 1]) (by kernel_rfl) (by kernel_rfl) ?_)))))))))))))))))))))))))))))))))))))
  exact ⟨[], by decide, by kernel_rfl, trivial, .tuple _ _ rfl rfl (.cons (.un rfl rfl) (.cons (.un rfl rfl) .nil))⟩
end Go.Proofs.Ytlejgfeoffhjoaa.D
