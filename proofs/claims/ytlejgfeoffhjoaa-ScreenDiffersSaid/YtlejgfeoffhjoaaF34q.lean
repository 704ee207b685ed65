/- ref.Same of a display with itself; ref.Valid. -/
import Derived.Test.YtlejgfeoffhjoaaFwLem
import Derived.Test.YtlejgfeoffhjoaaF34p
namespace Go.Proofs.Ytlejgfeoffhjoaa.D
open Go.Fw Go.RowKit

theorem str_neF (a : ByteArray) : (!(a.toList == a.toList)) = false := by rw [beq_self_eq_true]; rfl
theorem bneF (a : Int) : (a != a) = false := by simp
theorem f17 : E.funcs 17 = some Try.f17 := by kernel_rfl
set_option maxHeartbeats 4000000 in
theorem same17 (x y x' y' : Nat) (r m : List ByteArray) (i j : Int) (hr : r.length ≤ 8796093022208) (hm : m.length ≤ 8796093022208) : Fun E 17 [dv x y r m i j, dv x' y' r m i j] (.bool true) := by
  refine Fun.of f17 rfl (of_decide_eq_true (by kernel_rfl)) rfl ?_
  have c1 := bneF (r.length : Int)
  have c2 := bneF (m.length : Int)
  have c3 := bneF i
  have c4 := bneF j
  unfold dv strs
  refine Wp.seq (Wp.text ?_)
  refine md 2 (.pointer (some ⟨0, 0, none⟩)) (Blk.mk 30 true [Value.iface 9 (Value.iface (List.length r) (Value.iface x (Value.agg (List.toArray (List.map Value.string r))))), Value.iface 9 (Value.iface (List.length m) (Value.iface y (Value.agg (List.toArray (List.map Value.string m))))), Value.int .i64 i, Value.int .i64 j]) ?_
  refine md 3 (.pointer (some ⟨1, 0, none⟩)) (Blk.mk 30 true [Value.iface 9 (Value.iface (List.length r) (Value.iface x' (Value.agg (List.toArray (List.map Value.string r))))), Value.iface 9 (Value.iface (List.length m) (Value.iface y' (Value.agg (List.toArray (List.map Value.string m))))), Value.int .i64 i, Value.int .i64 j]) ?_
  refine kp 4 (.bool false) ?_
  refine WpOps.nil (thenK_at (Wp.seq (Wp.seq (Wp.text ?_))))
  refine kp 7 (.pointer (some ⟨0, 0, none⟩)) ?_
  refine kp 8 (.iface 9 (Value.iface (List.length r) (Value.iface x (Value.agg (List.toArray (List.map Value.string r)))))) ?_
  refine kp 9 (.int IntKind.i64 (↑(List.length r) : Int)) ?_
  refine kp 10 (.pointer (some ⟨1, 0, none⟩)) ?_
  refine kp 11 (.iface 9 (Value.iface (List.length r) (Value.iface x' (Value.agg (List.toArray (List.map Value.string r)))))) ?_
  refine kp 12 (.int IntKind.i64 (↑(List.length r) : Int)) ?_
  refine kp 13 (.bool false) ?_ (hop := fun _ => by_fact c1)
  refine kp 14 (.bool false) ?_
  refine kp 15 (.pointer (some ⟨0, 1, none⟩)) ?_
  refine kp 16 (.iface 9 (Value.iface (List.length m) (Value.iface y (Value.agg (List.toArray (List.map Value.string m)))))) ?_
  refine kp 17 (.int IntKind.i64 (↑(List.length m) : Int)) ?_
  refine kp 18 (.pointer (some ⟨1, 1, none⟩)) ?_
  refine kp 19 (.iface 9 (Value.iface (List.length m) (Value.iface y' (Value.agg (List.toArray (List.map Value.string m)))))) ?_
  refine kp 20 (.int IntKind.i64 (↑(List.length m) : Int)) ?_
  refine kp 21 (.bool false) ?_ (hop := fun _ => by_fact c2)
  refine kp 22 (.bool false) ?_
  refine kp 23 (.bool false) ?_
  refine kp 24 (.pointer (some ⟨0, 2, none⟩)) ?_
  refine kp 25 (.int IntKind.i64 i) ?_
  refine kp 26 (.pointer (some ⟨1, 2, none⟩)) ?_
  refine kp 27 (.int IntKind.i64 i) ?_
  refine kp 28 (.bool false) ?_ (hop := fun _ => by_fact c3)
  refine kp 29 (.bool false) ?_
  refine kp 30 (.bool false) ?_
  refine kp 31 (.pointer (some ⟨0, 3, none⟩)) ?_
  refine kp 32 (.int IntKind.i64 j) ?_
  refine kp 33 (.pointer (some ⟨1, 3, none⟩)) ?_
  refine kp 34 (.int IntKind.i64 j) ?_
  refine kp 35 (.bool false) ?_ (hop := fun _ => by_fact c4)
  refine kp 36 (.bool false) ?_
  refine WpOps.nil (thenK_at (off' (Wp.skip (thenK_at (Wp.seq (Wp.seq (Wp.text ?_)))))))
  refine kp 5 (.int IntKind.i64 0) ?_
  refine WpOps.nil (thenK_at (Wp.block ?_))
  refine Wp.loop (G := Nat) (fun k => layj [(2, .pointer (some ⟨0, 0, none⟩)), (3, .pointer (some ⟨1, 0, none⟩)), (5, .int .i64 k)]) (fun _ => heapOf [⟨30, true, [strs x r, strs y m, .int .i64 i, .int .i64 j]⟩, ⟨30, true, [strs x' r, strs y' m, .int .i64 i, .int .i64 j]⟩]) (fun k => r.length - k) (fun k => k ≤ r.length) 0
    (View.of [0, 1] [⟨30, true, [strs x r, strs y m, .int .i64 i, .int .i64 j]⟩, ⟨30, true, [strs x' r, strs y' m, .int .i64 i, .int .i64 j]⟩] _ (by decide) rfl ⟨⟨_, by kernel_rfl, CellsOk.eq rfl rfl⟩, ⟨_, by kernel_rfl, CellsOk.eq rfl rfl⟩, trivial⟩ ⟨⟨by kernel_rfl, rfl⟩, ⟨by kernel_rfl, rfl⟩, ⟨by kernel_rfl, rfl⟩, trivial⟩) (Nat.zero_le _) ?_
  intro k hk
  unfold strs
  refine Wp.seq (Wp.seq (Wp.text ?_))
  refine kp 37 (.int IntKind.i64 (↑k : Int)) ?_
  refine kp 38 (.pointer (some ⟨0, 0, none⟩)) ?_
  refine kp 39 (.iface 9 (Value.iface (List.length r) (Value.iface x (Value.agg (List.toArray (List.map Value.string r)))))) ?_
  refine kp 40 (.int IntKind.i64 (↑(List.length r) : Int)) ?_
  refine kp 41 (.bool (decide ((↑k : Int) < (↑(List.length r) : Int)))) ?_
  refine WpOps.nil (thenK_at ?_)
  refine Wp.split (decide ((↑k : Int) < (↑(List.length r) : Int))) (by kernel_rfl) (fun hc => ?_) (fun hc => ?_)
  · have hlt : (k : Int) < r.length := of_decide_eq_true hc
    have l3 : 0 ≤ (k : Int) ∧ (k : Int) < r.length := ⟨Int.natCast_nonneg _, hlt⟩
    have v3 := strs_at r k (by omega)
    have e3 := str_neF (rowAt r k)
    refine Wp.skip (thenK_at (Wp.seq (Wp.block (Wp.seq ?_))))
    refine Wp.region (by kernel_rfl) ?_
    refine kp 44 (.pointer (some ⟨0, 0, none⟩)) ?_
    refine kp 45 (.iface 9 (Value.iface (List.length r) (Value.iface x (Value.agg (List.toArray (List.map Value.string r)))))) ?_
    refine kp 46 (.int IntKind.i64 (↑k : Int)) ?_
    refine kp 47 (.iface 9 (Value.iface (Int.toNat (↑k : Int) * 1) (Value.agg (List.toArray (List.map Value.string r))))) ?_ (hop := fun _ => o_indexI (e := 9) (size := 1) (a := (↑k : Int)) l3)
    refine kp 48 (.string (rowAt r k)) ?_ (hop := fun _ => o_loadI1 (Int.toNat (↑k : Int) * 1) v3)
    refine kp 49 (.pointer (some ⟨1, 0, none⟩)) ?_
    refine kp 50 (.iface 9 (Value.iface (List.length r) (Value.iface x' (Value.agg (List.toArray (List.map Value.string r)))))) ?_
    refine kp 51 (.int IntKind.i64 (↑k : Int)) ?_
    refine kp 52 (.iface 9 (Value.iface (Int.toNat (↑k : Int) * 1) (Value.agg (List.toArray (List.map Value.string r))))) ?_ (hop := fun _ => o_indexI (e := 9) (size := 1) (a := (↑k : Int)) l3)
    refine kp 53 (.string (rowAt r k)) ?_ (hop := fun _ => o_loadI1 (Int.toNat (↑k : Int) * 1) v3)
    refine kp 54 (.bool false) ?_ (hop := fun _ => by_fact e3)
    refine WpOps.nil (thenK_at (off' (Wp.skip (blockK_norm (thenK_at (Wp.text ?_))))))
    refine kp 42 (.int IntKind.i64 (↑k : Int)) ?_
    refine kp 43 (.int IntKind.i64 (IntKind.wrap .i64 ((↑k : Int) + 1))) ?_
    refine kp 5 (.int IntKind.i64 (IntKind.wrap .i64 ((↑k : Int) + 1))) ?_
    refine WpOps.nil (thenK_at ?_)
    exact ⟨k + 1, by omega, by omega, View.of [0, 1] [⟨30, true, [strs x r, strs y m, .int .i64 i, .int .i64 j]⟩, ⟨30, true, [strs x' r, strs y' m, .int .i64 i, .int .i64 j]⟩] _ (by decide) rfl ⟨⟨_, by kernel_rfl, CellsOk.eq rfl rfl⟩, ⟨_, by kernel_rfl, CellsOk.eq rfl rfl⟩, trivial⟩ ⟨⟨by kernel_rfl, rfl⟩, ⟨by kernel_rfl, rfl⟩, ⟨congrArg (Value.int .i64) (wr _ (by omega) (by omega)), rfl⟩, trivial⟩⟩
  · refine Wp.exit (thenK_exit (thenK_exit (blockK_hit (thenK_at (Wp.seq (Wp.seq (Wp.text ?_)))))))
    refine kp 6 (.int IntKind.i64 0) ?_
    refine WpOps.nil (thenK_at (Wp.block ?_))
    refine Wp.loop (G := Nat) (fun k => layj [(2, .pointer (some ⟨0, 0, none⟩)), (3, .pointer (some ⟨1, 0, none⟩)), (6, .int .i64 k)]) (fun _ => heapOf [⟨30, true, [strs x r, strs y m, .int .i64 i, .int .i64 j]⟩, ⟨30, true, [strs x' r, strs y' m, .int .i64 i, .int .i64 j]⟩]) (fun k => m.length - k) (fun k => k ≤ m.length) 0
      (View.of [0, 1] [⟨30, true, [strs x r, strs y m, .int .i64 i, .int .i64 j]⟩, ⟨30, true, [strs x' r, strs y' m, .int .i64 i, .int .i64 j]⟩] _ (by decide) rfl ⟨⟨_, by kernel_rfl, CellsOk.eq rfl rfl⟩, ⟨_, by kernel_rfl, CellsOk.eq rfl rfl⟩, trivial⟩ ⟨⟨by kernel_rfl, rfl⟩, ⟨by kernel_rfl, rfl⟩, ⟨by kernel_rfl, rfl⟩, trivial⟩) (Nat.zero_le _) ?_
    intro k hk
    unfold strs
    refine Wp.seq (Wp.seq (Wp.text ?_))
    refine kp 55 (.int IntKind.i64 (↑k : Int)) ?_
    refine kp 56 (.pointer (some ⟨0, 1, none⟩)) ?_
    refine kp 57 (.iface 9 (Value.iface (List.length m) (Value.iface y (Value.agg (List.toArray (List.map Value.string m)))))) ?_
    refine kp 58 (.int IntKind.i64 (↑(List.length m) : Int)) ?_
    refine kp 59 (.bool (decide ((↑k : Int) < (↑(List.length m) : Int)))) ?_
    refine WpOps.nil (thenK_at ?_)
    refine Wp.split (decide ((↑k : Int) < (↑(List.length m) : Int))) (by kernel_rfl) (fun hd => ?_) (fun hd => ?_)
    · have hlt : (k : Int) < m.length := of_decide_eq_true hd
      have l3 : 0 ≤ (k : Int) ∧ (k : Int) < m.length := ⟨Int.natCast_nonneg _, hlt⟩
      have v3 := strs_at m k (by omega)
      have e3 := str_neF (rowAt m k)
      refine Wp.skip (thenK_at (Wp.seq (Wp.block (Wp.seq ?_))))
      refine Wp.region (by kernel_rfl) ?_
      refine kp 62 (.pointer (some ⟨0, 1, none⟩)) ?_
      refine kp 63 (.iface 9 (Value.iface (List.length m) (Value.iface y (Value.agg (List.toArray (List.map Value.string m)))))) ?_
      refine kp 64 (.int IntKind.i64 (↑k : Int)) ?_
      refine kp 65 (.iface 9 (Value.iface (Int.toNat (↑k : Int) * 1) (Value.agg (List.toArray (List.map Value.string m))))) ?_ (hop := fun _ => o_indexI (e := 9) (size := 1) (a := (↑k : Int)) l3)
      refine kp 66 (.string (rowAt m k)) ?_ (hop := fun _ => o_loadI1 (Int.toNat (↑k : Int) * 1) v3)
      refine kp 67 (.pointer (some ⟨1, 1, none⟩)) ?_
      refine kp 68 (.iface 9 (Value.iface (List.length m) (Value.iface y' (Value.agg (List.toArray (List.map Value.string m)))))) ?_
      refine kp 69 (.int IntKind.i64 (↑k : Int)) ?_
      refine kp 70 (.iface 9 (Value.iface (Int.toNat (↑k : Int) * 1) (Value.agg (List.toArray (List.map Value.string m))))) ?_ (hop := fun _ => o_indexI (e := 9) (size := 1) (a := (↑k : Int)) l3)
      refine kp 71 (.string (rowAt m k)) ?_ (hop := fun _ => o_loadI1 (Int.toNat (↑k : Int) * 1) v3)
      refine kp 72 (.bool false) ?_ (hop := fun _ => by_fact e3)
      refine WpOps.nil (thenK_at (off' (Wp.skip (blockK_norm (thenK_at (Wp.text ?_))))))
      refine kp 60 (.int IntKind.i64 (↑k : Int)) ?_
      refine kp 61 (.int IntKind.i64 (IntKind.wrap .i64 ((↑k : Int) + 1))) ?_
      refine kp 6 (.int IntKind.i64 (IntKind.wrap .i64 ((↑k : Int) + 1))) ?_
      refine WpOps.nil (thenK_at ?_)
      exact ⟨k + 1, by omega, by omega, View.of [0, 1] [⟨30, true, [strs x r, strs y m, .int .i64 i, .int .i64 j]⟩, ⟨30, true, [strs x' r, strs y' m, .int .i64 i, .int .i64 j]⟩] _ (by decide) rfl ⟨⟨_, by kernel_rfl, CellsOk.eq rfl rfl⟩, ⟨_, by kernel_rfl, CellsOk.eq rfl rfl⟩, trivial⟩ ⟨⟨by kernel_rfl, rfl⟩, ⟨by kernel_rfl, rfl⟩, ⟨congrArg (Value.int .i64) (wr _ (by omega) (by omega)), rfl⟩, trivial⟩⟩
    · refine Wp.exit (thenK_exit (thenK_exit (blockK_hit (thenK_at (Wp.seq (Wp.text ?_))))))
      refine kp 4 (.bool true) ?_
      refine WpOps.nil (thenK_at (Wp.ret ?_))
      refine endK_retn [Value.bool true] (Value.bool true) (by kernel_rfl) (by kernel_rfl) ?_
      rfl
theorem f48 : E.funcs 48 = some Try.f48 := by kernel_rfl
def shB (n : Int) : Bool := cond (decide (n ≥ 32)) (decide (n ≤ 126)) false
theorem shown48 (n : Int) : Fun E 48 [.int .i64 n] (.bool (shB n)) := by
  refine Fun.of f48 rfl (of_decide_eq_true (by kernel_rfl)) rfl ?_
  refine Wp.seq (Wp.text ?_)
  refine kp 2 (.bool false) ?_
  refine WpOps.nil (thenK_at (Wp.seq (Wp.text ?_)))
  refine kp 3 (.int IntKind.i64 n) ?_
  refine kp 4 (.bool (decide (n ≥ 32))) ?_
  refine kp 5 (.bool (decide (n ≥ 32))) ?_
  refine WpOps.fork 3 (decide (n ≥ 32)) [6, 7, 8] 8 (decide (n ≤ 126)) (false) (by kernel_rfl) (fun g8 => ?_) (fun g8 => ?_) (fun f_8 b8 hb8 => ?_)
  · refine kp 6 (.int IntKind.i64 n) ?_ (hw := wants_tt g8)
    refine kp 7 (.bool (decide (n ≤ 126))) ?_ (hw := wants_tt g8)
    refine kp 8 (.bool (decide (n ≤ 126))) ?_ (hop := fun _ => o_pickT g8)
    refine WpOps.nil ?_
    exact ⟨rfl, (.upd rfl (.upd rfl (.upd rfl .refl))), (by kernel_rfl)⟩
  · refine um 6 ?_ (hw := wants_ft g8)
    refine um 7 ?_ (hw := wants_ft g8)
    refine kp 8 (.bool false) ?_ (hop := fun _ => o_pickF g8)
    refine WpOps.nil ?_
    exact ⟨rfl, (.upd rfl (.upd rfl (.upd rfl .refl))), (by kernel_rfl)⟩
  refine kp 2 (.bool b8) ?_
  refine WpOps.nil (thenK_at (Wp.ret ?_))
  refine endK_retn [Value.bool b8] (Value.bool b8) (by kernel_rfl) (by kernel_rfl) ?_
  subst_vars
  rfl
theorem f16 : E.funcs 16 = some Try.f16 := by kernel_rfl
set_option maxHeartbeats 4000000 in
theorem valid16 (x y : Nat) (r m : List ByteArray) (i j : Int) (hr : ∀ k, (rowAt r k).size ≤ 140737488351232) : Fun E 16 [dv x y r m i j] (.bool (decide (Good r m i j))) := by
  refine Fun.of f16 rfl (of_decide_eq_true (by kernel_rfl)) rfl ?_
  unfold dv strs
  refine Wp.seq (Wp.text ?_)
  refine md 1 (.pointer (some ⟨0, 0, none⟩)) (Blk.mk 30 true [Value.iface 9 (Value.iface (List.length r) (Value.iface x (Value.agg (List.toArray (List.map Value.string r))))), Value.iface 9 (Value.iface (List.length m) (Value.iface y (Value.agg (List.toArray (List.map Value.string m))))), Value.int .i64 i, Value.int .i64 j]) ?_
  refine kp 2 (.bool false) ?_
  refine WpOps.nil (thenK_at (Wp.seq (Wp.seq (Wp.text ?_))))
  refine kp 5 (.pointer (some ⟨0, 0, none⟩)) ?_
  refine kp 6 (.iface 9 (Value.iface (List.length r) (Value.iface x (Value.agg (List.toArray (List.map Value.string r)))))) ?_
  refine kp 7 (.int IntKind.i64 (↑(List.length r) : Int)) ?_
  refine kp 8 (.bool (decide ((↑(List.length r) : Int) < 1))) ?_
  refine kp 9 (.bool (decide ((↑(List.length r) : Int) < 1))) ?_
  refine WpOps.fork 5 (decide ((↑(List.length r) : Int) < 1)) [10, 11, 12, 13, 14] 14 (true) (decide ((↑(List.length r) : Int) > 40)) (by kernel_rfl) (fun g14 => ?_) (fun g14 => ?_) (fun f_14 b14 hb14 => ?_)
  · refine um 10 ?_ (hw := wants_tf g14)
    refine um 11 ?_ (hw := wants_tf g14)
    refine um 12 ?_ (hw := wants_tf g14)
    refine um 13 ?_ (hw := wants_tf g14)
    refine kp 14 (.bool true) ?_ (hop := fun _ => o_pickT g14)
    refine WpOps.nil ?_
    exact ⟨rfl, (.upd rfl (.upd rfl (.upd rfl (.upd rfl (.upd rfl .refl))))), (by kernel_rfl)⟩
  · refine kp 10 (.pointer (some ⟨0, 0, none⟩)) ?_ (hw := wants_ff g14)
    refine kp 11 (.iface 9 (Value.iface (List.length r) (Value.iface x (Value.agg (List.toArray (List.map Value.string r)))))) ?_ (hw := wants_ff g14)
    refine kp 12 (.int IntKind.i64 (↑(List.length r) : Int)) ?_ (hw := wants_ff g14)
    refine kp 13 (.bool (decide ((↑(List.length r) : Int) > 40))) ?_ (hw := wants_ff g14)
    refine kp 14 (.bool (decide ((↑(List.length r) : Int) > 40))) ?_ (hop := fun _ => o_pickF g14)
    refine WpOps.nil ?_
    exact ⟨rfl, (.upd rfl (.upd rfl (.upd rfl (.upd rfl (.upd rfl .refl))))), (by kernel_rfl)⟩
  refine kp 15 (.bool b14) ?_
  refine WpOps.fork 8 (b14) [16, 17, 18, 19, 20, 21, 22, 23] 23 (true) ((↑(List.length m) : Int) != (↑(List.length r) : Int)) (by kernel_rfl) (fun g23 => ?_) (fun g23 => ?_) (fun f_23 b23 hb23 => ?_)
  · refine um 16 ?_ (hw := wants_tf g23)
    refine um 17 ?_ (hw := wants_tf g23)
    refine um 18 ?_ (hw := wants_tf g23)
    refine um 19 ?_ (hw := wants_tf g23)
    refine um 20 ?_ (hw := wants_tf g23)
    refine um 21 ?_ (hw := wants_tf g23)
    refine um 22 ?_ (hw := wants_tf g23)
    refine kp 23 (.bool true) ?_ (hop := fun _ => o_pickT g23)
    refine WpOps.nil ?_
    exact ⟨rfl, (.upd rfl (.upd rfl (.upd rfl (.upd rfl (.upd rfl (.upd rfl (.upd rfl (.upd rfl .refl)))))))), (by kernel_rfl)⟩
  · refine kp 16 (.pointer (some ⟨0, 1, none⟩)) ?_ (hw := wants_ff g23)
    refine kp 17 (.iface 9 (Value.iface (List.length m) (Value.iface y (Value.agg (List.toArray (List.map Value.string m)))))) ?_ (hw := wants_ff g23)
    refine kp 18 (.int IntKind.i64 (↑(List.length m) : Int)) ?_ (hw := wants_ff g23)
    refine kp 19 (.pointer (some ⟨0, 0, none⟩)) ?_ (hw := wants_ff g23)
    refine kp 20 (.iface 9 (Value.iface (List.length r) (Value.iface x (Value.agg (List.toArray (List.map Value.string r)))))) ?_ (hw := wants_ff g23)
    refine kp 21 (.int IntKind.i64 (↑(List.length r) : Int)) ?_ (hw := wants_ff g23)
    refine kp 22 (.bool ((↑(List.length m) : Int) != (↑(List.length r) : Int))) ?_ (hw := wants_ff g23)
    refine kp 23 (.bool ((↑(List.length m) : Int) != (↑(List.length r) : Int))) ?_ (hop := fun _ => o_pickF g23)
    refine WpOps.nil ?_
    exact ⟨rfl, (.upd rfl (.upd rfl (.upd rfl (.upd rfl (.upd rfl (.upd rfl (.upd rfl (.upd rfl .refl)))))))), (by kernel_rfl)⟩
  refine kp 24 (.bool b23) ?_
  cases h1 : b23 with
  | true =>
    have hn : ¬ Good r m i j := fun h => by
      obtain ⟨⟨h2, h3, _⟩, _⟩ := h
      rw [h1, hb14, decide_eq_false (by omega), decide_eq_false (by omega), h3] at hb23
      simp at hb23
    rw [decide_eq_false hn]
    clear hb23
    subst h1
    refine um 25 ?_
    refine um 26 ?_
    refine um 27 ?_
    refine um 28 ?_
    refine um 29 ?_
    refine um 30 ?_
    refine kp 31 (.bool true) ?_
    refine kp 32 (.bool true) ?_
    refine um 33 ?_
    refine um 34 ?_
    refine um 35 ?_
    refine um 36 ?_
    refine um 37 ?_
    refine um 38 ?_
    refine kp 39 (.bool true) ?_
    refine WpOps.nil (thenK_at (on' (Wp.seq (Wp.text ?_))))
    refine kp 2 (.bool false) ?_
    refine WpOps.nil (thenK_at (Wp.ret (thenK_ret ?_)))
    refine endK_retn [Value.bool false] (Value.bool false) (by kernel_rfl) (by kernel_rfl) ?_
    rfl
  | false =>
    rw [h1, hb14, cond_or', cond_or', eq_comm, Bool.or_eq_false_iff, Bool.or_eq_false_iff, decide_eq_false_iff_not, decide_eq_false_iff_not] at hb23
    obtain ⟨⟨g1, g2⟩, g3⟩ := hb23
    have g4 : m.length = r.length := nat_ne g3
    clear g3 hb14
    subst h1
    have l1 : 0 ≤ (0 : Int) ∧ (0 : Int) < r.length := by omega
    have v0 := strs_0 r (by omega)
    refine kp 25 (.pointer (some ⟨0, 0, none⟩)) ?_
    refine kp 26 (.iface 9 (Value.iface (List.length r) (Value.iface x (Value.agg (List.toArray (List.map Value.string r)))))) ?_
    refine kp 27 (.iface 9 (Value.iface 0 (Value.agg (List.toArray (List.map Value.string r))))) ?_ (hop := fun _ => o_indexI (e := 9) (size := 1) (a := 0) l1)
    refine kp 28 (.string (rowAt r 0)) ?_ (hop := fun _ => o_loadI1 (0) v0)
    refine kp 29 (.int IntKind.i64 (↑(ByteArray.size (rowAt r 0)) : Int)) ?_
    refine kp 30 (.bool (decide ((↑(ByteArray.size (rowAt r 0)) : Int) < 1))) ?_
    refine kp 31 (.bool (decide ((↑(ByteArray.size (rowAt r 0)) : Int) < 1))) ?_
    refine kp 32 (.bool (decide ((↑(ByteArray.size (rowAt r 0)) : Int) < 1))) ?_
    refine WpOps.fork 7 (decide ((↑(ByteArray.size (rowAt r 0)) : Int) < 1)) [33, 34, 35, 36, 37, 38, 39] 39 (true) (decide ((↑(ByteArray.size (rowAt r 0)) : Int) > 80)) (by kernel_rfl) (fun g39 => ?_) (fun g39 => ?_) (fun f_39 b39 hb39 => ?_)
    · refine um 33 ?_ (hw := wants_tf g39)
      refine um 34 ?_ (hw := wants_tf g39)
      refine um 35 ?_ (hw := wants_tf g39)
      refine um 36 ?_ (hw := wants_tf g39)
      refine um 37 ?_ (hw := wants_tf g39)
      refine um 38 ?_ (hw := wants_tf g39)
      refine kp 39 (.bool true) ?_ (hop := fun _ => o_pickT g39)
      refine WpOps.nil ?_
      exact ⟨rfl, (.upd rfl (.upd rfl (.upd rfl (.upd rfl (.upd rfl (.upd rfl (.upd rfl .refl))))))), (by kernel_rfl)⟩
    · refine kp 33 (.pointer (some ⟨0, 0, none⟩)) ?_ (hw := wants_ff g39)
      refine kp 34 (.iface 9 (Value.iface (List.length r) (Value.iface x (Value.agg (List.toArray (List.map Value.string r)))))) ?_ (hw := wants_ff g39)
      refine kp 35 (.iface 9 (Value.iface 0 (Value.agg (List.toArray (List.map Value.string r))))) ?_ (hw := wants_ff g39) (hop := fun _ => o_indexI (e := 9) (size := 1) (a := 0) l1)
      refine kp 36 (.string (rowAt r 0)) ?_ (hw := wants_ff g39) (hop := fun _ => o_loadI1 (0) v0)
      refine kp 37 (.int IntKind.i64 (↑(ByteArray.size (rowAt r 0)) : Int)) ?_ (hw := wants_ff g39)
      refine kp 38 (.bool (decide ((↑(ByteArray.size (rowAt r 0)) : Int) > 80))) ?_ (hw := wants_ff g39)
      refine kp 39 (.bool (decide ((↑(ByteArray.size (rowAt r 0)) : Int) > 80))) ?_ (hop := fun _ => o_pickF g39)
      refine WpOps.nil ?_
      exact ⟨rfl, (.upd rfl (.upd rfl (.upd rfl (.upd rfl (.upd rfl (.upd rfl (.upd rfl .refl))))))), (by kernel_rfl)⟩
    refine WpOps.nil (thenK_at ?_)
    refine Wp.split (b39) (by kernel_rfl) (fun hc => ?_) (fun hc => ?_)
    · have hn : ¬ Good r m i j := fun h => by
        obtain ⟨⟨_, _, h4, _⟩, _⟩ := h
        rw [hb39, cond_or', Bool.or_eq_true, decide_eq_true_eq, decide_eq_true_eq] at hc
        rcases hc with hc | hc
        · omega
        · omega
      rw [decide_eq_false hn]
      refine Wp.seq (Wp.text ?_)
      refine kp 2 (.bool false) ?_
      refine WpOps.nil (thenK_at (Wp.ret (thenK_ret ?_)))
      refine endK_retn [Value.bool false] (Value.bool false) (by kernel_rfl) (by kernel_rfl) ?_
      rfl
    · have g5 : 1 ≤ (rowAt r 0).size ∧ (rowAt r 0).size ≤ 80 := by
        rw [hb39, cond_or', Bool.or_eq_false_iff, decide_eq_false_iff_not, decide_eq_false_iff_not] at hc
        omega
      clear hb39
      refine Wp.skip (thenK_at (Wp.seq (Wp.seq (Wp.text ?_))))
      refine kp 3 (.int IntKind.i64 0) ?_
      refine WpOps.nil (thenK_at (Wp.block ?_))
      refine Wp.loop (G := Nat) (fun k => layj [(1, .pointer (some ⟨0, 0, none⟩)), (3, .int .i64 k)]) (fun _ => heapOf [⟨30, true, [strs x r, strs y m, .int .i64 i, .int .i64 j]⟩]) (fun k => r.length - k) (fun k => k ≤ r.length ∧ ∀ q, q < k → RowOk (rowAt r 0).size (rowAt r q) (rowAt m q)) 0
        (View.of [0] [⟨30, true, [strs x r, strs y m, .int .i64 i, .int .i64 j]⟩] _ (by decide) rfl ⟨⟨_, by kernel_rfl, CellsOk.eq rfl rfl⟩, trivial⟩ ⟨⟨by kernel_rfl, rfl⟩, ⟨by kernel_rfl, rfl⟩, trivial⟩) ⟨Nat.zero_le _, fun q hq => absurd hq (Nat.not_lt_zero _)⟩ ?_
      rintro k ⟨hk, hp⟩
      unfold strs
      refine Wp.seq (Wp.seq (Wp.text ?_))
      refine kp 40 (.int IntKind.i64 (↑k : Int)) ?_
      refine kp 41 (.pointer (some ⟨0, 0, none⟩)) ?_
      refine kp 42 (.iface 9 (Value.iface (List.length r) (Value.iface x (Value.agg (List.toArray (List.map Value.string r)))))) ?_
      refine kp 43 (.int IntKind.i64 (↑(List.length r) : Int)) ?_
      refine kp 44 (.bool (decide ((↑k : Int) < (↑(List.length r) : Int)))) ?_
      refine WpOps.nil (thenK_at ?_)
      refine Wp.split (decide ((↑k : Int) < (↑(List.length r) : Int))) (by kernel_rfl) (fun hd => ?_) (fun hd => ?_)
      · have hlt : (k : Int) < r.length := of_decide_eq_true hd
        have l2 : 0 ≤ (k : Int) ∧ (k : Int) < r.length := ⟨Int.natCast_nonneg _, hlt⟩
        have l3 : 0 ≤ (k : Int) ∧ (k : Int) < m.length := by omega
        have v1 := strs_at r k (by omega)
        have v2 := strs_at m k (by omega)
        refine Wp.skip (thenK_at (Wp.seq (Wp.block (Wp.seq (Wp.seq ?_)))))
        refine Wp.region (by kernel_rfl) ?_
        refine kp 47 (.pointer (some ⟨0, 0, none⟩)) ?_
        refine kp 48 (.iface 9 (Value.iface (List.length r) (Value.iface x (Value.agg (List.toArray (List.map Value.string r)))))) ?_
        refine kp 49 (.int IntKind.i64 (↑k : Int)) ?_
        refine kp 50 (.iface 9 (Value.iface (Int.toNat (↑k : Int) * 1) (Value.agg (List.toArray (List.map Value.string r))))) ?_ (hop := fun _ => o_indexI (e := 9) (size := 1) (a := (↑k : Int)) l2)
        refine kp 51 (.string (rowAt r k)) ?_ (hop := fun _ => o_loadI1 (Int.toNat (↑k : Int) * 1) v1)
        refine kp 52 (.int IntKind.i64 (↑(ByteArray.size (rowAt r k)) : Int)) ?_
        refine kp 53 (.pointer (some ⟨0, 0, none⟩)) ?_
        refine kp 54 (.iface 9 (Value.iface (List.length r) (Value.iface x (Value.agg (List.toArray (List.map Value.string r)))))) ?_
        refine kp 55 (.iface 9 (Value.iface 0 (Value.agg (List.toArray (List.map Value.string r))))) ?_ (hop := fun _ => o_indexI (e := 9) (size := 1) (a := 0) l1)
        refine kp 56 (.string (rowAt r 0)) ?_ (hop := fun _ => o_loadI1 (0) v0)
        refine kp 57 (.int IntKind.i64 (↑(ByteArray.size (rowAt r 0)) : Int)) ?_
        refine kp 58 (.bool ((↑(ByteArray.size (rowAt r k)) : Int) != (↑(ByteArray.size (rowAt r 0)) : Int))) ?_
        refine kp 59 (.bool ((↑(ByteArray.size (rowAt r k)) : Int) != (↑(ByteArray.size (rowAt r 0)) : Int))) ?_
        refine WpOps.fork 13 ((↑(ByteArray.size (rowAt r k)) : Int) != (↑(ByteArray.size (rowAt r 0)) : Int)) [60, 61, 62, 63, 64, 65, 66, 67, 68, 69, 70, 71, 72] 72 (true) ((↑(ByteArray.size (rowAt m k)) : Int) != (↑(ByteArray.size (rowAt r 0)) : Int)) (by kernel_rfl) (fun g72 => ?_) (fun g72 => ?_) (fun f_72 b72 hb72 => ?_)
        · refine um 60 ?_ (hw := wants_tf g72)
          refine um 61 ?_ (hw := wants_tf g72)
          refine um 62 ?_ (hw := wants_tf g72)
          refine um 63 ?_ (hw := wants_tf g72)
          refine um 64 ?_ (hw := wants_tf g72)
          refine um 65 ?_ (hw := wants_tf g72)
          refine um 66 ?_ (hw := wants_tf g72)
          refine um 67 ?_ (hw := wants_tf g72)
          refine um 68 ?_ (hw := wants_tf g72)
          refine um 69 ?_ (hw := wants_tf g72)
          refine um 70 ?_ (hw := wants_tf g72)
          refine um 71 ?_ (hw := wants_tf g72)
          refine kp 72 (.bool true) ?_ (hop := fun _ => o_pickT g72)
          refine WpOps.nil ?_
          exact ⟨rfl, (.upd rfl (.upd rfl (.upd rfl (.upd rfl (.upd rfl (.upd rfl (.upd rfl (.upd rfl (.upd rfl (.upd rfl (.upd rfl (.upd rfl (.upd rfl .refl))))))))))))), (by kernel_rfl)⟩
        · refine kp 60 (.pointer (some ⟨0, 1, none⟩)) ?_ (hw := wants_ff g72)
          refine kp 61 (.iface 9 (Value.iface (List.length m) (Value.iface y (Value.agg (List.toArray (List.map Value.string m)))))) ?_ (hw := wants_ff g72)
          refine kp 62 (.int IntKind.i64 (↑k : Int)) ?_ (hw := wants_ff g72)
          refine kp 63 (.iface 9 (Value.iface (Int.toNat (↑k : Int) * 1) (Value.agg (List.toArray (List.map Value.string m))))) ?_ (hw := wants_ff g72) (hop := fun _ => o_indexI (e := 9) (size := 1) (a := (↑k : Int)) l3)
          refine kp 64 (.string (rowAt m k)) ?_ (hw := wants_ff g72) (hop := fun _ => o_loadI1 (Int.toNat (↑k : Int) * 1) v2)
          refine kp 65 (.int IntKind.i64 (↑(ByteArray.size (rowAt m k)) : Int)) ?_ (hw := wants_ff g72)
          refine kp 66 (.pointer (some ⟨0, 0, none⟩)) ?_ (hw := wants_ff g72)
          refine kp 67 (.iface 9 (Value.iface (List.length r) (Value.iface x (Value.agg (List.toArray (List.map Value.string r)))))) ?_ (hw := wants_ff g72)
          refine kp 68 (.iface 9 (Value.iface 0 (Value.agg (List.toArray (List.map Value.string r))))) ?_ (hw := wants_ff g72) (hop := fun _ => o_indexI (e := 9) (size := 1) (a := 0) l1)
          refine kp 69 (.string (rowAt r 0)) ?_ (hw := wants_ff g72) (hop := fun _ => o_loadI1 (0) v0)
          refine kp 70 (.int IntKind.i64 (↑(ByteArray.size (rowAt r 0)) : Int)) ?_ (hw := wants_ff g72)
          refine kp 71 (.bool ((↑(ByteArray.size (rowAt m k)) : Int) != (↑(ByteArray.size (rowAt r 0)) : Int))) ?_ (hw := wants_ff g72)
          refine kp 72 (.bool ((↑(ByteArray.size (rowAt m k)) : Int) != (↑(ByteArray.size (rowAt r 0)) : Int))) ?_ (hop := fun _ => o_pickF g72)
          refine WpOps.nil ?_
          exact ⟨rfl, (.upd rfl (.upd rfl (.upd rfl (.upd rfl (.upd rfl (.upd rfl (.upd rfl (.upd rfl (.upd rfl (.upd rfl (.upd rfl (.upd rfl (.upd rfl .refl))))))))))))), (by kernel_rfl)⟩
        refine WpOps.nil (thenK_at ?_)
        refine Wp.split (b72) (by kernel_rfl) (fun he => ?_) (fun he => ?_)
        · have hn : ¬ Good r m i j := fun h => by
            obtain ⟨q1, q2, _⟩ := h.2 k (by omega)
            rw [hb72, cond_or', Bool.or_eq_true, bne_iff_ne, bne_iff_ne] at he
            omega
          rw [decide_eq_false hn]
          refine Wp.seq (Wp.text ?_)
          refine kp 2 (.bool false) ?_
          refine WpOps.nil (thenK_at (Wp.ret (thenK_ret (blockK_ret (thenK_ret (thenK_ret (blockK_ret (thenK_ret ?_))))))))
          refine endK_retn [Value.bool false] (Value.bool false) (by kernel_rfl) (by kernel_rfl) ?_
          rfl
        · have q1 : (rowAt r k).size = (rowAt r 0).size ∧ (rowAt m k).size = (rowAt r 0).size := by
            rw [hb72, cond_or', Bool.or_eq_false_iff, bne_eq_false_iff_eq, bne_eq_false_iff_eq] at he
            omega
          clear hb72
          refine Wp.skip (thenK_at (Wp.seq (Wp.text ?_)))
          refine kp 4 (.int IntKind.i64 0) ?_
          refine WpOps.nil (thenK_at (Wp.block ?_))
          refine Wp.loop (G := Nat) (fun q => layj [(1, .pointer (some ⟨0, 0, none⟩)), (3, .int .i64 k), (4, .int .i64 q)]) (fun _ => heapOf [⟨30, true, [strs x r, strs y m, .int .i64 i, .int .i64 j]⟩]) (fun q => (rowAt r 0).size - q) (fun q => q ≤ (rowAt r 0).size ∧ ∀ p, p < q → byIn 32 126 (byteAt (rowAt r k) p) = true ∧ byIn 48 55 (byteAt (rowAt m k) p) = true) 0
            (View.of [0] [⟨30, true, [strs x r, strs y m, .int .i64 i, .int .i64 j]⟩] _ (by decide) rfl ⟨⟨_, by kernel_rfl, CellsOk.eq rfl rfl⟩, trivial⟩ ⟨⟨by kernel_rfl, rfl⟩, ⟨by kernel_rfl, rfl⟩, ⟨by kernel_rfl, rfl⟩, trivial⟩) ⟨Nat.zero_le _, fun q hq => absurd hq (Nat.not_lt_zero _)⟩ ?_
          rintro q ⟨hq, hpq⟩
          unfold strs
          refine Wp.seq (Wp.seq (Wp.text ?_))
          refine kp 73 (.int IntKind.i64 (↑q : Int)) ?_
          refine kp 74 (.pointer (some ⟨0, 0, none⟩)) ?_
          refine kp 75 (.iface 9 (Value.iface (List.length r) (Value.iface x (Value.agg (List.toArray (List.map Value.string r)))))) ?_
          refine kp 76 (.int IntKind.i64 (↑k : Int)) ?_
          refine kp 77 (.iface 9 (Value.iface (Int.toNat (↑k : Int) * 1) (Value.agg (List.toArray (List.map Value.string r))))) ?_ (hop := fun _ => o_indexI (e := 9) (size := 1) (a := (↑k : Int)) l2)
          refine kp 78 (.string (rowAt r k)) ?_ (hop := fun _ => o_loadI1 (Int.toNat (↑k : Int) * 1) v1)
          refine kp 79 (.int IntKind.i64 (↑(ByteArray.size (rowAt r k)) : Int)) ?_
          refine kp 80 (.bool (decide ((↑q : Int) < (↑(ByteArray.size (rowAt r k)) : Int)))) ?_
          refine WpOps.nil (thenK_at ?_)
          refine Wp.split (decide ((↑q : Int) < (↑(ByteArray.size (rowAt r k)) : Int))) (by kernel_rfl) (fun hx => ?_) (fun hx => ?_)
          · have hlt2 : (q : Int) < (rowAt r k).size := of_decide_eq_true hx
            have m3 : 0 ≤ (q : Int) ∧ (q : Int) < (rowAt r k).size := by omega
            have m4 : 0 ≤ (q : Int) ∧ (q : Int) < (rowAt m k).size := by omega
            have n3 := byte_get (rowAt r k) q (by omega)
            have n4 := byte_get (rowAt m k) q (by omega)
            have c1 := shown48 (IntKind.i64.wrap ((byteAt (rowAt r k) q).toNat : Int))
            refine Wp.skip (thenK_at (Wp.seq (Wp.block (Wp.seq (Wp.text ?_)))))
            refine kp 83 (.pointer (some ⟨0, 0, none⟩)) ?_
            refine kp 84 (.iface 9 (Value.iface (List.length r) (Value.iface x (Value.agg (List.toArray (List.map Value.string r)))))) ?_
            refine kp 85 (.int IntKind.i64 (↑k : Int)) ?_
            refine kp 86 (.iface 9 (Value.iface (Int.toNat (↑k : Int) * 1) (Value.agg (List.toArray (List.map Value.string r))))) ?_ (hop := fun _ => o_indexI (e := 9) (size := 1) (a := (↑k : Int)) l2)
            refine kp 87 (.string (rowAt r k)) ?_ (hop := fun _ => o_loadI1 (Int.toNat (↑k : Int) * 1) v1)
            refine kp 88 (.int IntKind.i64 (↑q : Int)) ?_
            refine kp 89 (.int IntKind.u8 (↑(UInt8.toNat (byteAt (rowAt r k) q)) : Int)) ?_ (hop := fun _ => o_indexStr (of_decide_eq_true (by kernel_rfl)) n3)
            refine kp 90 (.int IntKind.i64 (IntKind.wrap .i64 (↑(UInt8.toNat (byteAt (rowAt r k) q)) : Int))) ?_
            refine fr 91 48 [Value.int .i64 (IntKind.wrap .i64 (↑(UInt8.toNat (byteAt (rowAt r k) q)) : Int))] ?_
            refine WpFun.of (c1) ?_
            refine kp 92 (.bool !shB (IntKind.wrap .i64 (↑(UInt8.toNat (byteAt (rowAt r k) q)) : Int))) ?_
            refine kp 93 (.bool !shB (IntKind.wrap .i64 (↑(UInt8.toNat (byteAt (rowAt r k) q)) : Int))) ?_
            refine WpOps.fork 9 (!shB (IntKind.wrap IntKind.i64 (↑(UInt8.toNat (byteAt (rowAt r k) q)) : Int))) [94, 95, 96, 97, 98, 99, 100, 101, 102] 102 (true) (decide ((↑(UInt8.toNat (byteAt (rowAt m k) q)) : Int) < 48)) (by kernel_rfl) (fun g102 => ?_) (fun g102 => ?_) (fun f_102 b102 hb102 => ?_)
            · refine um 94 ?_ (hw := wants_tf g102)
              refine um 95 ?_ (hw := wants_tf g102)
              refine um 96 ?_ (hw := wants_tf g102)
              refine um 97 ?_ (hw := wants_tf g102)
              refine um 98 ?_ (hw := wants_tf g102)
              refine um 99 ?_ (hw := wants_tf g102)
              refine um 100 ?_ (hw := wants_tf g102)
              refine um 101 ?_ (hw := wants_tf g102)
              refine kp 102 (.bool true) ?_ (hop := fun _ => o_pickT g102)
              refine WpOps.nil ?_
              exact ⟨rfl, (.upd rfl (.upd rfl (.upd rfl (.upd rfl (.upd rfl (.upd rfl (.upd rfl (.upd rfl (.upd rfl .refl))))))))), (by kernel_rfl)⟩
            · refine kp 94 (.pointer (some ⟨0, 1, none⟩)) ?_ (hw := wants_ff g102)
              refine kp 95 (.iface 9 (Value.iface (List.length m) (Value.iface y (Value.agg (List.toArray (List.map Value.string m)))))) ?_ (hw := wants_ff g102)
              refine kp 96 (.int IntKind.i64 (↑k : Int)) ?_ (hw := wants_ff g102)
              refine kp 97 (.iface 9 (Value.iface (Int.toNat (↑k : Int) * 1) (Value.agg (List.toArray (List.map Value.string m))))) ?_ (hw := wants_ff g102) (hop := fun _ => o_indexI (e := 9) (size := 1) (a := (↑k : Int)) l3)
              refine kp 98 (.string (rowAt m k)) ?_ (hw := wants_ff g102) (hop := fun _ => o_loadI1 (Int.toNat (↑k : Int) * 1) v2)
              refine kp 99 (.int IntKind.i64 (↑q : Int)) ?_ (hw := wants_ff g102)
              refine kp 100 (.int IntKind.u8 (↑(UInt8.toNat (byteAt (rowAt m k) q)) : Int)) ?_ (hw := wants_ff g102) (hop := fun _ => o_indexStr (of_decide_eq_true (by kernel_rfl)) n4)
              refine kp 101 (.bool (decide ((↑(UInt8.toNat (byteAt (rowAt m k) q)) : Int) < 48))) ?_ (hw := wants_ff g102)
              refine kp 102 (.bool (decide ((↑(UInt8.toNat (byteAt (rowAt m k) q)) : Int) < 48))) ?_ (hop := fun _ => o_pickF g102)
              refine WpOps.nil ?_
              exact ⟨rfl, (.upd rfl (.upd rfl (.upd rfl (.upd rfl (.upd rfl (.upd rfl (.upd rfl (.upd rfl (.upd rfl .refl))))))))), (by kernel_rfl)⟩
            refine kp 103 (.bool b102) ?_
            refine WpOps.fork 9 (b102) [104, 105, 106, 107, 108, 109, 110, 111, 112] 112 (true) (decide ((↑(UInt8.toNat (byteAt (rowAt m k) q)) : Int) > 55)) (by kernel_rfl) (fun g112 => ?_) (fun g112 => ?_) (fun f_112 b112 hb112 => ?_)
            · refine um 104 ?_ (hw := wants_tf g112)
              refine um 105 ?_ (hw := wants_tf g112)
              refine um 106 ?_ (hw := wants_tf g112)
              refine um 107 ?_ (hw := wants_tf g112)
              refine um 108 ?_ (hw := wants_tf g112)
              refine um 109 ?_ (hw := wants_tf g112)
              refine um 110 ?_ (hw := wants_tf g112)
              refine um 111 ?_ (hw := wants_tf g112)
              refine kp 112 (.bool true) ?_ (hop := fun _ => o_pickT g112)
              refine WpOps.nil ?_
              exact ⟨rfl, (.upd rfl (.upd rfl (.upd rfl (.upd rfl (.upd rfl (.upd rfl (.upd rfl (.upd rfl (.upd rfl .refl))))))))), (by kernel_rfl)⟩
            · refine kp 104 (.pointer (some ⟨0, 1, none⟩)) ?_ (hw := wants_ff g112)
              refine kp 105 (.iface 9 (Value.iface (List.length m) (Value.iface y (Value.agg (List.toArray (List.map Value.string m)))))) ?_ (hw := wants_ff g112)
              refine kp 106 (.int IntKind.i64 (↑k : Int)) ?_ (hw := wants_ff g112)
              refine kp 107 (.iface 9 (Value.iface (Int.toNat (↑k : Int) * 1) (Value.agg (List.toArray (List.map Value.string m))))) ?_ (hw := wants_ff g112) (hop := fun _ => o_indexI (e := 9) (size := 1) (a := (↑k : Int)) l3)
              refine kp 108 (.string (rowAt m k)) ?_ (hw := wants_ff g112) (hop := fun _ => o_loadI1 (Int.toNat (↑k : Int) * 1) v2)
              refine kp 109 (.int IntKind.i64 (↑q : Int)) ?_ (hw := wants_ff g112)
              refine kp 110 (.int IntKind.u8 (↑(UInt8.toNat (byteAt (rowAt m k) q)) : Int)) ?_ (hw := wants_ff g112) (hop := fun _ => o_indexStr (of_decide_eq_true (by kernel_rfl)) n4)
              refine kp 111 (.bool (decide ((↑(UInt8.toNat (byteAt (rowAt m k) q)) : Int) > 55))) ?_ (hw := wants_ff g112)
              refine kp 112 (.bool (decide ((↑(UInt8.toNat (byteAt (rowAt m k) q)) : Int) > 55))) ?_ (hop := fun _ => o_pickF g112)
              refine WpOps.nil ?_
              exact ⟨rfl, (.upd rfl (.upd rfl (.upd rfl (.upd rfl (.upd rfl (.upd rfl (.upd rfl (.upd rfl (.upd rfl .refl))))))))), (by kernel_rfl)⟩
            refine WpOps.nil (thenK_at ?_)
            have hz : b112 = !(byIn 32 126 (byteAt (rowAt r k) q) && byIn 48 55 (byteAt (rowAt m k) q)) := by
              have b1 : (byteAt (rowAt r k) q).toNat < 256 := UInt8.toNat_lt _
              rw [hb112, hb102, cond_or', cond_or', shB, cond_and', wr _ (by omega) (by omega), byIn, byIn, Bool.eq_iff_iff]
              simp only [Bool.or_eq_true, Bool.not_eq_true', Bool.and_eq_false_iff, decide_eq_true_eq, decide_eq_false_iff_not]
              omega
            clear hb112 hb102
            refine Wp.split (b112) (by kernel_rfl) (fun hy => ?_) (fun hy => ?_)
            · have hn : ¬ Good r m i j := fun h => by
                obtain ⟨_, _, q3, q4⟩ := h.2 k (by omega)
                have := (allB_iff _ _ _).1 q3 q (by omega)
                have := (allB_iff _ _ _).1 q4 q (by omega)
                simp_all
              rw [decide_eq_false hn]
              refine Wp.seq (Wp.text ?_)
              refine kp 2 (.bool false) ?_
              refine WpOps.nil (thenK_at (Wp.ret (blockK_ret (thenK_ret (thenK_ret (blockK_ret (blockK_ret (thenK_ret (thenK_ret (blockK_ret (thenK_ret ?_)))))))))))
              refine endK_retn [Value.bool false] (Value.bool false) (by kernel_rfl) (by kernel_rfl) ?_
              rfl
            · have hz2 : byIn 32 126 (byteAt (rowAt r k) q) = true ∧ byIn 48 55 (byteAt (rowAt m k) q) = true := by
                rw [hy] at hz
                simpa using hz.symm
              refine Wp.skip (blockK_norm (thenK_at (Wp.text ?_)))
              refine kp 81 (.int IntKind.i64 (↑q : Int)) ?_
              refine kp 82 (.int IntKind.i64 (IntKind.wrap .i64 ((↑q : Int) + 1))) ?_
              refine kp 4 (.int IntKind.i64 (IntKind.wrap .i64 ((↑q : Int) + 1))) ?_
              refine WpOps.nil (thenK_at ?_)
              refine ⟨q + 1, by omega, ⟨by omega, fun p hp2 => ?_⟩, View.of [0] [⟨30, true, [strs x r, strs y m, .int .i64 i, .int .i64 j]⟩] _ (by decide) rfl ⟨⟨_, by kernel_rfl, CellsOk.eq rfl rfl⟩, trivial⟩ ⟨⟨by kernel_rfl, rfl⟩, ⟨by kernel_rfl, rfl⟩, ⟨congrArg (Value.int .i64) (wr _ (by omega) (by omega)), rfl⟩, trivial⟩⟩
              rcases Nat.lt_or_ge p q with h | h
              · exact hpq p h
              · obtain rfl : p = q := by omega
                exact hz2
          · have hle : ¬ ((q : Int) < (rowAt r k).size) := of_decide_eq_false hx
            have hok : RowOk (rowAt r 0).size (rowAt r k) (rowAt m k) := ⟨q1.1, q1.2, (allB_iff _ _ _).2 fun p hp2 => (hpq p (by omega)).1, (allB_iff _ _ _).2 fun p hp2 => (hpq p (by omega)).2⟩
            refine Wp.exit (thenK_exit (thenK_exit (blockK_hit (blockK_norm (thenK_at (Wp.text ?_))))))
            refine kp 45 (.int IntKind.i64 (↑k : Int)) ?_
            refine kp 46 (.int IntKind.i64 (IntKind.wrap .i64 ((↑k : Int) + 1))) ?_
            refine kp 3 (.int IntKind.i64 (IntKind.wrap .i64 ((↑k : Int) + 1))) ?_
            refine WpOps.nil (thenK_at ?_)
            refine ⟨k + 1, by omega, ⟨by omega, fun p hp2 => ?_⟩, View.of [0] [⟨30, true, [strs x r, strs y m, .int .i64 i, .int .i64 j]⟩] _ (by decide) rfl ⟨⟨_, by kernel_rfl, CellsOk.eq rfl rfl⟩, trivial⟩ ⟨⟨by kernel_rfl, rfl⟩, ⟨congrArg (Value.int .i64) (wr _ (by omega) (by omega)), rfl⟩, trivial⟩⟩
            rcases Nat.lt_or_ge p k with h | h
            · exact hp p h
            · obtain rfl : p = k := by omega
              exact hok
      · have hle : ¬ ((k : Int) < r.length) := of_decide_eq_false hd
        refine Wp.exit (thenK_exit (thenK_exit (blockK_hit (thenK_at (Wp.seq ?_)))))
        refine Wp.region (by kernel_rfl) ?_
        refine kp 113 (.pointer (some ⟨0, 2, none⟩)) ?_
        refine kp 114 (.int IntKind.i64 i) ?_
        refine kp 115 (.bool (decide (i ≥ 0))) ?_
        refine kp 116 (.bool (decide (i ≥ 0))) ?_
        refine WpOps.fork 7 (decide (i ≥ 0)) [117, 118, 119, 120, 121, 122, 123] 123 (decide (i < (↑(List.length r) : Int))) (false) (by kernel_rfl) (fun g123 => ?_) (fun g123 => ?_) (fun f_123 b123 hb123 => ?_)
        · refine kp 117 (.pointer (some ⟨0, 2, none⟩)) ?_ (hw := wants_tt g123)
          refine kp 118 (.int IntKind.i64 i) ?_ (hw := wants_tt g123)
          refine kp 119 (.pointer (some ⟨0, 0, none⟩)) ?_ (hw := wants_tt g123)
          refine kp 120 (.iface 9 (Value.iface (List.length r) (Value.iface x (Value.agg (List.toArray (List.map Value.string r)))))) ?_ (hw := wants_tt g123)
          refine kp 121 (.int IntKind.i64 (↑(List.length r) : Int)) ?_ (hw := wants_tt g123)
          refine kp 122 (.bool (decide (i < (↑(List.length r) : Int)))) ?_ (hw := wants_tt g123)
          refine kp 123 (.bool (decide (i < (↑(List.length r) : Int)))) ?_ (hop := fun _ => o_pickT g123)
          refine WpOps.nil ?_
          exact ⟨rfl, (.upd rfl (.upd rfl (.upd rfl (.upd rfl (.upd rfl (.upd rfl (.upd rfl .refl))))))), (by kernel_rfl)⟩
        · refine um 117 ?_ (hw := wants_ft g123)
          refine um 118 ?_ (hw := wants_ft g123)
          refine um 119 ?_ (hw := wants_ft g123)
          refine um 120 ?_ (hw := wants_ft g123)
          refine um 121 ?_ (hw := wants_ft g123)
          refine um 122 ?_ (hw := wants_ft g123)
          refine kp 123 (.bool false) ?_ (hop := fun _ => o_pickF g123)
          refine WpOps.nil ?_
          exact ⟨rfl, (.upd rfl (.upd rfl (.upd rfl (.upd rfl (.upd rfl (.upd rfl (.upd rfl .refl))))))), (by kernel_rfl)⟩
        refine kp 124 (.bool b123) ?_
        refine WpOps.fork 4 (b123) [125, 126, 127, 128] 128 (decide (j ≥ 0)) (false) (by kernel_rfl) (fun g128 => ?_) (fun g128 => ?_) (fun f_128 b128 hb128 => ?_)
        · refine kp 125 (.pointer (some ⟨0, 3, none⟩)) ?_ (hw := wants_tt g128)
          refine kp 126 (.int IntKind.i64 j) ?_ (hw := wants_tt g128)
          refine kp 127 (.bool (decide (j ≥ 0))) ?_ (hw := wants_tt g128)
          refine kp 128 (.bool (decide (j ≥ 0))) ?_ (hop := fun _ => o_pickT g128)
          refine WpOps.nil ?_
          exact ⟨rfl, (.upd rfl (.upd rfl (.upd rfl (.upd rfl .refl)))), (by kernel_rfl)⟩
        · refine um 125 ?_ (hw := wants_ft g128)
          refine um 126 ?_ (hw := wants_ft g128)
          refine um 127 ?_ (hw := wants_ft g128)
          refine kp 128 (.bool false) ?_ (hop := fun _ => o_pickF g128)
          refine WpOps.nil ?_
          exact ⟨rfl, (.upd rfl (.upd rfl (.upd rfl (.upd rfl .refl)))), (by kernel_rfl)⟩
        refine kp 129 (.bool b128) ?_
        refine WpOps.fork 9 (b128) [130, 131, 132, 133, 134, 135, 136, 137, 138] 138 (decide (j < (↑(ByteArray.size (rowAt r 0)) : Int))) (false) (by kernel_rfl) (fun g138 => ?_) (fun g138 => ?_) (fun f_138 b138 hb138 => ?_)
        · refine kp 130 (.pointer (some ⟨0, 3, none⟩)) ?_ (hw := wants_tt g138)
          refine kp 131 (.int IntKind.i64 j) ?_ (hw := wants_tt g138)
          refine kp 132 (.pointer (some ⟨0, 0, none⟩)) ?_ (hw := wants_tt g138)
          refine kp 133 (.iface 9 (Value.iface (List.length r) (Value.iface x (Value.agg (List.toArray (List.map Value.string r)))))) ?_ (hw := wants_tt g138)
          refine kp 134 (.iface 9 (Value.iface 0 (Value.agg (List.toArray (List.map Value.string r))))) ?_ (hw := wants_tt g138) (hop := fun _ => o_indexI (e := 9) (size := 1) (a := 0) l1)
          refine kp 135 (.string (rowAt r 0)) ?_ (hw := wants_tt g138) (hop := fun _ => o_loadI1 (0) v0)
          refine kp 136 (.int IntKind.i64 (↑(ByteArray.size (rowAt r 0)) : Int)) ?_ (hw := wants_tt g138)
          refine kp 137 (.bool (decide (j < (↑(ByteArray.size (rowAt r 0)) : Int)))) ?_ (hw := wants_tt g138)
          refine kp 138 (.bool (decide (j < (↑(ByteArray.size (rowAt r 0)) : Int)))) ?_ (hop := fun _ => o_pickT g138)
          refine WpOps.nil ?_
          exact ⟨rfl, (.upd rfl (.upd rfl (.upd rfl (.upd rfl (.upd rfl (.upd rfl (.upd rfl (.upd rfl (.upd rfl .refl))))))))), (by kernel_rfl)⟩
        · refine um 130 ?_ (hw := wants_ft g138)
          refine um 131 ?_ (hw := wants_ft g138)
          refine um 132 ?_ (hw := wants_ft g138)
          refine um 133 ?_ (hw := wants_ft g138)
          refine um 134 ?_ (hw := wants_ft g138)
          refine um 135 ?_ (hw := wants_ft g138)
          refine um 136 ?_ (hw := wants_ft g138)
          refine um 137 ?_ (hw := wants_ft g138)
          refine kp 138 (.bool false) ?_ (hop := fun _ => o_pickF g138)
          refine WpOps.nil ?_
          exact ⟨rfl, (.upd rfl (.upd rfl (.upd rfl (.upd rfl (.upd rfl (.upd rfl (.upd rfl (.upd rfl (.upd rfl .refl))))))))), (by kernel_rfl)⟩
        refine kp 2 (.bool b138) ?_
        refine WpOps.nil (thenK_at (Wp.ret ?_))
        refine endK_retn [Value.bool b138] (Value.bool b138) (by kernel_rfl) (by kernel_rfl) ?_
        have e : b138 = decide (Good r m i j) := by
          rw [hb138, hb128, hb123, cond_and', cond_and', cond_and', Bool.eq_iff_iff]
          simp only [Bool.and_eq_true, decide_eq_true_eq]
          constructor
          · rintro ⟨⟨⟨q1, q2⟩, q3⟩, q4⟩
            exact ⟨⟨by omega, g4, g5, by omega, by omega⟩, fun q hq => hp q (by omega)⟩
          · rintro ⟨⟨_, _, _, q4, q5⟩, _⟩
            omega
        rw [← e]
        rfl
end Go.Proofs.Ytlejgfeoffhjoaa.D
