/- ref.Fits; own, cell, line, blank of the reference. -/
import Derived.Test.YtlejgfeoffhjoaaFwLem
import Derived.Test.YtlejgfeoffhjoaaF34q
namespace Go.Proofs.Ytlejgfeoffhjoaa.D
open Go.Fw Go.RowKit

theorem f41 : E.funcs 41 = some Try.f41 := by kernel_rfl
set_option maxHeartbeats 4000000 in
theorem fits41 (x y : Nat) (r m : List ByteArray) (i j op row col n : Int) (t : ByteArray) (ht : t.size ≤ 140737488351232) (hr : 1 ≤ r.length) :
    Fun E 41 [dv x y r m i j, uv op row col n t] (.bool (decide (Fits r.length (rowAt r 0).size op row col n t))) := by
  refine Fun.of f41 rfl (of_decide_eq_true (by kernel_rfl)) rfl ?_
  have l1 : 0 ≤ (0 : Int) ∧ (0 : Int) < r.length := by omega
  have v0 := strs_0 r (by omega)
  unfold dv strs uv
  by_cases h0 : op = 0
  · subst h0
    refine Wp.seq (Wp.text ?_)
    refine md 2 (.pointer (some ⟨0, 0, none⟩)) (Blk.mk 30 true [Value.iface 9 (Value.iface (List.length r) (Value.iface x (Value.agg (List.toArray (List.map Value.string r))))), Value.iface 9 (Value.iface (List.length m) (Value.iface y (Value.agg (List.toArray (List.map Value.string m))))), Value.int .i64 i, Value.int .i64 j]) ?_
    refine md 3 (.pointer (some ⟨1, 0, none⟩)) (Blk.mk 34 true [Value.int .i64 0, Value.int .i64 row, Value.int .i64 col, Value.int .i64 n, Value.string t]) ?_
    refine kp 4 (.bool false) ?_
    refine WpOps.nil (thenK_at (Wp.seq (Wp.seq (Wp.text ?_))))
    refine kp 6 (.pointer (some ⟨1, 0, none⟩)) ?_
    refine kp 7 (.int IntKind.i64 0) ?_
    refine WpOps.nil (thenK_at (Wp.block (Wp.seq (Wp.text ?_))))
    refine kp 9 (.bool true) ?_
    refine kp 8 (.bool true) ?_
    refine WpOps.nil (thenK_at (on' (Wp.seq ?_)))
    refine Wp.region (by kernel_rfl) ?_
    refine kp 10 (.pointer (some ⟨1, 1, none⟩)) ?_
    refine kp 11 (.int IntKind.i64 row) ?_
    refine kp 12 (.bool (decide (row ≥ 0))) ?_
    refine kp 13 (.bool (decide (row ≥ 0))) ?_
    refine WpOps.fork 7 (decide (row ≥ 0)) [14, 15, 16, 17, 18, 19, 20] 20 (decide (row < (↑(List.length r) : Int))) (false) (by kernel_rfl) (fun g20 => ?_) (fun g20 => ?_) (fun f_20 b20 hb20 => ?_)
    · refine kp 14 (.pointer (some ⟨1, 1, none⟩)) ?_ (hw := wants_tt g20)
      refine kp 15 (.int IntKind.i64 row) ?_ (hw := wants_tt g20)
      refine kp 16 (.pointer (some ⟨0, 0, none⟩)) ?_ (hw := wants_tt g20)
      refine kp 17 (.iface 9 (Value.iface (List.length r) (Value.iface x (Value.agg (List.toArray (List.map Value.string r)))))) ?_ (hw := wants_tt g20)
      refine kp 18 (.int IntKind.i64 (↑(List.length r) : Int)) ?_ (hw := wants_tt g20)
      refine kp 19 (.bool (decide (row < (↑(List.length r) : Int)))) ?_ (hw := wants_tt g20)
      refine kp 20 (.bool (decide (row < (↑(List.length r) : Int)))) ?_ (hop := fun _ => o_pickT g20)
      refine WpOps.nil ?_
      exact ⟨rfl, (.upd rfl (.upd rfl (.upd rfl (.upd rfl (.upd rfl (.upd rfl (.upd rfl .refl))))))), (by kernel_rfl)⟩
    · refine um 14 ?_ (hw := wants_ft g20)
      refine um 15 ?_ (hw := wants_ft g20)
      refine um 16 ?_ (hw := wants_ft g20)
      refine um 17 ?_ (hw := wants_ft g20)
      refine um 18 ?_ (hw := wants_ft g20)
      refine um 19 ?_ (hw := wants_ft g20)
      refine kp 20 (.bool false) ?_ (hop := fun _ => o_pickF g20)
      refine WpOps.nil ?_
      exact ⟨rfl, (.upd rfl (.upd rfl (.upd rfl (.upd rfl (.upd rfl (.upd rfl (.upd rfl .refl))))))), (by kernel_rfl)⟩
    refine kp 21 (.bool b20) ?_
    refine WpOps.fork 4 (b20) [22, 23, 24, 25] 25 (decide (col ≥ 0)) (false) (by kernel_rfl) (fun g25 => ?_) (fun g25 => ?_) (fun f_25 b25 hb25 => ?_)
    · refine kp 22 (.pointer (some ⟨1, 2, none⟩)) ?_ (hw := wants_tt g25)
      refine kp 23 (.int IntKind.i64 col) ?_ (hw := wants_tt g25)
      refine kp 24 (.bool (decide (col ≥ 0))) ?_ (hw := wants_tt g25)
      refine kp 25 (.bool (decide (col ≥ 0))) ?_ (hop := fun _ => o_pickT g25)
      refine WpOps.nil ?_
      exact ⟨rfl, (.upd rfl (.upd rfl (.upd rfl (.upd rfl .refl)))), (by kernel_rfl)⟩
    · refine um 22 ?_ (hw := wants_ft g25)
      refine um 23 ?_ (hw := wants_ft g25)
      refine um 24 ?_ (hw := wants_ft g25)
      refine kp 25 (.bool false) ?_ (hop := fun _ => o_pickF g25)
      refine WpOps.nil ?_
      exact ⟨rfl, (.upd rfl (.upd rfl (.upd rfl (.upd rfl .refl)))), (by kernel_rfl)⟩
    refine kp 26 (.bool b25) ?_
    refine WpOps.fork 9 (b25) [27, 28, 29, 30, 31, 32, 33, 34, 35] 35 (decide (col < (↑(ByteArray.size (rowAt r 0)) : Int))) (false) (by kernel_rfl) (fun g35 => ?_) (fun g35 => ?_) (fun f_35 b35 hb35 => ?_)
    · refine kp 27 (.pointer (some ⟨1, 2, none⟩)) ?_ (hw := wants_tt g35)
      refine kp 28 (.int IntKind.i64 col) ?_ (hw := wants_tt g35)
      refine kp 29 (.pointer (some ⟨0, 0, none⟩)) ?_ (hw := wants_tt g35)
      refine kp 30 (.iface 9 (Value.iface (List.length r) (Value.iface x (Value.agg (List.toArray (List.map Value.string r)))))) ?_ (hw := wants_tt g35)
      refine kp 31 (.iface 9 (Value.iface 0 (Value.agg (List.toArray (List.map Value.string r))))) ?_ (hw := wants_tt g35) (hop := fun _ => o_indexI (e := 9) (size := 1) (a := 0) l1)
      refine kp 32 (.string (rowAt r 0)) ?_ (hw := wants_tt g35) (hop := fun _ => o_loadI1 (0) v0)
      refine kp 33 (.int IntKind.i64 (↑(ByteArray.size (rowAt r 0)) : Int)) ?_ (hw := wants_tt g35)
      refine kp 34 (.bool (decide (col < (↑(ByteArray.size (rowAt r 0)) : Int)))) ?_ (hw := wants_tt g35)
      refine kp 35 (.bool (decide (col < (↑(ByteArray.size (rowAt r 0)) : Int)))) ?_ (hop := fun _ => o_pickT g35)
      refine WpOps.nil ?_
      exact ⟨rfl, (.upd rfl (.upd rfl (.upd rfl (.upd rfl (.upd rfl (.upd rfl (.upd rfl (.upd rfl (.upd rfl .refl))))))))), (by kernel_rfl)⟩
    · refine um 27 ?_ (hw := wants_ft g35)
      refine um 28 ?_ (hw := wants_ft g35)
      refine um 29 ?_ (hw := wants_ft g35)
      refine um 30 ?_ (hw := wants_ft g35)
      refine um 31 ?_ (hw := wants_ft g35)
      refine um 32 ?_ (hw := wants_ft g35)
      refine um 33 ?_ (hw := wants_ft g35)
      refine um 34 ?_ (hw := wants_ft g35)
      refine kp 35 (.bool false) ?_ (hop := fun _ => o_pickF g35)
      refine WpOps.nil ?_
      exact ⟨rfl, (.upd rfl (.upd rfl (.upd rfl (.upd rfl (.upd rfl (.upd rfl (.upd rfl (.upd rfl (.upd rfl .refl))))))))), (by kernel_rfl)⟩
    refine kp 4 (.bool b35) ?_
    refine WpOps.nil (thenK_at (Wp.ret (blockK_ret (thenK_ret ?_))))
    refine endK_retn [Value.bool b35] (Value.bool b35) (by kernel_rfl) (by kernel_rfl) ?_
    have e : b35 = decide (Fits r.length (rowAt r 0).size 0 row col n t) := by
      rw [hb35, hb25, hb20, cond_and', cond_and', cond_and', Bool.eq_iff_iff]
      simp only [Bool.and_eq_true, decide_eq_true_eq]
      unfold Fits
      omega
    rw [← e]
    rfl
  have e0 := bne_f h0
  by_cases h1 : op = 1
  · subst h1
    refine Wp.seq (Wp.text ?_)
    refine md 2 (.pointer (some ⟨0, 0, none⟩)) (Blk.mk 30 true [Value.iface 9 (Value.iface (List.length r) (Value.iface x (Value.agg (List.toArray (List.map Value.string r))))), Value.iface 9 (Value.iface (List.length m) (Value.iface y (Value.agg (List.toArray (List.map Value.string m))))), Value.int .i64 i, Value.int .i64 j]) ?_
    refine md 3 (.pointer (some ⟨1, 0, none⟩)) (Blk.mk 34 true [Value.int .i64 1, Value.int .i64 row, Value.int .i64 col, Value.int .i64 n, Value.string t]) ?_
    refine kp 4 (.bool false) ?_
    refine WpOps.nil (thenK_at (Wp.seq (Wp.seq (Wp.text ?_))))
    refine kp 6 (.pointer (some ⟨1, 0, none⟩)) ?_
    refine kp 7 (.int IntKind.i64 1) ?_
    refine WpOps.nil (thenK_at (Wp.block (Wp.seq (Wp.text ?_))))
    refine kp 9 (.bool false) ?_
    refine kp 8 (.bool false) ?_
    refine WpOps.nil (thenK_at (off' (Wp.seq (Wp.text ?_))))
    refine kp 37 (.bool true) ?_
    refine kp 36 (.bool true) ?_
    refine WpOps.nil (thenK_at (on' (Wp.seq (Wp.seq (Wp.text ?_)))))
    refine kp 5 (.int IntKind.i64 0) ?_
    refine WpOps.nil (thenK_at (Wp.block ?_))
    refine Wp.loop (G := Nat) (fun k => layj [(2, .pointer (some ⟨0, 0, none⟩)), (3, .pointer (some ⟨1, 0, none⟩)), (5, .int .i64 k)]) (fun _ => heapOf [⟨30, true, [strs x r, strs y m, .int .i64 i, .int .i64 j]⟩, ⟨34, true, [.int .i64 1, .int .i64 row, .int .i64 col, .int .i64 n, .string t]⟩]) (fun k => t.size - k) (fun k => k ≤ t.size ∧ ∀ p, p < k → byIn 32 126 (byteAt t p) = true) 0
      (View.of [0, 1] [⟨30, true, [strs x r, strs y m, .int .i64 i, .int .i64 j]⟩, ⟨34, true, [.int .i64 1, .int .i64 row, .int .i64 col, .int .i64 n, .string t]⟩] _ (by decide) rfl ⟨⟨_, by kernel_rfl, CellsOk.eq rfl rfl⟩, ⟨_, by kernel_rfl, CellsOk.eq rfl rfl⟩, trivial⟩ ⟨⟨by kernel_rfl, rfl⟩, ⟨by kernel_rfl, rfl⟩, ⟨by kernel_rfl, rfl⟩, trivial⟩) ⟨Nat.zero_le _, fun q hq => absurd hq (Nat.not_lt_zero _)⟩ ?_
    rintro k ⟨hk, hp⟩
    unfold strs
    refine Wp.seq (Wp.seq (Wp.text ?_))
    refine kp 38 (.int IntKind.i64 (↑k : Int)) ?_
    refine kp 39 (.pointer (some ⟨1, 4, none⟩)) ?_
    refine kp 40 (.string t) ?_
    refine kp 41 (.int IntKind.i64 (↑(ByteArray.size t) : Int)) ?_
    refine kp 42 (.bool (decide ((↑k : Int) < (↑(ByteArray.size t) : Int)))) ?_
    refine WpOps.nil (thenK_at ?_)
    refine Wp.split (decide ((↑k : Int) < (↑(ByteArray.size t) : Int))) (by kernel_rfl) (fun hd => ?_) (fun hd => ?_)
    · have hlt : (k : Int) < t.size := of_decide_eq_true hd
      have m3 : 0 ≤ (k : Int) ∧ (k : Int) < t.size := by omega
      have n3 := byte_get t k (by omega)
      have c1 := shown48 (IntKind.i64.wrap ((byteAt t k).toNat : Int))
      have hz : shB (IntKind.i64.wrap ((byteAt t k).toNat : Int)) = byIn 32 126 (byteAt t k) := by
        have b1 : (byteAt t k).toNat < 256 := UInt8.toNat_lt _
        rw [shB, cond_and', wr _ (by omega) (by omega), byIn, Bool.eq_iff_iff]
        simp only [Bool.and_eq_true, decide_eq_true_eq]
        omega
      cases hb : byIn 32 126 (byteAt t k) with
      | false =>
        rw [hz, hb] at c1
        have hn : ¬ Fits r.length (rowAt r 0).size 1 row col n t := by
          unfold Fits
          rintro (h | ⟨_, _, q2, _⟩ | h)
          · omega
          · have := (allB_iff _ _ _).1 q2 k (by omega)
            rw [hb] at this
            cases this
          · omega
        rw [decide_eq_false hn]
        refine Wp.skip (thenK_at (Wp.seq (Wp.block (Wp.seq (Wp.text ?_)))))
        refine kp 45 (.pointer (some ⟨1, 4, none⟩)) ?_
        refine kp 46 (.string t) ?_
        refine kp 47 (.int IntKind.i64 (↑k : Int)) ?_
        refine kp 48 (.int IntKind.u8 (↑(UInt8.toNat (byteAt t k)) : Int)) ?_ (hop := fun _ => o_indexStr (of_decide_eq_true (by kernel_rfl)) n3)
        refine kp 49 (.int IntKind.i64 (IntKind.wrap .i64 (↑(UInt8.toNat (byteAt t k)) : Int))) ?_
        refine fr 50 48 [Value.int .i64 (IntKind.wrap .i64 (↑(UInt8.toNat (byteAt t k)) : Int))] ?_
        refine WpFun.of (c1) ?_
        refine kp 51 (.bool true) ?_
        refine WpOps.nil (thenK_at (on' (Wp.seq (Wp.text ?_))))
        refine kp 4 (.bool false) ?_
        refine WpOps.nil (thenK_at (Wp.ret (blockK_ret (thenK_ret (thenK_ret (blockK_ret (thenK_ret (blockK_ret (thenK_ret ?_)))))))))
        refine endK_retn [Value.bool false] (Value.bool false) (by kernel_rfl) (by kernel_rfl) ?_
        rfl
      | true =>
        rw [hz, hb] at c1
        refine Wp.skip (thenK_at (Wp.seq (Wp.block (Wp.seq (Wp.text ?_)))))
        refine kp 45 (.pointer (some ⟨1, 4, none⟩)) ?_
        refine kp 46 (.string t) ?_
        refine kp 47 (.int IntKind.i64 (↑k : Int)) ?_
        refine kp 48 (.int IntKind.u8 (↑(UInt8.toNat (byteAt t k)) : Int)) ?_ (hop := fun _ => o_indexStr (of_decide_eq_true (by kernel_rfl)) n3)
        refine kp 49 (.int IntKind.i64 (IntKind.wrap .i64 (↑(UInt8.toNat (byteAt t k)) : Int))) ?_
        refine fr 50 48 [Value.int .i64 (IntKind.wrap .i64 (↑(UInt8.toNat (byteAt t k)) : Int))] ?_
        refine WpFun.of (c1) ?_
        refine kp 51 (.bool false) ?_
        refine WpOps.nil (thenK_at (off' (Wp.skip (blockK_norm (thenK_at (Wp.text ?_))))))
        refine kp 43 (.int IntKind.i64 (↑k : Int)) ?_
        refine kp 44 (.int IntKind.i64 (IntKind.wrap .i64 ((↑k : Int) + 1))) ?_
        refine kp 5 (.int IntKind.i64 (IntKind.wrap .i64 ((↑k : Int) + 1))) ?_
        refine WpOps.nil (thenK_at ?_)
        refine ⟨k + 1, by omega, ⟨by omega, fun p hp2 => ?_⟩, View.of [0, 1] [⟨30, true, [strs x r, strs y m, .int .i64 i, .int .i64 j]⟩, ⟨34, true, [.int .i64 1, .int .i64 row, .int .i64 col, .int .i64 n, .string t]⟩] _ (by decide) rfl ⟨⟨_, by kernel_rfl, CellsOk.eq rfl rfl⟩, ⟨_, by kernel_rfl, CellsOk.eq rfl rfl⟩, trivial⟩ ⟨⟨by kernel_rfl, rfl⟩, ⟨by kernel_rfl, rfl⟩, ⟨congrArg (Value.int .i64) (wr _ (by omega) (by omega)), rfl⟩, trivial⟩⟩
        rcases Nat.lt_or_ge p k with h | h
        · exact hp p h
        · obtain rfl : p = k := by omega
          exact hb
    · have hle : ¬ ((k : Int) < t.size) := of_decide_eq_false hd
      refine Wp.exit (thenK_exit (thenK_exit (blockK_hit (thenK_at (Wp.seq (Wp.text ?_))))))
      refine kp 52 (.pointer (some ⟨1, 4, none⟩)) ?_
      refine kp 53 (.string t) ?_
      refine kp 54 (.int IntKind.i64 (↑(ByteArray.size t) : Int)) ?_
      refine kp 55 (.bool (decide ((↑(ByteArray.size t) : Int) ≥ 1))) ?_
      refine kp 56 (.bool (decide ((↑(ByteArray.size t) : Int) ≥ 1))) ?_
      refine WpOps.fork 5 (decide ((↑(ByteArray.size t) : Int) ≥ 1)) [57, 58, 59, 60, 61] 61 (decide ((↑(ByteArray.size t) : Int) ≤ 200)) (false) (by kernel_rfl) (fun g61 => ?_) (fun g61 => ?_) (fun f_61 b61 hb61 => ?_)
      · refine kp 57 (.pointer (some ⟨1, 4, none⟩)) ?_ (hw := wants_tt g61)
        refine kp 58 (.string t) ?_ (hw := wants_tt g61)
        refine kp 59 (.int IntKind.i64 (↑(ByteArray.size t) : Int)) ?_ (hw := wants_tt g61)
        refine kp 60 (.bool (decide ((↑(ByteArray.size t) : Int) ≤ 200))) ?_ (hw := wants_tt g61)
        refine kp 61 (.bool (decide ((↑(ByteArray.size t) : Int) ≤ 200))) ?_ (hop := fun _ => o_pickT g61)
        refine WpOps.nil ?_
        exact ⟨rfl, (.upd rfl (.upd rfl (.upd rfl (.upd rfl (.upd rfl .refl))))), (by kernel_rfl)⟩
      · refine um 57 ?_ (hw := wants_ft g61)
        refine um 58 ?_ (hw := wants_ft g61)
        refine um 59 ?_ (hw := wants_ft g61)
        refine um 60 ?_ (hw := wants_ft g61)
        refine kp 61 (.bool false) ?_ (hop := fun _ => o_pickF g61)
        refine WpOps.nil ?_
        exact ⟨rfl, (.upd rfl (.upd rfl (.upd rfl (.upd rfl (.upd rfl .refl))))), (by kernel_rfl)⟩
      refine kp 62 (.bool b61) ?_
      refine WpOps.fork 4 (b61) [63, 64, 65, 66] 66 (decide (n ≥ 0)) (false) (by kernel_rfl) (fun g66 => ?_) (fun g66 => ?_) (fun f_66 b66 hb66 => ?_)
      · refine kp 63 (.pointer (some ⟨1, 3, none⟩)) ?_ (hw := wants_tt g66)
        refine kp 64 (.int IntKind.i64 n) ?_ (hw := wants_tt g66)
        refine kp 65 (.bool (decide (n ≥ 0))) ?_ (hw := wants_tt g66)
        refine kp 66 (.bool (decide (n ≥ 0))) ?_ (hop := fun _ => o_pickT g66)
        refine WpOps.nil ?_
        exact ⟨rfl, (.upd rfl (.upd rfl (.upd rfl (.upd rfl .refl)))), (by kernel_rfl)⟩
      · refine um 63 ?_ (hw := wants_ft g66)
        refine um 64 ?_ (hw := wants_ft g66)
        refine um 65 ?_ (hw := wants_ft g66)
        refine kp 66 (.bool false) ?_ (hop := fun _ => o_pickF g66)
        refine WpOps.nil ?_
        exact ⟨rfl, (.upd rfl (.upd rfl (.upd rfl (.upd rfl .refl)))), (by kernel_rfl)⟩
      refine kp 67 (.bool b66) ?_
      refine WpOps.fork 4 (b66) [68, 69, 70, 71] 71 (decide (n ≤ 7)) (false) (by kernel_rfl) (fun g71 => ?_) (fun g71 => ?_) (fun f_71 b71 hb71 => ?_)
      · refine kp 68 (.pointer (some ⟨1, 3, none⟩)) ?_ (hw := wants_tt g71)
        refine kp 69 (.int IntKind.i64 n) ?_ (hw := wants_tt g71)
        refine kp 70 (.bool (decide (n ≤ 7))) ?_ (hw := wants_tt g71)
        refine kp 71 (.bool (decide (n ≤ 7))) ?_ (hop := fun _ => o_pickT g71)
        refine WpOps.nil ?_
        exact ⟨rfl, (.upd rfl (.upd rfl (.upd rfl (.upd rfl .refl)))), (by kernel_rfl)⟩
      · refine um 68 ?_ (hw := wants_ft g71)
        refine um 69 ?_ (hw := wants_ft g71)
        refine um 70 ?_ (hw := wants_ft g71)
        refine kp 71 (.bool false) ?_ (hop := fun _ => o_pickF g71)
        refine WpOps.nil ?_
        exact ⟨rfl, (.upd rfl (.upd rfl (.upd rfl (.upd rfl .refl)))), (by kernel_rfl)⟩
      refine kp 4 (.bool b71) ?_
      refine WpOps.nil (thenK_at (Wp.ret (blockK_ret (thenK_ret ?_))))
      refine endK_retn [Value.bool b71] (Value.bool b71) (by kernel_rfl) (by kernel_rfl) ?_
      have e : b71 = decide (Fits r.length (rowAt r 0).size 1 row col n t) := by
        have ha : allB t 32 126 = true := (allB_iff _ _ _).2 fun p hp2 => hp p (by omega)
        rw [hb71, hb66, hb61, cond_and', cond_and', cond_and', Bool.eq_iff_iff]
        simp only [Bool.and_eq_true, decide_eq_true_eq]
        unfold Fits
        constructor
        · rintro ⟨⟨⟨q1, q2⟩, q3⟩, q4⟩
          exact .inr (.inl ⟨rfl, by omega, ha, by omega⟩)
        · rintro (h | ⟨_, q1, _, q3⟩ | h)
          · omega
          · omega
          · omega
      rw [← e]
      rfl
  have e1 := bne_f h1
  by_cases h2 : op = 2
  · subst h2
    refine Wp.seq (Wp.text ?_)
    refine md 2 (.pointer (some ⟨0, 0, none⟩)) (Blk.mk 30 true [Value.iface 9 (Value.iface (List.length r) (Value.iface x (Value.agg (List.toArray (List.map Value.string r))))), Value.iface 9 (Value.iface (List.length m) (Value.iface y (Value.agg (List.toArray (List.map Value.string m))))), Value.int .i64 i, Value.int .i64 j]) ?_
    refine md 3 (.pointer (some ⟨1, 0, none⟩)) (Blk.mk 34 true [Value.int .i64 2, Value.int .i64 row, Value.int .i64 col, Value.int .i64 n, Value.string t]) ?_
    refine kp 4 (.bool false) ?_
    refine WpOps.nil (thenK_at (Wp.seq (Wp.seq (Wp.text ?_))))
    refine kp 6 (.pointer (some ⟨1, 0, none⟩)) ?_
    refine kp 7 (.int IntKind.i64 2) ?_
    refine WpOps.nil (thenK_at (Wp.block (Wp.seq (Wp.text ?_))))
    refine kp 9 (.bool false) ?_
    refine kp 8 (.bool false) ?_
    refine WpOps.nil (thenK_at (off' (Wp.seq (Wp.text ?_))))
    refine kp 37 (.bool false) ?_
    refine kp 36 (.bool false) ?_
    refine WpOps.nil (thenK_at (off' (Wp.seq (Wp.seq (Wp.text ?_)))))
    refine kp 73 (.bool true) ?_
    refine kp 72 (.bool true) ?_
    refine WpOps.nil (thenK_at (on' (Wp.skip (thenK_at (on' (Wp.seq (Wp.text ?_)))))))
    refine kp 4 (.bool true) ?_
    refine WpOps.nil (thenK_at (Wp.ret (blockK_ret (thenK_ret ?_))))
    refine endK_retn [Value.bool true] (Value.bool true) (by kernel_rfl) (by kernel_rfl) ?_
    rw [decide_eq_true (by unfold Fits; omega)]
    rfl
  have e2 := bne_f h2
  by_cases h3 : op = 3
  · subst h3
    refine Wp.seq (Wp.text ?_)
    refine md 2 (.pointer (some ⟨0, 0, none⟩)) (Blk.mk 30 true [Value.iface 9 (Value.iface (List.length r) (Value.iface x (Value.agg (List.toArray (List.map Value.string r))))), Value.iface 9 (Value.iface (List.length m) (Value.iface y (Value.agg (List.toArray (List.map Value.string m))))), Value.int .i64 i, Value.int .i64 j]) ?_
    refine md 3 (.pointer (some ⟨1, 0, none⟩)) (Blk.mk 34 true [Value.int .i64 3, Value.int .i64 row, Value.int .i64 col, Value.int .i64 n, Value.string t]) ?_
    refine kp 4 (.bool false) ?_
    refine WpOps.nil (thenK_at (Wp.seq (Wp.seq (Wp.text ?_))))
    refine kp 6 (.pointer (some ⟨1, 0, none⟩)) ?_
    refine kp 7 (.int IntKind.i64 3) ?_
    refine WpOps.nil (thenK_at (Wp.block (Wp.seq (Wp.text ?_))))
    refine kp 9 (.bool false) ?_
    refine kp 8 (.bool false) ?_
    refine WpOps.nil (thenK_at (off' (Wp.seq (Wp.text ?_))))
    refine kp 37 (.bool false) ?_
    refine kp 36 (.bool false) ?_
    refine WpOps.nil (thenK_at (off' (Wp.seq (Wp.seq (Wp.text ?_)))))
    refine kp 73 (.bool false) ?_
    refine kp 72 (.bool false) ?_
    refine WpOps.nil (thenK_at (off' (Wp.seq (Wp.text ?_))))
    refine kp 74 (.bool true) ?_
    refine kp 72 (.bool true) ?_
    refine WpOps.nil (thenK_at (on' (Wp.skip (thenK_at (on' (Wp.seq (Wp.text ?_)))))))
    refine kp 4 (.bool true) ?_
    refine WpOps.nil (thenK_at (Wp.ret (blockK_ret (thenK_ret ?_))))
    refine endK_retn [Value.bool true] (Value.bool true) (by kernel_rfl) (by kernel_rfl) ?_
    rw [decide_eq_true (by unfold Fits; omega)]
    rfl
  have e3 := bne_f h3
  by_cases h5 : op = 5
  · subst h5
    refine Wp.seq (Wp.text ?_)
    refine md 2 (.pointer (some ⟨0, 0, none⟩)) (Blk.mk 30 true [Value.iface 9 (Value.iface (List.length r) (Value.iface x (Value.agg (List.toArray (List.map Value.string r))))), Value.iface 9 (Value.iface (List.length m) (Value.iface y (Value.agg (List.toArray (List.map Value.string m))))), Value.int .i64 i, Value.int .i64 j]) ?_
    refine md 3 (.pointer (some ⟨1, 0, none⟩)) (Blk.mk 34 true [Value.int .i64 5, Value.int .i64 row, Value.int .i64 col, Value.int .i64 n, Value.string t]) ?_
    refine kp 4 (.bool false) ?_
    refine WpOps.nil (thenK_at (Wp.seq (Wp.seq (Wp.text ?_))))
    refine kp 6 (.pointer (some ⟨1, 0, none⟩)) ?_
    refine kp 7 (.int IntKind.i64 5) ?_
    refine WpOps.nil (thenK_at (Wp.block (Wp.seq (Wp.text ?_))))
    refine kp 9 (.bool false) ?_
    refine kp 8 (.bool false) ?_
    refine WpOps.nil (thenK_at (off' (Wp.seq (Wp.text ?_))))
    refine kp 37 (.bool false) ?_
    refine kp 36 (.bool false) ?_
    refine WpOps.nil (thenK_at (off' (Wp.seq (Wp.seq (Wp.text ?_)))))
    refine kp 73 (.bool false) ?_
    refine kp 72 (.bool false) ?_
    refine WpOps.nil (thenK_at (off' (Wp.seq (Wp.text ?_))))
    refine kp 74 (.bool false) ?_
    refine kp 72 (.bool false) ?_
    refine WpOps.nil (thenK_at (off' (Wp.text ?_)))
    refine kp 75 (.bool true) ?_
    refine kp 72 (.bool true) ?_
    refine WpOps.nil (thenK_at (on' (Wp.seq (Wp.text ?_))))
    refine kp 4 (.bool true) ?_
    refine WpOps.nil (thenK_at (Wp.ret (blockK_ret (thenK_ret ?_))))
    refine endK_retn [Value.bool true] (Value.bool true) (by kernel_rfl) (by kernel_rfl) ?_
    rw [decide_eq_true (by unfold Fits; omega)]
    rfl
  have e5 := bne_f h5
  by_cases h4 : op = 4
  · subst h4
    refine Wp.seq (Wp.text ?_)
    refine md 2 (.pointer (some ⟨0, 0, none⟩)) (Blk.mk 30 true [Value.iface 9 (Value.iface (List.length r) (Value.iface x (Value.agg (List.toArray (List.map Value.string r))))), Value.iface 9 (Value.iface (List.length m) (Value.iface y (Value.agg (List.toArray (List.map Value.string m))))), Value.int .i64 i, Value.int .i64 j]) ?_
    refine md 3 (.pointer (some ⟨1, 0, none⟩)) (Blk.mk 34 true [Value.int .i64 4, Value.int .i64 row, Value.int .i64 col, Value.int .i64 n, Value.string t]) ?_
    refine kp 4 (.bool false) ?_
    refine WpOps.nil (thenK_at (Wp.seq (Wp.seq (Wp.text ?_))))
    refine kp 6 (.pointer (some ⟨1, 0, none⟩)) ?_
    refine kp 7 (.int IntKind.i64 4) ?_
    refine WpOps.nil (thenK_at (Wp.block (Wp.seq (Wp.text ?_))))
    refine kp 9 (.bool false) ?_
    refine kp 8 (.bool false) ?_
    refine WpOps.nil (thenK_at (off' (Wp.seq (Wp.text ?_))))
    refine kp 37 (.bool false) ?_
    refine kp 36 (.bool false) ?_
    refine WpOps.nil (thenK_at (off' (Wp.seq (Wp.seq (Wp.text ?_)))))
    refine kp 73 (.bool false) ?_
    refine kp 72 (.bool false) ?_
    refine WpOps.nil (thenK_at (off' (Wp.seq (Wp.text ?_))))
    refine kp 74 (.bool false) ?_
    refine kp 72 (.bool false) ?_
    refine WpOps.nil (thenK_at (off' (Wp.text ?_)))
    refine kp 75 (.bool false) ?_
    refine kp 72 (.bool false) ?_
    refine WpOps.nil (thenK_at (off' (Wp.seq (Wp.text ?_))))
    refine kp 77 (.bool true) ?_
    refine kp 76 (.bool true) ?_
    refine WpOps.nil (thenK_at (on' (Wp.seq (Wp.text ?_))))
    refine kp 78 (.pointer (some ⟨1, 3, none⟩)) ?_
    refine kp 79 (.int IntKind.i64 n) ?_
    refine kp 80 (.bool (decide (n ≥ 0))) ?_
    refine kp 81 (.bool (decide (n ≥ 0))) ?_
    refine WpOps.fork 4 (decide (n ≥ 0)) [82, 83, 84, 85] 85 (decide (n ≤ 7)) (false) (by kernel_rfl) (fun g85 => ?_) (fun g85 => ?_) (fun f_85 b85 hb85 => ?_)
    · refine kp 82 (.pointer (some ⟨1, 3, none⟩)) ?_ (hw := wants_tt g85)
      refine kp 83 (.int IntKind.i64 n) ?_ (hw := wants_tt g85)
      refine kp 84 (.bool (decide (n ≤ 7))) ?_ (hw := wants_tt g85)
      refine kp 85 (.bool (decide (n ≤ 7))) ?_ (hop := fun _ => o_pickT g85)
      refine WpOps.nil ?_
      exact ⟨rfl, (.upd rfl (.upd rfl (.upd rfl (.upd rfl .refl)))), (by kernel_rfl)⟩
    · refine um 82 ?_ (hw := wants_ft g85)
      refine um 83 ?_ (hw := wants_ft g85)
      refine um 84 ?_ (hw := wants_ft g85)
      refine kp 85 (.bool false) ?_ (hop := fun _ => o_pickF g85)
      refine WpOps.nil ?_
      exact ⟨rfl, (.upd rfl (.upd rfl (.upd rfl (.upd rfl .refl)))), (by kernel_rfl)⟩
    refine kp 4 (.bool b85) ?_
    refine WpOps.nil (thenK_at (Wp.ret (blockK_ret (thenK_ret ?_))))
    refine endK_retn [Value.bool b85] (Value.bool b85) (by kernel_rfl) (by kernel_rfl) ?_
    have e : b85 = decide (Fits r.length (rowAt r 0).size 4 row col n t) := by
      rw [hb85, cond_and', Bool.eq_iff_iff]
      simp only [Bool.and_eq_true, decide_eq_true_eq]
      unfold Fits
      omega
    rw [← e]
    rfl
  have e4 := bne_f h4
  by_cases h6 : op = 6
  · subst h6
    have c1 := shown48 n
    refine Wp.seq (Wp.text ?_)
    refine md 2 (.pointer (some ⟨0, 0, none⟩)) (Blk.mk 30 true [Value.iface 9 (Value.iface (List.length r) (Value.iface x (Value.agg (List.toArray (List.map Value.string r))))), Value.iface 9 (Value.iface (List.length m) (Value.iface y (Value.agg (List.toArray (List.map Value.string m))))), Value.int .i64 i, Value.int .i64 j]) ?_
    refine md 3 (.pointer (some ⟨1, 0, none⟩)) (Blk.mk 34 true [Value.int .i64 6, Value.int .i64 row, Value.int .i64 col, Value.int .i64 n, Value.string t]) ?_
    refine kp 4 (.bool false) ?_
    refine WpOps.nil (thenK_at (Wp.seq (Wp.seq (Wp.text ?_))))
    refine kp 6 (.pointer (some ⟨1, 0, none⟩)) ?_
    refine kp 7 (.int IntKind.i64 6) ?_
    refine WpOps.nil (thenK_at (Wp.block (Wp.seq (Wp.text ?_))))
    refine kp 9 (.bool false) ?_
    refine kp 8 (.bool false) ?_
    refine WpOps.nil (thenK_at (off' (Wp.seq (Wp.text ?_))))
    refine kp 37 (.bool false) ?_
    refine kp 36 (.bool false) ?_
    refine WpOps.nil (thenK_at (off' (Wp.seq (Wp.seq (Wp.text ?_)))))
    refine kp 73 (.bool false) ?_
    refine kp 72 (.bool false) ?_
    refine WpOps.nil (thenK_at (off' (Wp.seq (Wp.text ?_))))
    refine kp 74 (.bool false) ?_
    refine kp 72 (.bool false) ?_
    refine WpOps.nil (thenK_at (off' (Wp.text ?_)))
    refine kp 75 (.bool false) ?_
    refine kp 72 (.bool false) ?_
    refine WpOps.nil (thenK_at (off' (Wp.seq (Wp.text ?_))))
    refine kp 77 (.bool false) ?_
    refine kp 76 (.bool false) ?_
    refine WpOps.nil (thenK_at (off' (Wp.seq (Wp.text ?_))))
    refine kp 87 (.bool true) ?_
    refine kp 86 (.bool true) ?_
    refine WpOps.nil (thenK_at (on' (Wp.seq ?_)))
    refine Wp.region (by kernel_rfl) ?_
    refine kp 88 (.pointer (some ⟨1, 1, none⟩)) ?_
    refine kp 89 (.int IntKind.i64 row) ?_
    refine kp 90 (.bool (decide (row ≥ 1))) ?_
    refine kp 91 (.bool (decide (row ≥ 1))) ?_
    refine WpOps.fork 7 (decide (row ≥ 1)) [92, 93, 94, 95, 96, 97, 98] 98 (decide (row ≤ (↑(List.length r) : Int))) (false) (by kernel_rfl) (fun g98 => ?_) (fun g98 => ?_) (fun f_98 b98 hb98 => ?_)
    · refine kp 92 (.pointer (some ⟨1, 1, none⟩)) ?_ (hw := wants_tt g98)
      refine kp 93 (.int IntKind.i64 row) ?_ (hw := wants_tt g98)
      refine kp 94 (.pointer (some ⟨0, 0, none⟩)) ?_ (hw := wants_tt g98)
      refine kp 95 (.iface 9 (Value.iface (List.length r) (Value.iface x (Value.agg (List.toArray (List.map Value.string r)))))) ?_ (hw := wants_tt g98)
      refine kp 96 (.int IntKind.i64 (↑(List.length r) : Int)) ?_ (hw := wants_tt g98)
      refine kp 97 (.bool (decide (row ≤ (↑(List.length r) : Int)))) ?_ (hw := wants_tt g98)
      refine kp 98 (.bool (decide (row ≤ (↑(List.length r) : Int)))) ?_ (hop := fun _ => o_pickT g98)
      refine WpOps.nil ?_
      exact ⟨rfl, (.upd rfl (.upd rfl (.upd rfl (.upd rfl (.upd rfl (.upd rfl (.upd rfl .refl))))))), (by kernel_rfl)⟩
    · refine um 92 ?_ (hw := wants_ft g98)
      refine um 93 ?_ (hw := wants_ft g98)
      refine um 94 ?_ (hw := wants_ft g98)
      refine um 95 ?_ (hw := wants_ft g98)
      refine um 96 ?_ (hw := wants_ft g98)
      refine um 97 ?_ (hw := wants_ft g98)
      refine kp 98 (.bool false) ?_ (hop := fun _ => o_pickF g98)
      refine WpOps.nil ?_
      exact ⟨rfl, (.upd rfl (.upd rfl (.upd rfl (.upd rfl (.upd rfl (.upd rfl (.upd rfl .refl))))))), (by kernel_rfl)⟩
    refine kp 99 (.bool b98) ?_
    refine WpOps.fork 4 (b98) [100, 101, 102, 103] 103 (decide (col ≥ 1)) (false) (by kernel_rfl) (fun g103 => ?_) (fun g103 => ?_) (fun f_103 b103 hb103 => ?_)
    · refine kp 100 (.pointer (some ⟨1, 2, none⟩)) ?_ (hw := wants_tt g103)
      refine kp 101 (.int IntKind.i64 col) ?_ (hw := wants_tt g103)
      refine kp 102 (.bool (decide (col ≥ 1))) ?_ (hw := wants_tt g103)
      refine kp 103 (.bool (decide (col ≥ 1))) ?_ (hop := fun _ => o_pickT g103)
      refine WpOps.nil ?_
      exact ⟨rfl, (.upd rfl (.upd rfl (.upd rfl (.upd rfl .refl)))), (by kernel_rfl)⟩
    · refine um 100 ?_ (hw := wants_ft g103)
      refine um 101 ?_ (hw := wants_ft g103)
      refine um 102 ?_ (hw := wants_ft g103)
      refine kp 103 (.bool false) ?_ (hop := fun _ => o_pickF g103)
      refine WpOps.nil ?_
      exact ⟨rfl, (.upd rfl (.upd rfl (.upd rfl (.upd rfl .refl)))), (by kernel_rfl)⟩
    refine kp 104 (.bool b103) ?_
    refine WpOps.fork 9 (b103) [105, 106, 107, 108, 109, 110, 111, 112, 113] 113 (decide (col ≤ (↑(ByteArray.size (rowAt r 0)) : Int))) (false) (by kernel_rfl) (fun g113 => ?_) (fun g113 => ?_) (fun f_113 b113 hb113 => ?_)
    · refine kp 105 (.pointer (some ⟨1, 2, none⟩)) ?_ (hw := wants_tt g113)
      refine kp 106 (.int IntKind.i64 col) ?_ (hw := wants_tt g113)
      refine kp 107 (.pointer (some ⟨0, 0, none⟩)) ?_ (hw := wants_tt g113)
      refine kp 108 (.iface 9 (Value.iface (List.length r) (Value.iface x (Value.agg (List.toArray (List.map Value.string r)))))) ?_ (hw := wants_tt g113)
      refine kp 109 (.iface 9 (Value.iface 0 (Value.agg (List.toArray (List.map Value.string r))))) ?_ (hw := wants_tt g113) (hop := fun _ => o_indexI (e := 9) (size := 1) (a := 0) l1)
      refine kp 110 (.string (rowAt r 0)) ?_ (hw := wants_tt g113) (hop := fun _ => o_loadI1 (0) v0)
      refine kp 111 (.int IntKind.i64 (↑(ByteArray.size (rowAt r 0)) : Int)) ?_ (hw := wants_tt g113)
      refine kp 112 (.bool (decide (col ≤ (↑(ByteArray.size (rowAt r 0)) : Int)))) ?_ (hw := wants_tt g113)
      refine kp 113 (.bool (decide (col ≤ (↑(ByteArray.size (rowAt r 0)) : Int)))) ?_ (hop := fun _ => o_pickT g113)
      refine WpOps.nil ?_
      exact ⟨rfl, (.upd rfl (.upd rfl (.upd rfl (.upd rfl (.upd rfl (.upd rfl (.upd rfl (.upd rfl (.upd rfl .refl))))))))), (by kernel_rfl)⟩
    · refine um 105 ?_ (hw := wants_ft g113)
      refine um 106 ?_ (hw := wants_ft g113)
      refine um 107 ?_ (hw := wants_ft g113)
      refine um 108 ?_ (hw := wants_ft g113)
      refine um 109 ?_ (hw := wants_ft g113)
      refine um 110 ?_ (hw := wants_ft g113)
      refine um 111 ?_ (hw := wants_ft g113)
      refine um 112 ?_ (hw := wants_ft g113)
      refine kp 113 (.bool false) ?_ (hop := fun _ => o_pickF g113)
      refine WpOps.nil ?_
      exact ⟨rfl, (.upd rfl (.upd rfl (.upd rfl (.upd rfl (.upd rfl (.upd rfl (.upd rfl (.upd rfl (.upd rfl .refl))))))))), (by kernel_rfl)⟩
    refine kp 114 (.bool b113) ?_
    refine WpOps.fork 4 (b113) [115, 116, 117, 118] 118 (shB n) (false) (by kernel_rfl) (fun g118 => ?_) (fun g118 => ?_) (fun f_118 b118 hb118 => ?_)
    · refine kp 115 (.pointer (some ⟨1, 3, none⟩)) ?_ (hw := wants_tt g118)
      refine kp 116 (.int IntKind.i64 n) ?_ (hw := wants_tt g118)
      refine fr 117 48 [Value.int .i64 n] ?_ (hw := wants_tt g118)
      refine WpFun.of (c1) ?_
      refine kp 118 (.bool (shB n)) ?_ (hop := fun _ => o_pickT g118)
      refine WpOps.nil ?_
      exact ⟨rfl, (.upd rfl (.upd rfl (.upd rfl (.upd rfl .refl)))), (by kernel_rfl)⟩
    · refine um 115 ?_ (hw := wants_ft g118)
      refine um 116 ?_ (hw := wants_ft g118)
      refine um 117 ?_ (hw := wants_ft g118)
      refine kp 118 (.bool false) ?_ (hop := fun _ => o_pickF g118)
      refine WpOps.nil ?_
      exact ⟨rfl, (.upd rfl (.upd rfl (.upd rfl (.upd rfl .refl)))), (by kernel_rfl)⟩
    refine kp 4 (.bool b118) ?_
    refine WpOps.nil (thenK_at (Wp.ret (blockK_ret (thenK_ret ?_))))
    refine endK_retn [Value.bool b118] (Value.bool b118) (by kernel_rfl) (by kernel_rfl) ?_
    have e : b118 = decide (Fits r.length (rowAt r 0).size 6 row col n t) := by
      rw [hb118, hb113, hb103, hb98, cond_and', cond_and', cond_and', cond_and', shB, cond_and', Bool.eq_iff_iff]
      simp only [Bool.and_eq_true, decide_eq_true_eq]
      unfold Fits
      omega
    rw [← e]
    rfl
  have e6 := bne_f h6
  refine Wp.seq (Wp.text ?_)
  refine md 2 (.pointer (some ⟨0, 0, none⟩)) (Blk.mk 30 true [Value.iface 9 (Value.iface (List.length r) (Value.iface x (Value.agg (List.toArray (List.map Value.string r))))), Value.iface 9 (Value.iface (List.length m) (Value.iface y (Value.agg (List.toArray (List.map Value.string m))))), Value.int .i64 i, Value.int .i64 j]) ?_
  refine md 3 (.pointer (some ⟨1, 0, none⟩)) (Blk.mk 34 true [Value.int .i64 op, Value.int .i64 row, Value.int .i64 col, Value.int .i64 n, Value.string t]) ?_
  refine kp 4 (.bool false) ?_
  refine WpOps.nil (thenK_at (Wp.seq (Wp.seq (Wp.text ?_))))
  refine kp 6 (.pointer (some ⟨1, 0, none⟩)) ?_
  refine kp 7 (.int IntKind.i64 op) ?_
  refine WpOps.nil (thenK_at (Wp.block (Wp.seq (Wp.text ?_))))
  refine kp 9 (.bool false) ?_ (hop := fun _ => by_fact e0)
  refine kp 8 (.bool false) ?_
  refine WpOps.nil (thenK_at (off' (Wp.seq (Wp.text ?_))))
  refine kp 37 (.bool false) ?_ (hop := fun _ => by_fact e1)
  refine kp 36 (.bool false) ?_
  refine WpOps.nil (thenK_at (off' (Wp.seq (Wp.seq (Wp.text ?_)))))
  refine kp 73 (.bool false) ?_ (hop := fun _ => by_fact e2)
  refine kp 72 (.bool false) ?_
  refine WpOps.nil (thenK_at (off' (Wp.seq (Wp.text ?_))))
  refine kp 74 (.bool false) ?_ (hop := fun _ => by_fact e3)
  refine kp 72 (.bool false) ?_
  refine WpOps.nil (thenK_at (off' (Wp.text ?_)))
  refine kp 75 (.bool false) ?_ (hop := fun _ => by_fact e5)
  refine kp 72 (.bool false) ?_
  refine WpOps.nil (thenK_at (off' (Wp.seq (Wp.text ?_))))
  refine kp 77 (.bool false) ?_ (hop := fun _ => by_fact e4)
  refine kp 76 (.bool false) ?_
  refine WpOps.nil (thenK_at (off' (Wp.seq (Wp.text ?_))))
  refine kp 87 (.bool false) ?_ (hop := fun _ => by_fact e6)
  refine kp 86 (.bool false) ?_
  refine WpOps.nil (thenK_at (off' (Wp.skip (blockK_norm (thenK_at (Wp.seq (Wp.text ?_)))))))
  refine kp 4 (.bool false) ?_
  refine WpOps.nil (thenK_at (Wp.ret ?_))
  refine endK_retn [Value.bool false] (Value.bool false) (by kernel_rfl) (by kernel_rfl) ?_
  rw [decide_eq_false (by unfold Fits; omega)]
  rfl

/-! ## own, cell -/
theorem f68 : E.funcs 68 = some Try.f68 := by kernel_rfl
theorem own68 (x y : Nat) (r m : List ByteArray) (i j : Int) (hr : 1 ≤ r.length) (hr2 : r.length ≤ 1000) (hm : 1 ≤ m.length) (hm2 : m.length ≤ 1000) :
    Lent E 68 [dv x y r m i j] [] (.agg #[.slice (some ⟨0, 0, none⟩) r.length r.length, .slice (some ⟨1, 0, none⟩) m.length m.length, .int .i64 i, .int .i64 j]) [sB r, sB m] := by
  refine Lent.of f68 rfl (of_decide_eq_true (by kernel_rfl)) rfl rfl (Nat.zero_le _) rfl (by
    rw [List.all_cons, List.all_cons, List.all_nil, Bool.and_true, Bool.and_eq_true]
    exact ⟨flat_ok (strs_flat _), flat_ok (strs_flat _)⟩) rfl ?_
  have a1 : ¬ (0 + r.length ≤ 0) := by omega
  have a2 : 1 ≤ 16 ∧ (0 + r.length) * 16 ≤ 140737488355328 ∧ 1 = 1 ∧ 0 + r.length ≤ 9223372036854775807 := by omega
  have a3 : ¬ (0 + m.length ≤ 0) := by omega
  have a4 : 1 ≤ 16 ∧ (0 + m.length) * 16 ≤ 140737488355328 ∧ 1 = 1 ∧ 0 + m.length ≤ 9223372036854775807 := by omega
  unfold dv strs
  refine Wp.seq (Wp.text ?_)
  refine md 1 (.pointer (some ⟨0, 0, none⟩)) (Blk.mk 30 true [Value.iface 9 (Value.iface (List.length r) (Value.iface x (Value.agg (List.toArray (List.map Value.string r))))), Value.iface 9 (Value.iface (List.length m) (Value.iface y (Value.agg (List.toArray (List.map Value.string m))))), Value.int .i64 i, Value.int .i64 j]) ?_
  refine md 2 (.pointer (some ⟨1, 0, none⟩)) (Blk.mk 30 true [Value.slice none 0 0, Value.slice none 0 0, Value.int .i64 0, Value.int .i64 0]) ?_
  refine WpOps.nil (thenK_at (Wp.seq (Wp.text ?_)))
  refine md 3 (.slice (some ⟨2, 0, none⟩) 0 0) (Blk.mk 9 true []) ?_
  refine kp 4 (.pointer (some ⟨0, 0, none⟩)) ?_
  refine kp 5 (.iface 9 (Value.iface (List.length r) (Value.iface x (Value.agg (List.toArray (List.map Value.string r)))))) ?_
  refine ra 6 (.slice (some ⟨3, 0, none⟩) (0 + List.length r) (0 + List.length r)) (2) (Blk.mk 9 true ([] ++ Array.toList (List.toArray (List.map Value.string r)))) ?_ (hop := fun _ => o_append (e := 9) 2 (0) (0) _ (0) a1 a2)
  refine kp 7 (.pointer (some ⟨0, 0, none⟩)) ?_
  refine ld (.tuple #[]) (0) (Blk.mk 30 true [Value.slice (some ⟨3, 0, none⟩) (0 + List.length r) (0 + List.length r), Value.iface 9 (Value.iface (List.length m) (Value.iface y (Value.agg (List.toArray (List.map Value.string m))))), Value.int .i64 i, Value.int .i64 j]) ?_
  refine WpOps.nil (thenK_at (Wp.seq (Wp.text ?_)))
  refine md 8 (.slice (some ⟨4, 0, none⟩) 0 0) (Blk.mk 9 true []) ?_
  refine kp 9 (.pointer (some ⟨0, 1, none⟩)) ?_
  refine kp 10 (.iface 9 (Value.iface (List.length m) (Value.iface y (Value.agg (List.toArray (List.map Value.string m)))))) ?_
  refine ra 11 (.slice (some ⟨5, 0, none⟩) (0 + List.length m) (0 + List.length m)) (4) (Blk.mk 9 true ([] ++ Array.toList (List.toArray (List.map Value.string m)))) ?_ (hop := fun _ => o_append (e := 9) 4 (0) (0) _ (0) a3 a4)
  refine kp 12 (.pointer (some ⟨0, 1, none⟩)) ?_
  refine ld (.tuple #[]) (0) (Blk.mk 30 true [Value.slice (some ⟨3, 0, none⟩) (0 + List.length r) (0 + List.length r), Value.slice (some ⟨5, 0, none⟩) (0 + List.length m) (0 + List.length m), Value.int .i64 i, Value.int .i64 j]) ?_
  refine WpOps.nil (thenK_at (Wp.seq (Wp.text ?_)))
  refine kp 13 (.agg #[Value.slice (some ⟨3, 0, none⟩) (0 + List.length r) (0 + List.length r), Value.slice (some ⟨5, 0, none⟩) (0 + List.length m) (0 + List.length m), Value.int .i64 i, Value.int .i64 j]) ?_
  refine ld (.tuple #[]) (1) (Blk.mk 30 true [Value.slice (some ⟨3, 0, none⟩) (0 + List.length r) (0 + List.length r), Value.slice (some ⟨5, 0, none⟩) (0 + List.length m) (0 + List.length m), Value.int .i64 i, Value.int .i64 j]) ?_
  refine WpOps.nil (thenK_at (Wp.ret ?_))
  refine endK_retn [Value.agg #[Value.slice (some (Addr.mk 3 0 none)) (0 + List.length r) (0 + List.length r), Value.slice (some (Addr.mk 5 0 none)) (0 + List.length m) (0 + List.length m), Value.int IntKind.i64 i, Value.int IntKind.i64 j]] (Value.agg #[Value.slice (some (Addr.mk 3 0 none)) (0 + List.length r) (0 + List.length r), Value.slice (some (Addr.mk 5 0 none)) (0 + List.length m) (0 + List.length m), Value.int IntKind.i64 i, Value.int IntKind.i64 j]) (by kernel_rfl) (by kernel_rfl) ?_
  exact ⟨[3, 5], by decide, by kernel_rfl, ⟨⟨_, by kernel_rfl, told_eq rfl (strs_flat _)⟩, ⟨_, by kernel_rfl, told_eq rfl (strs_flat _)⟩, trivial⟩, .w (.un (by simp only [Nat.zero_add]; rfl) rfl)⟩
def rB (n k : Nat) (i j : Int) : Blk := ⟨30, true, [.slice (some ⟨1, 0, none⟩) n n, .slice (some ⟨2, 0, none⟩) k k, .int .i64 i, .int .i64 j]⟩
theorem rsp_ok (n k : Nat) (i j : Int) (r m : List ByteArray) : ([rB n k i j, sB r, sB m]).all (fun x => x.cells.all (okC 3)) = true := by
  rw [List.all_cons, List.all_cons, List.all_cons, List.all_nil, Bool.and_true, Bool.and_eq_true, Bool.and_eq_true]
  exact ⟨rfl, flat_ok (strs_flat _), flat_ok (strs_flat _)⟩
/-- A display's blocks. -/
def rBs (R C : Nat) (f g : Nat → Nat → UInt8) (i j : Int) : List Blk := [rB R R i j, sB (mkR R C f), sB (mkR R C g)]
def one (b : UInt8) : ByteArray := ⟨#[b]⟩
theorem one_size (b : UInt8) : (one b).size = 1 := rfl
theorem b_id (b : UInt8) : UInt8.ofNat ((b.toNat : Int)).toNat = b := by simp
theorem f69 : E.funcs 69 = some Try.f69 := by kernel_rfl
set_option maxHeartbeats 4000000 in
theorem cell69 (r m : List ByteArray) (i j : Int) (k c mk : Nat) (b : UInt8) (hk : k < r.length) (hm : k < m.length) (ha : (rowAt r k).size ≤ 80) (hb : (rowAt m k).size = (rowAt r k).size) (hc : c + 1 ≤ (rowAt r k).size) (hmk : mk ≤ 7) :
    Lent E 69 [.pointer (some ⟨0, 0, none⟩), .int .i64 k, .int .i64 c, .int .u8 b.toNat, .int .i64 mk] [rB r.length m.length i j, sB r, sB m] (.tuple #[]) [rB r.length m.length i j, sB (r.set k (lay (rowAt r k) (one b) c)), sB (m.set k (lay (rowAt m k) (one (UInt8.ofNat (48 + mk))) c))] := by
  refine Lent.of f69 rfl (of_decide_eq_true (by kernel_rfl)) rfl rfl (Nat.le_refl _) rfl (rsp_ok _ _ _ _ _ _) rfl ?_
  have l1 : 0 ≤ (k : Int) ∧ (k : Int) < r.length := by omega
  have v1 := strs_at0 r k hk
  have l2 : 0 ≤ (k : Int) ∧ (k : Int) < m.length := by omega
  have v2 := strs_at0 m k hm
  have w : IntKind.i64.wrap ((c : Int) + 1) = ((c + 1 : Nat) : Int) := wr _ (by omega) (by omega)
  have z1 : 0 ≤ (c : Int) ∧ (c : Int) ≤ (rowAt r k).size := by omega
  have y1 : 0 ≤ (c : Int) ∧ (c : Int) ≤ (rowAt m k).size := by omega
  have s1 : ((rowAt r k).extract 0 (c : Int).toNat).size ≤ 80 := by rw [ByteArray.size_extract]; omega
  have s2 : ((rowAt m k).extract 0 (c : Int).toNat).size ≤ 80 := by rw [ByteArray.size_extract]; omega
  have t1 : ((rowAt r k).extract (IntKind.i64.wrap ((c : Int) + 1)).toNat (rowAt r k).size).size ≤ 80 := by rw [ByteArray.size_extract]; omega
  have t2 : ((rowAt m k).extract (IntKind.i64.wrap ((c : Int) + 1)).toNat (rowAt m k).size).size ≤ 80 := by rw [ByteArray.size_extract]; omega
  have z2 : ((((rowAt r k).extract 0 (c : Int).toNat).size + (ByteArray.mk #[UInt8.ofNat ((b.toNat : Int)).toNat]).size : Nat) : Int) ≤ 9223372036854775807 := by
    show (((((rowAt r k).extract 0 (c : Int).toNat).size + 1 : Nat) : Int)) ≤ _
    omega
  have y2 : ((((rowAt m k).extract 0 (c : Int).toNat).size + (ByteArray.mk #[UInt8.ofNat (IntKind.u8.wrap (IntKind.i64.wrap (48 + (mk : Int)))).toNat]).size : Nat) : Int) ≤ 9223372036854775807 := by
    show (((((rowAt m k).extract 0 (c : Int).toNat).size + 1 : Nat) : Int)) ≤ _
    omega
  have z3 : 0 ≤ IntKind.i64.wrap ((c : Int) + 1) ∧ IntKind.i64.wrap ((c : Int) + 1) ≤ (rowAt r k).size := by rw [w]; omega
  have y3 : 0 ≤ IntKind.i64.wrap ((c : Int) + 1) ∧ IntKind.i64.wrap ((c : Int) + 1) ≤ (rowAt m k).size := by rw [w]; omega
  have z4 : ((((rowAt r k).extract 0 (c : Int).toNat ++ (ByteArray.mk #[UInt8.ofNat ((b.toNat : Int)).toNat])).size + ((rowAt r k).extract (IntKind.i64.wrap ((c : Int) + 1)).toNat (rowAt r k).size).size : Nat) : Int) ≤ 9223372036854775807 := by
    rw [ByteArray.size_append]
    show (((((rowAt r k).extract 0 (c : Int).toNat).size + 1 + _ : Nat) : Int)) ≤ _
    omega
  have y4 : ((((rowAt m k).extract 0 (c : Int).toNat ++ (ByteArray.mk #[UInt8.ofNat (IntKind.u8.wrap (IntKind.i64.wrap (48 + (mk : Int)))).toNat])).size + ((rowAt m k).extract (IntKind.i64.wrap ((c : Int) + 1)).toNat (rowAt m k).size).size : Nat) : Int) ≤ 9223372036854775807 := by
    rw [ByteArray.size_append]
    show (((((rowAt m k).extract 0 (c : Int).toNat).size + 1 + _ : Nat) : Int)) ≤ _
    omega
  have z5 : true = true ∧ 0 + (k : Int).toNat * 1 + [Value.string ((rowAt r k).extract 0 (c : Int).toNat ++ (ByteArray.mk #[UInt8.ofNat ((b.toNat : Int)).toNat]) ++ (rowAt r k).extract (IntKind.i64.wrap ((c : Int) + 1)).toNat (rowAt r k).size)].length ≤ (r.map Value.string).length := by
    simp only [List.length_map, List.length_singleton, true_and]; omega
  have y5 : true = true ∧ 0 + (k : Int).toNat * 1 + [Value.string ((rowAt m k).extract 0 (c : Int).toNat ++ (ByteArray.mk #[UInt8.ofNat (IntKind.u8.wrap (IntKind.i64.wrap (48 + (mk : Int)))).toNat]) ++ (rowAt m k).extract (IntKind.i64.wrap ((c : Int) + 1)).toNat (rowAt m k).size)].length ≤ (m.map Value.string).length := by
    simp only [List.length_map, List.length_singleton, true_and]; omega
  unfold rB sB
  refine Wp.seq ?_
  refine Wp.region (by kernel_rfl) ?_
  refine kp 12 (.pointer (some ⟨0, 0, none⟩)) ?_
  refine kp 13 (.pointer (some ⟨0, 0, none⟩)) ?_
  refine kp 14 (.pointer (some ⟨0, 0, none⟩)) ?_
  refine kp 15 (.slice (some ⟨1, 0, none⟩) (List.length r) (List.length r)) ?_
  refine kp 16 (.int IntKind.i64 (↑k : Int)) ?_
  refine kp 17 (.pointer (some (Addr.mk 1 (0 + Int.toNat (↑k : Int) * 1) none))) ?_ (hop := fun _ => o_indexAddr (a := (↑k : Int)) (bl := 1) (off := 0) (size := 1) 9 (List.length r) l1)
  refine kp 18 (.string (rowAt r k)) ?_ (hop := fun _ => o_load1 1 (0 + Int.toNat (↑k : Int) * 1) v1)
  refine kp 19 (.pointer (some ⟨0, 0, none⟩)) ?_
  refine kp 20 (.pointer (some ⟨0, 0, none⟩)) ?_
  refine kp 21 (.pointer (some ⟨0, 1, none⟩)) ?_
  refine kp 22 (.slice (some ⟨2, 0, none⟩) (List.length m) (List.length m)) ?_
  refine kp 23 (.int IntKind.i64 (↑k : Int)) ?_
  refine kp 24 (.pointer (some (Addr.mk 2 (0 + Int.toNat (↑k : Int) * 1) none))) ?_ (hop := fun _ => o_indexAddr (a := (↑k : Int)) (bl := 2) (off := 0) (size := 1) 9 (List.length m) l2)
  refine kp 25 (.string (rowAt m k)) ?_ (hop := fun _ => o_load1 2 (0 + Int.toNat (↑k : Int) * 1) v2)
  refine kp 10 (.string (rowAt r k)) ?_
  refine kp 11 (.string (rowAt m k)) ?_
  refine WpOps.nil (thenK_at (Wp.seq ?_))
  refine Wp.region (by kernel_rfl) ?_
  refine kp 26 (.pointer (some ⟨0, 0, none⟩)) ?_
  refine kp 27 (.pointer (some ⟨0, 0, none⟩)) ?_
  refine kp 28 (.pointer (some ⟨0, 0, none⟩)) ?_
  refine kp 29 (.slice (some ⟨1, 0, none⟩) (List.length r) (List.length r)) ?_
  refine kp 30 (.int IntKind.i64 (↑k : Int)) ?_
  refine kp 31 (.string (rowAt r k)) ?_
  refine kp 32 (.int IntKind.i64 (↑c : Int)) ?_
  refine kp 33 (.string (ByteArray.extract (rowAt r k) 0 (Int.toNat (↑c : Int)))) ?_ (hop := fun _ => o_cut_hi z1)
  refine kp 34 (.int IntKind.u8 (↑(UInt8.toNat b) : Int)) ?_
  refine md 35 (.slice (some ⟨3, 0, none⟩) 1 1) (Blk.mk 5 true [Value.int .u8 (↑(UInt8.toNat b) : Int)]) ?_
  refine kp 36 (.string (ByteArray.mk #[UInt8.ofNat (Int.toNat (↑(UInt8.toNat b) : Int))])) ?_
  refine kp 37 (.string (ByteArray.extract (rowAt r k) 0 (Int.toNat (↑c : Int)) ++ ByteArray.mk #[UInt8.ofNat (Int.toNat (↑(UInt8.toNat b) : Int))])) ?_ (hop := fun _ => o_add z2)
  refine kp 38 (.string (rowAt r k)) ?_
  refine kp 39 (.int IntKind.i64 (↑c : Int)) ?_
  refine kp 40 (.int IntKind.i64 (IntKind.wrap .i64 ((↑c : Int) + 1))) ?_
  refine kp 41 (.string (ByteArray.extract (rowAt r k) (Int.toNat (IntKind.wrap .i64 ((↑c : Int) + 1))) (ByteArray.size (rowAt r k)))) ?_ (hop := fun _ => o_cut_lo z3)
  refine kp 42 (.string (ByteArray.extract (rowAt r k) 0 (Int.toNat (↑c : Int)) ++ ByteArray.mk #[UInt8.ofNat (Int.toNat (↑(UInt8.toNat b) : Int))] ++ ByteArray.extract (rowAt r k) (Int.toNat (IntKind.wrap .i64 ((↑c : Int) + 1))) (ByteArray.size (rowAt r k)))) ?_ (hop := fun _ => o_add z4)
  refine kp 43 (.pointer (some (Addr.mk 1 (0 + Int.toNat (↑k : Int) * 1) none))) ?_ (hop := fun _ => o_indexAddr (a := (↑k : Int)) (bl := 1) (off := 0) (size := 1) 9 (List.length r) l1)
  refine ld (.tuple #[]) (1) (Blk.mk 9 true (List.set (List.map Value.string r) (0 + Int.toNat (↑k : Int) * 1) (Value.string (ByteArray.extract (rowAt r k) 0 (Int.toNat (↑c : Int)) ++ ByteArray.mk #[UInt8.ofNat (Int.toNat (↑(UInt8.toNat b) : Int))] ++ ByteArray.extract (rowAt r k) (Int.toNat (IntKind.wrap .i64 ((↑c : Int) + 1))) (ByteArray.size (rowAt r k)))))) ?_ (hop := fun _ => o_store1 1 (0 + Int.toNat (↑k : Int) * 1) z5)
  refine WpOps.nil (thenK_at ?_)
  refine Wp.region (by kernel_rfl) ?_
  refine kp 44 (.pointer (some ⟨0, 0, none⟩)) ?_
  refine kp 45 (.pointer (some ⟨0, 0, none⟩)) ?_
  refine kp 46 (.pointer (some ⟨0, 1, none⟩)) ?_
  refine kp 47 (.slice (some ⟨2, 0, none⟩) (List.length m) (List.length m)) ?_
  refine kp 48 (.int IntKind.i64 (↑k : Int)) ?_
  refine kp 49 (.string (rowAt m k)) ?_
  refine kp 50 (.int IntKind.i64 (↑c : Int)) ?_
  refine kp 51 (.string (ByteArray.extract (rowAt m k) 0 (Int.toNat (↑c : Int)))) ?_ (hop := fun _ => o_cut_hi y1)
  refine kp 52 (.int IntKind.i64 (↑mk : Int)) ?_
  refine kp 53 (.int IntKind.i64 (IntKind.wrap .i64 (48 + (↑mk : Int)))) ?_
  refine kp 54 (.int IntKind.u8 (IntKind.wrap .u8 (IntKind.wrap .i64 (48 + (↑mk : Int))))) ?_
  refine md 55 (.slice (some ⟨4, 0, none⟩) 1 1) (Blk.mk 5 true [Value.int .u8 (IntKind.wrap .u8 (IntKind.wrap .i64 (48 + (↑mk : Int))))]) ?_
  refine kp 56 (.string (ByteArray.mk #[UInt8.ofNat (Int.toNat (IntKind.wrap .u8 (IntKind.wrap .i64 (48 + (↑mk : Int)))))])) ?_
  refine kp 57 (.string (ByteArray.extract (rowAt m k) 0 (Int.toNat (↑c : Int)) ++ ByteArray.mk #[UInt8.ofNat (Int.toNat (IntKind.wrap .u8 (IntKind.wrap .i64 (48 + (↑mk : Int)))))])) ?_ (hop := fun _ => o_add y2)
  refine kp 58 (.string (rowAt m k)) ?_
  refine kp 59 (.int IntKind.i64 (↑c : Int)) ?_
  refine kp 60 (.int IntKind.i64 (IntKind.wrap .i64 ((↑c : Int) + 1))) ?_
  refine kp 61 (.string (ByteArray.extract (rowAt m k) (Int.toNat (IntKind.wrap .i64 ((↑c : Int) + 1))) (ByteArray.size (rowAt m k)))) ?_ (hop := fun _ => o_cut_lo y3)
  refine kp 62 (.string (ByteArray.extract (rowAt m k) 0 (Int.toNat (↑c : Int)) ++ ByteArray.mk #[UInt8.ofNat (Int.toNat (IntKind.wrap .u8 (IntKind.wrap .i64 (48 + (↑mk : Int)))))] ++ ByteArray.extract (rowAt m k) (Int.toNat (IntKind.wrap .i64 ((↑c : Int) + 1))) (ByteArray.size (rowAt m k)))) ?_ (hop := fun _ => o_add y4)
  refine kp 63 (.pointer (some (Addr.mk 2 (0 + Int.toNat (↑k : Int) * 1) none))) ?_ (hop := fun _ => o_indexAddr (a := (↑k : Int)) (bl := 2) (off := 0) (size := 1) 9 (List.length m) l2)
  refine ld (.tuple #[]) (2) (Blk.mk 9 true (List.set (List.map Value.string m) (0 + Int.toNat (↑k : Int) * 1) (Value.string (ByteArray.extract (rowAt m k) 0 (Int.toNat (↑c : Int)) ++ ByteArray.mk #[UInt8.ofNat (Int.toNat (IntKind.wrap .u8 (IntKind.wrap .i64 (48 + (↑mk : Int)))))] ++ ByteArray.extract (rowAt m k) (Int.toNat (IntKind.wrap .i64 ((↑c : Int) + 1))) (ByteArray.size (rowAt m k)))))) ?_ (hop := fun _ => o_store1 2 (0 + Int.toNat (↑k : Int) * 1) y5)
  refine WpOps.nil ?_
  refine endK_norm [] (Value.tuple #[]) (by kernel_rfl) (by kernel_rfl) ?_
  have e : (IntKind.i64.wrap ((c : Int) + 1)).toNat = c + 1 := by rw [w]; omega
  have d1 : (r.map Value.string).set (0 + (k : Int).toNat * 1) (.string ((rowAt r k).extract 0 (c : Int).toNat ++ (ByteArray.mk #[UInt8.ofNat ((b.toNat : Int)).toNat]) ++ (rowAt r k).extract (IntKind.i64.wrap ((c : Int) + 1)).toNat (rowAt r k).size)) = (r.set k (lay (rowAt r k) (one b) c)).map Value.string := by
    rw [map_set, e, Nat.zero_add, Nat.mul_one, Int.toNat_natCast, Int.toNat_natCast, b_id]; rfl
  have d2 : (m.map Value.string).set (0 + (k : Int).toNat * 1) (.string ((rowAt m k).extract 0 (c : Int).toNat ++ (ByteArray.mk #[UInt8.ofNat (IntKind.u8.wrap (IntKind.i64.wrap (48 + (mk : Int)))).toNat]) ++ (rowAt m k).extract (IntKind.i64.wrap ((c : Int) + 1)).toNat (rowAt m k).size)) = (m.set k (lay (rowAt m k) (one (UInt8.ofNat (48 + mk))) c)).map Value.string := by
    rw [map_set, e, Nat.zero_add, Nat.mul_one, Int.toNat_natCast, Int.toNat_natCast, mk_w mk hmk]; rfl
  exact ⟨[0, 1, 2], by decide, by kernel_rfl, ⟨⟨_, by kernel_rfl, .cons (.inl ⟨rfl, rfl⟩) (.cons (.inl ⟨rfl, rfl⟩) (.cons (.inl ⟨rfl, rfl⟩) (.cons (.inl ⟨rfl, rfl⟩) .nil)))⟩, ⟨_, by kernel_rfl, told_eq d1 (strs_flat _)⟩, ⟨_, by kernel_rfl, told_eq d2 (strs_flat _)⟩, trivial⟩, .w (.un rfl rfl)⟩
theorem cellM (R C : Nat) (f g : Nat → Nat → UInt8) (i j : Int) (k c mk : Nat) (b : UInt8) (hk : k < R) (hC : C ≤ 80) (hc : c < C) (hmk : mk ≤ 7) :
    Lent E 69 [.pointer (some ⟨0, 0, none⟩), .int .i64 k, .int .i64 c, .int .u8 b.toNat, .int .i64 mk] (rBs R C f g i j) (.tuple #[]) (rBs R C (putF f k c (one b)) (putF g k c (one (UInt8.ofNat (48 + mk)))) i j) := by
  have h := cell69 (mkR R C f) (mkR R C g) i j k c mk b (by rw [mkR_len]; exact hk) (by rw [mkR_len]; exact hk) (by rw [mkR_size hk]; exact hC) (by rw [mkR_size hk, mkR_size hk]) (by rw [mkR_size hk]; exact hc) hmk
  rw [mkR_set hk (by rw [one_size]; exact hc), mkR_set hk (by rw [one_size]; exact hc), mkR_len, mkR_len] at h
  exact h

/-! ## line, blank -/
theorem f76 : E.funcs 76 = some Try.f76 := by kernel_rfl
theorem fill_succ (b : UInt8) (n : Nat) : fillS b n ++ one b = fillS b (n + 1) := by
  apply ByteArray.ext
  apply Array.toList_inj.1
  rw [ByteArray.data_append, Array.toList_append]
  show List.replicate n b ++ [b] = List.replicate (n + 1) b
  rw [← List.replicate_succ']
theorem line76 (n : Nat) (b : UInt8) (hn : n ≤ 1000) : Fun E 76 [.int .i64 n, .string (one b)] (.string (fillS b n)) := by
  refine Fun.of f76 rfl (of_decide_eq_true (by kernel_rfl)) rfl ?_
  refine Wp.seq (Wp.text ?_)
  refine kp 4 (.string (ByteArray.mk #[])) ?_
  refine WpOps.nil (thenK_at (Wp.seq (Wp.text ?_)))
  refine kp 5 (.string (ByteArray.mk #[])) ?_
  refine WpOps.nil (thenK_at (Wp.seq (Wp.seq (Wp.text ?_))))
  refine kp 6 (.int IntKind.i64 0) ?_
  refine WpOps.nil (thenK_at (Wp.block ?_))
  refine Wp.loop (G := Nat) (fun k => layj [(0, .int .i64 n), (1, .string (one b)), (5, .string (fillS b k)), (6, .int .i64 k)]) (fun _ => heapOf []) (fun k => n - k) (fun k => k ≤ n) 0
    (View.of [] [] _ (by decide) rfl trivial ⟨⟨by kernel_rfl, rfl⟩, ⟨by kernel_rfl, rfl⟩, ⟨by kernel_rfl, rfl⟩, ⟨by kernel_rfl, rfl⟩, trivial⟩) (Nat.zero_le _) ?_
  intro k hk
  refine Wp.seq (Wp.seq (Wp.text ?_))
  refine kp 7 (.int IntKind.i64 (↑k : Int)) ?_
  refine kp 8 (.int IntKind.i64 (↑n : Int)) ?_
  refine kp 9 (.bool (decide ((↑k : Int) < (↑n : Int)))) ?_
  refine WpOps.nil (thenK_at ?_)
  refine Wp.split (decide ((↑k : Int) < (↑n : Int))) (by kernel_rfl) (fun hc => ?_) (fun hc => ?_)
  · have hlt : (k : Int) < n := of_decide_eq_true hc
    have z : (((fillS b k).size + (one b).size : Nat) : Int) ≤ 9223372036854775807 := by rw [fillS_size, one_size]; omega
    refine Wp.skip (thenK_at (Wp.seq (Wp.block (Wp.text ?_))))
    refine kp 12 (.string (fillS b k)) ?_
    refine kp 13 (.string (one b)) ?_
    refine kp 14 (.string (fillS b k ++ one b)) ?_ (hop := fun _ => o_add z)
    refine kp 5 (.string (fillS b k ++ one b)) ?_
    refine WpOps.nil (blockK_norm (thenK_at (Wp.text ?_)))
    refine kp 10 (.int IntKind.i64 (↑k : Int)) ?_
    refine kp 11 (.int IntKind.i64 (IntKind.wrap .i64 ((↑k : Int) + 1))) ?_
    refine kp 6 (.int IntKind.i64 (IntKind.wrap .i64 ((↑k : Int) + 1))) ?_
    refine WpOps.nil (thenK_at ?_)
    exact ⟨k + 1, by omega, by omega, View.of [] [] _ (by decide) rfl trivial ⟨⟨by kernel_rfl, rfl⟩, ⟨by kernel_rfl, rfl⟩, ⟨congrArg Value.string (fill_succ b k), rfl⟩, ⟨congrArg (Value.int .i64) (wr _ (by omega) (by omega)), rfl⟩, trivial⟩⟩
  · have hle : ¬ ((k : Int) < n) := of_decide_eq_false hc
    obtain rfl : k = n := by omega
    refine Wp.exit (thenK_exit (thenK_exit (blockK_hit (thenK_at (Wp.seq (Wp.text ?_))))))
    refine kp 15 (.string (fillS b k)) ?_
    refine kp 4 (.string (fillS b k)) ?_
    refine WpOps.nil (thenK_at (Wp.ret ?_))
    refine endK_retn [Value.string (fillS b k)] (Value.string (fillS b k)) (by kernel_rfl) (by kernel_rfl) ?_
    rfl
theorem mkR_succ (k C : Nat) (b : UInt8) : mkR (k + 1) C (fun _ _ => b) = mkR k C (fun _ _ => b) ++ [fillS b C] := by
  unfold mkR
  rw [List.range_succ, List.map_append, List.map_singleton]
  congr 2
  simp only [fillS, List.map_const', List.length_range]
theorem mkR_cells (k C : Nat) (f : Nat → Nat → UInt8) : cellsAt ((mkR k C f).map Value.string) 0 (k * 1) = some ((mkR k C f).map Value.string) := by
  have hl : ((mkR k C f).map Value.string).length = k := by rw [List.length_map, mkR_len]
  unfold cellsAt
  rw [if_pos (by omega), List.drop_zero, List.take_of_length_le (by omega)]
theorem mkR_next (k C : Nat) (b : UInt8) : (mkR k C (fun _ _ => b)).map Value.string ++ [.string (fillS b C)] = (mkR (k + 1) C (fun _ _ => b)).map Value.string := by
  rw [mkR_succ, List.map_append]
  rfl
theorem f46 : E.funcs 46 = some Try.f46 := by kernel_rfl
def zB : Blk := ⟨30, true, [.slice none 0 0, .slice none 0 0, .int .i64 0, .int .i64 0]⟩
def wB (k : Nat) : Blk := ⟨30, true, [.slice (some ⟨2, 0, none⟩) k k, .slice (some ⟨3, 0, none⟩) k k, .int .i64 0, .int .i64 0]⟩
set_option maxHeartbeats 4000000 in
theorem blank46 (R C : Nat) (h0 : 1 ≤ R) (hR : R ≤ 40) (hC : C ≤ 80) : Fun E 46 [.int .i64 R, .int .i64 C] (dv 0 0 (mkR R C (fun _ _ => 32)) (mkR R C (fun _ _ => 48)) 0 0) := by
  refine Fun.of f46 rfl (of_decide_eq_true (by kernel_rfl)) (dv_ice _ _ _ _ _ _) ?_
  have c0 : decide ((0 : Int) < R) = true := decide_eq_true (by omega)
  have c1 : Fun E 76 [.int .i64 C, .string ⟨#[32]⟩] (.string (fillS 32 C)) := line76 C 32 (by omega)
  have c2 : Fun E 76 [.int .i64 C, .string ⟨#[48]⟩] (.string (fillS 48 C)) := line76 C 48 (by omega)
  refine Wp.seq (Wp.text ?_)
  refine md 4 (.pointer (some ⟨0, 0, none⟩)) (Blk.mk 30 true [Value.slice none 0 0, Value.slice none 0 0, Value.int .i64 0, Value.int .i64 0]) ?_
  refine WpOps.nil (thenK_at (Wp.seq (Wp.text ?_)))
  refine kp 7 (.agg #[Value.slice none 0 0, Value.slice none 0 0, Value.int .i64 0, Value.int .i64 0]) ?_
  refine md 5 (.pointer (some ⟨1, 0, none⟩)) (Blk.mk 30 true [Value.slice none 0 0, Value.slice none 0 0, Value.int .i64 0, Value.int .i64 0]) ?_
  refine ld (.tuple #[]) (1) (Blk.mk 30 true [Value.slice none 0 0, Value.slice none 0 0, Value.int .i64 0, Value.int .i64 0]) ?_
  refine WpOps.nil (thenK_at (Wp.seq (Wp.seq (Wp.text ?_))))
  refine kp 6 (.int IntKind.i64 0) ?_
  refine WpOps.nil (thenK_at (Wp.block ?_))
  refine Wp.unroll (WpL.step ?_)
  refine Wp.seq (Wp.seq (Wp.text ?_))
  refine kp 8 (.int IntKind.i64 0) ?_
  refine kp 9 (.int IntKind.i64 (↑R : Int)) ?_
  refine kp 10 (.bool true) ?_ (hop := fun _ => by_fact c0)
  refine WpOps.nil (thenK_at (on' (Wp.skip (thenK_at (Wp.seq (Wp.block (Wp.seq ?_)))))))
  refine Wp.region (by kernel_rfl) ?_
  refine kp 13 (.pointer (some ⟨1, 0, none⟩)) ?_
  refine kp 14 (.slice none 0 0) ?_
  refine kp 15 (.int IntKind.i64 (↑C : Int)) ?_
  refine fr 16 76 [Value.int .i64 (↑C : Int), Value.string (ByteArray.mk #[32])] ?_
  refine WpFun.of (c1) ?_
  refine md 17 (.slice (some ⟨2, 0, none⟩) 1 1) (Blk.mk 9 true [Value.string (fillS 32 C)]) ?_
  refine md 18 (.slice (some ⟨3, 0, none⟩) 1 1) (Blk.mk 9 true [Value.string (fillS 32 C)]) ?_
  refine kp 19 (.pointer (some ⟨1, 0, none⟩)) ?_
  refine ld (.tuple #[]) (1) (Blk.mk 30 true [Value.slice (some ⟨3, 0, none⟩) 1 1, Value.slice none 0 0, Value.int .i64 0, Value.int .i64 0]) ?_
  refine WpOps.nil (thenK_at ?_)
  refine Wp.region (by kernel_rfl) ?_
  refine kp 20 (.pointer (some ⟨1, 1, none⟩)) ?_
  refine kp 21 (.slice none 0 0) ?_
  refine kp 22 (.int IntKind.i64 (↑C : Int)) ?_
  refine fr 23 76 [Value.int .i64 (↑C : Int), Value.string (ByteArray.mk #[48])] ?_
  refine WpFun.of (c2) ?_
  refine md 24 (.slice (some ⟨4, 0, none⟩) 1 1) (Blk.mk 9 true [Value.string (fillS 48 C)]) ?_
  refine md 25 (.slice (some ⟨5, 0, none⟩) 1 1) (Blk.mk 9 true [Value.string (fillS 48 C)]) ?_
  refine kp 26 (.pointer (some ⟨1, 1, none⟩)) ?_
  refine ld (.tuple #[]) (1) (Blk.mk 30 true [Value.slice (some ⟨3, 0, none⟩) 1 1, Value.slice (some ⟨5, 0, none⟩) 1 1, Value.int .i64 0, Value.int .i64 0]) ?_
  refine WpOps.nil (blockK_norm (thenK_at (Wp.text ?_)))
  refine kp 11 (.int IntKind.i64 0) ?_
  refine kp 12 (.int IntKind.i64 (IntKind.wrap .i64 (0 + 1))) ?_
  refine kp 6 (.int IntKind.i64 (IntKind.wrap .i64 (0 + 1))) ?_
  refine WpOps.nil (thenK_at ?_)
  refine WpL.loop (G := Nat) (fun k => layj [(0, .int .i64 R), (1, .int .i64 C), (4, .pointer (some ⟨0, 0, none⟩)), (5, .pointer (some ⟨1, 0, none⟩)), (6, .int .i64 k)]) (fun k => heapOf [zB, wB k, sB (mkR k C (fun _ _ => 32)), sB (mkR k C (fun _ _ => 48))]) (fun k => R - k) (fun k => 1 ≤ k ∧ k ≤ R) 1
    (View.of [0, 1, 3, 5] [zB, wB 1, sB (mkR 1 C (fun _ _ => 32)), sB (mkR 1 C (fun _ _ => 48))] _ (by decide) rfl ⟨⟨_, by kernel_rfl, CellsOk.eq rfl rfl⟩, ⟨[.slice (some ⟨3, 0, none⟩) 1 1, .slice (some ⟨5, 0, none⟩) 1 1, .int .i64 0, .int .i64 0], by kernel_rfl, ⟨by kernel_rfl, by kernel_rfl⟩⟩, ⟨_, by kernel_rfl, CellsOk.eq (mkR_next 0 C 32) (strs_flat _)⟩, ⟨_, by kernel_rfl, CellsOk.eq (mkR_next 0 C 48) (strs_flat _)⟩, trivial⟩ ⟨⟨by kernel_rfl, rfl⟩, ⟨by kernel_rfl, rfl⟩, ⟨by kernel_rfl, rfl⟩, ⟨by kernel_rfl, rfl⟩, ⟨by kernel_rfl, rfl⟩, trivial⟩) ⟨Nat.le_refl _, h0⟩ ?_
  rintro k ⟨hk1, hk⟩
  unfold zB wB sB
  refine Wp.seq (Wp.seq (Wp.text ?_))
  refine kp 8 (.int IntKind.i64 (↑k : Int)) ?_
  refine kp 9 (.int IntKind.i64 (↑R : Int)) ?_
  refine kp 10 (.bool (decide ((↑k : Int) < (↑R : Int)))) ?_
  refine WpOps.nil (thenK_at ?_)
  refine Wp.split (decide ((↑k : Int) < (↑R : Int))) (by kernel_rfl) (fun hc => ?_) (fun hc => ?_)
  · have hlt : (k : Int) < R := of_decide_eq_true hc
    have a1 : ¬ (k + 1 ≤ k) := by omega
    have a2 : 1 ≤ 16 ∧ (k + 1) * 16 ≤ 140737488355328 ∧ 1 = 1 ∧ k + 1 ≤ 9223372036854775807 := by omega
    have a3 := mkR_cells k C (fun _ _ => 32)
    have a4 := mkR_cells k C (fun _ _ => 48)
    have fl1 := strs_flat (mkR k C (fun _ _ => 32))
    have fl2 := strs_flat (mkR k C (fun _ _ => 48))
    refine Wp.skip (thenK_at (Wp.seq (Wp.block (Wp.seq ?_))))
    refine Wp.region (by kernel_rfl) ?_
    refine kp 13 (.pointer (some ⟨1, 0, none⟩)) ?_
    refine kp 14 (.slice (some ⟨2, 0, none⟩) k k) ?_
    refine kp 15 (.int IntKind.i64 (↑C : Int)) ?_
    refine fr 16 76 [Value.int .i64 (↑C : Int), Value.string (ByteArray.mk #[32])] ?_
    refine WpFun.of (c1) ?_
    refine md 17 (.slice (some ⟨4, 0, none⟩) 1 1) (Blk.mk 9 true [Value.string (fillS 32 C)]) ?_
    refine ra 18 (.slice (some ⟨5, 0, none⟩) (k + 1) (k + 1)) (2) (Blk.mk 9 true (List.map Value.string (mkR k C fun x x_1 => 32) ++ [Value.string (fillS 32 C)])) ?_ (hop := fun _ => o_append (e := 9) 2 (0) (k) _ (k) a1 a2 a3)
    refine kp 19 (.pointer (some ⟨1, 0, none⟩)) ?_
    refine ld (.tuple #[]) (1) (Blk.mk 30 true [Value.slice (some ⟨5, 0, none⟩) (k + 1) (k + 1), Value.slice (some ⟨3, 0, none⟩) k k, Value.int .i64 0, Value.int .i64 0]) ?_
    refine WpOps.nil (thenK_at ?_)
    refine Wp.region (by kernel_rfl) ?_
    refine kp 20 (.pointer (some ⟨1, 1, none⟩)) ?_
    refine kp 21 (.slice (some ⟨3, 0, none⟩) k k) ?_
    refine kp 22 (.int IntKind.i64 (↑C : Int)) ?_
    refine fr 23 76 [Value.int .i64 (↑C : Int), Value.string (ByteArray.mk #[48])] ?_
    refine WpFun.of (c2) ?_
    refine md 24 (.slice (some ⟨6, 0, none⟩) 1 1) (Blk.mk 9 true [Value.string (fillS 48 C)]) ?_
    refine ra 25 (.slice (some ⟨7, 0, none⟩) (k + 1) (k + 1)) (3) (Blk.mk 9 true (List.map Value.string (mkR k C fun x x_1 => 48) ++ [Value.string (fillS 48 C)])) ?_ (hop := fun _ => o_append (e := 9) 3 (0) (k) _ (k) a1 a2 a4)
    refine kp 26 (.pointer (some ⟨1, 1, none⟩)) ?_
    refine ld (.tuple #[]) (1) (Blk.mk 30 true [Value.slice (some ⟨5, 0, none⟩) (k + 1) (k + 1), Value.slice (some ⟨7, 0, none⟩) (k + 1) (k + 1), Value.int .i64 0, Value.int .i64 0]) ?_
    refine WpOps.nil (blockK_norm (thenK_at (Wp.text ?_)))
    refine kp 11 (.int IntKind.i64 (↑k : Int)) ?_
    refine kp 12 (.int IntKind.i64 (IntKind.wrap .i64 ((↑k : Int) + 1))) ?_
    refine kp 6 (.int IntKind.i64 (IntKind.wrap .i64 ((↑k : Int) + 1))) ?_
    refine WpOps.nil (thenK_at ?_)
    refine ⟨k + 1, by omega, ⟨by omega, by omega⟩, ?_⟩
    exact View.of [0, 1, 5, 7] [zB, wB (k + 1), sB (mkR (k + 1) C (fun _ _ => 32)), sB (mkR (k + 1) C (fun _ _ => 48))] _ (by decide) rfl ⟨⟨_, by kernel_rfl, CellsOk.eq rfl rfl⟩, ⟨[.slice (some ⟨5, 0, none⟩) (k + 1) (k + 1), .slice (some ⟨7, 0, none⟩) (k + 1) (k + 1), .int .i64 0, .int .i64 0], by kernel_rfl, ⟨by kernel_rfl, by kernel_rfl⟩⟩, ⟨_, by kernel_rfl, CellsOk.eq (mkR_next k C 32) (strs_flat _)⟩, ⟨_, by kernel_rfl, CellsOk.eq (mkR_next k C 48) (strs_flat _)⟩, trivial⟩ ⟨⟨by kernel_rfl, rfl⟩, ⟨by kernel_rfl, rfl⟩, ⟨by kernel_rfl, rfl⟩, ⟨by kernel_rfl, rfl⟩, ⟨congrArg (Value.int .i64) (wr _ (by omega) (by omega)), rfl⟩, trivial⟩
  · have hle : ¬ ((k : Int) < R) := of_decide_eq_false hc
    obtain rfl : k = R := by omega
    have fl1 := strs_flat (mkR k C (fun _ _ => 32))
    have fl2 := strs_flat (mkR k C (fun _ _ => 48))
    refine Wp.exit (thenK_exit (thenK_exit (blockK_hit (thenK_at (Wp.seq (Wp.text ?_))))))
    refine kp 27 (.agg #[Value.slice (some ⟨2, 0, none⟩) k k, Value.slice (some ⟨3, 0, none⟩) k k, Value.int .i64 0, Value.int .i64 0]) ?_
    refine ld (.tuple #[]) (0) (Blk.mk 30 true [Value.slice (some ⟨2, 0, none⟩) k k, Value.slice (some ⟨3, 0, none⟩) k k, Value.int .i64 0, Value.int .i64 0]) ?_
    refine WpOps.nil (thenK_at (Wp.ret ?_))
    refine endK_retn [Value.agg #[Value.slice (some (Addr.mk 2 0 none)) k k, Value.slice (some (Addr.mk 3 0 none)) k k, Value.int IntKind.i64 0, Value.int IntKind.i64 0]] (Value.agg #[Value.slice (some (Addr.mk 2 0 none)) k k, Value.slice (some (Addr.mk 3 0 none)) k k, Value.int IntKind.i64 0, Value.int IntKind.i64 0]) (by kernel_rfl) (by kernel_rfl) ?_
    exact ice_dv (mkR k C (fun _ _ => 32)) (mkR k C (fun _ _ => 48)) 0 0 mkR_len.symm mkR_len.symm (by kernel_rfl) (by kernel_rfl)
end Go.Proofs.Ytlejgfeoffhjoaa.D
