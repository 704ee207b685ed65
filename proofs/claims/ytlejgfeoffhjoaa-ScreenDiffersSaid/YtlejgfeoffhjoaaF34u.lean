/- ref.apply: texts, rows, rectangles. -/
import Derived.Test.YtlejgfeoffhjoaaFwLem
import Derived.Test.YtlejgfeoffhjoaaF34t
namespace Go.Proofs.Ytlejgfeoffhjoaa.D
open Go.Fw Go.RowKit

theorem wrN {D : Nat} (h : D < 100000) : IntKind.i64.wrap (D : Int) = D := wr _ (by omega) (by omega)
theorem one_at (b : UInt8) : byteAt (one b) 0 = b := rfl
/-- One more cell of a text. -/
theorem tF_cell {R C p0 t : Nat} {s : ByteArray} {f : Nat → Nat → UInt8} (hC : 1 ≤ C) (ht : t < s.size) : mkR R C (putF (tF C p0 (s.extract 0 t) f) ((p0 + t) / C) ((p0 + t) % C) (one (byteAt s t))) = mkR R C (tF C p0 (s.extract 0 (t + 1)) f) := by
  have e := Nat.div_add_mod (p0 + t) C
  have hm := Nat.mod_lt (p0 + t) hC
  have q1 : (s.extract 0 t).size = t := by rw [ByteArray.size_extract]; omega
  have q2 : (s.extract 0 (t + 1)).size = t + 1 := by rw [ByteArray.size_extract]; omega
  refine tF_step (by rw [Nat.mul_comm]; omega) (by rw [one_size]; omega) (by rw [one_size]; omega) (fun k hk => by rw [byteAt_ext _ _ _ _ (by omega), byteAt_ext _ _ _ _ (by omega)]) (fun k hk => ?_)
  rw [one_size] at hk
  obtain rfl : k = 0 := by omega
  rw [byteAt_ext _ _ _ _ (by omega), one_at, q1]
  congr 1
  omega
theorem tF_fillc {R C p0 t : Nat} {b : UInt8} {f : Nat → Nat → UInt8} (hC : 1 ≤ C) : mkR R C (putF (tF C p0 (fillS b t) f) ((p0 + t) / C) ((p0 + t) % C) (one b)) = mkR R C (tF C p0 (fillS b (t + 1)) f) := by
  have e := Nat.div_add_mod (p0 + t) C
  have hm := Nat.mod_lt (p0 + t) hC
  refine tF_step (by rw [Nat.mul_comm, fillS_size]; omega) (by rw [one_size]; omega) (by rw [one_size, fillS_size, fillS_size]) (fun k hk => by rw [fillS_size] at hk; rw [fillS_at _ hk, fillS_at _ (by omega)]) (fun k hk => ?_)
  rw [one_size] at hk
  obtain rfl : k = 0 := by omega
  rw [fillS_size, fillS_at _ (by omega), one_at]
set_option maxHeartbeats 4000000 in
theorem rapply1 (x y R C : Nat) (f g : Nat → Nat → UInt8) (i j mk : Nat) (row col : Int) (t : ByteArray) (hi : i < R) (hj : j < C) (hR : R ≤ 40) (hC : C ≤ 80) (ht : t.size ≤ 1000000) (hmk : mk ≤ 7) :
    Fun E 42 [dv x y (mkR R C f) (mkR R C g) i j, uv 1 row col mk t] (dv 0 0 (mkR R C (tF C (i * C + j) t f)) (mkR R C (tF C (i * C + j) (fillS (UInt8.ofNat (48 + mk)) t.size) g)) ((min (i * C + j + t.size) (R * C - 1) / C : Nat) : Int) ((min (i * C + j + t.size) (R * C - 1) % C : Nat) : Int)) := by
  refine Fun.of f42 rfl (of_decide_eq_true (by kernel_rfl)) (dv_ice _ _ _ _ _ _) ?_
  have c1 := own68m x y R C f g i j (by omega) hR
  have l1 : 0 ≤ (0 : Int) ∧ (0 : Int) < (mkR R C f).length := by rw [mkR_len]; omega
  have v1 := strs_0 (mkR R C f) (by rw [mkR_len]; omega)
  have fl1 := strs_flat (mkR R C f)
  have fl2 := strs_flat (mkR R C g)
  unfold dv strs sB at c1
  unfold dv uv strs
  refine Wp.seq (Wp.text ?_)
  refine md 2 (.pointer (some ⟨0, 0, none⟩)) (Blk.mk 30 true [Value.iface 9 (Value.iface (List.length (mkR R C f)) (Value.iface x (Value.agg (List.toArray (List.map Value.string (mkR R C f)))))), Value.iface 9 (Value.iface (List.length (mkR R C g)) (Value.iface y (Value.agg (List.toArray (List.map Value.string (mkR R C g)))))), Value.int .i64 (↑i : Int), Value.int .i64 (↑j : Int)]) ?_
  refine md 3 (.pointer (some ⟨1, 0, none⟩)) (Blk.mk 34 true [Value.int .i64 1, Value.int .i64 row, Value.int .i64 col, Value.int .i64 (↑mk : Int), Value.string t]) ?_
  refine md 4 (.pointer (some ⟨2, 0, none⟩)) (Blk.mk 30 true [Value.slice none 0 0, Value.slice none 0 0, Value.int .i64 0, Value.int .i64 0]) ?_
  refine WpOps.nil (thenK_at (Wp.seq (Wp.text ?_)))
  refine kp 14 (.agg #[Value.iface 9 (Value.iface (List.length (mkR R C f)) (Value.iface x (Value.agg (List.toArray (List.map Value.string (mkR R C f)))))), Value.iface 9 (Value.iface (List.length (mkR R C g)) (Value.iface y (Value.agg (List.toArray (List.map Value.string (mkR R C g)))))), Value.int .i64 (↑i : Int), Value.int .i64 (↑j : Int)]) ?_
  refine cl 15 68 [Value.agg #[Value.iface 9 (Value.iface (List.length (mkR R C f)) (Value.iface x (Value.agg (List.toArray (List.map Value.string (mkR R C f)))))), Value.iface 9 (Value.iface (List.length (mkR R C g)) (Value.iface y (Value.agg (List.toArray (List.map Value.string (mkR R C g)))))), Value.int .i64 (↑i : Int), Value.int .i64 (↑j : Int)]] ?_
  refine WpCall.lent [] (c1) (by decide) trivial (by kernel_rfl) (Value.agg (List.toArray (List.map (unC [3, 4]) (Array.toList #[Value.slice (some (Addr.mk 0 0 none)) R R, Value.slice (some (Addr.mk 1 0 none)) R R, Value.int IntKind.i64 (↑i : Int), Value.int IntKind.i64 (↑j : Int)])))) ([Blk.mk 9 true (List.map Value.string (mkR R C f)), Blk.mk 9 true (List.map Value.string (mkR R C g))]) (.cons (unB_flat (by assumption)) (.cons (unB_flat (by assumption)) .nil)) (by kernel_rfl) (Heap.alloc (Heap.alloc (Heap.alloc (Heap.alloc (Heap.alloc Heap.none (Blk.mk 30 true [Value.iface 9 (Value.iface (List.length (mkR R C f)) (Value.iface x (Value.agg (List.toArray (List.map Value.string (mkR R C f)))))), Value.iface 9 (Value.iface (List.length (mkR R C g)) (Value.iface y (Value.agg (List.toArray (List.map Value.string (mkR R C g)))))), Value.int IntKind.i64 (↑i : Int), Value.int IntKind.i64 (↑j : Int)])) (Blk.mk 34 true [Value.int IntKind.i64 1, Value.int IntKind.i64 row, Value.int IntKind.i64 col, Value.int IntKind.i64 (↑mk : Int), Value.string t])) (Blk.mk 30 true [Value.slice none 0 0, Value.slice none 0 0, Value.int IntKind.i64 0, Value.int IntKind.i64 0])) (Blk.mk 9 true (List.map Value.string (mkR R C f)))) (Blk.mk 9 true (List.map Value.string (mkR R C g)))) (by kernel_rfl) ?_
  refine md 5 (.pointer (some ⟨5, 0, none⟩)) (Blk.mk 30 true [Value.slice none 0 0, Value.slice none 0 0, Value.int .i64 0, Value.int .i64 0]) ?_
  refine ld (.tuple #[]) (5) (Blk.mk 30 true [Value.slice (some (Addr.mk (List.getD [3, 4] 0 0) 0 none)) R R, Value.slice (some (Addr.mk (List.getD [3, 4] 1 0) 0 none)) R R, Value.int .i64 (↑i : Int), Value.int .i64 (↑j : Int)]) ?_
  refine WpOps.nil (thenK_at (Wp.seq ?_))
  refine Wp.region (by kernel_rfl) ?_
  refine kp 16 (.pointer (some ⟨0, 0, none⟩)) ?_
  refine kp 17 (.iface 9 (Value.iface (List.length (mkR R C f)) (Value.iface x (Value.agg (List.toArray (List.map Value.string (mkR R C f))))))) ?_
  refine kp 18 (.int IntKind.i64 (↑(List.length (mkR R C f)) : Int)) ?_
  refine kp 19 (.pointer (some ⟨0, 0, none⟩)) ?_
  refine kp 20 (.iface 9 (Value.iface (List.length (mkR R C f)) (Value.iface x (Value.agg (List.toArray (List.map Value.string (mkR R C f))))))) ?_
  refine kp 21 (.iface 9 (Value.iface 0 (Value.agg (List.toArray (List.map Value.string (mkR R C f)))))) ?_ (hop := fun _ => o_indexI (e := 9) (size := 1) (a := 0) l1)
  refine kp 22 (.string (rowAt (mkR R C f) 0)) ?_ (hop := fun _ => o_loadI1 (0) v1)
  refine kp 23 (.int IntKind.i64 (↑(ByteArray.size (rowAt (mkR R C f) 0)) : Int)) ?_
  refine kp 6 (.int IntKind.i64 (↑(List.length (mkR R C f)) : Int)) ?_
  refine kp 7 (.int IntKind.i64 (↑(ByteArray.size (rowAt (mkR R C f) 0)) : Int)) ?_
  refine WpOps.nil (thenK_at (Wp.seq (Wp.seq (Wp.text ?_))))
  refine kp 24 (.pointer (some ⟨1, 0, none⟩)) ?_
  refine kp 25 (.int IntKind.i64 1) ?_
  refine WpOps.nil (thenK_at (Wp.block (Wp.seq (Wp.text ?_))))
  refine kp 27 (.bool false) ?_
  refine kp 26 (.bool false) ?_
  refine WpOps.nil (thenK_at (off' (Wp.seq (Wp.text ?_))))
  refine kp 35 (.bool true) ?_
  refine kp 34 (.bool true) ?_
  refine WpOps.nil (thenK_at (on' (Wp.seq (Wp.text ?_))))
  refine kp 36 (.pointer (some ⟨0, 2, none⟩)) ?_
  refine kp 37 (.int IntKind.i64 (↑i : Int)) ?_
  refine kp 38 (.int IntKind.i64 (↑(ByteArray.size (rowAt (mkR R C f) 0)) : Int)) ?_
  refine kp 39 (.int IntKind.i64 (IntKind.wrap .i64 ((↑i : Int) * (↑(ByteArray.size (rowAt (mkR R C f) 0)) : Int)))) ?_
  refine kp 40 (.pointer (some ⟨0, 3, none⟩)) ?_
  refine kp 41 (.int IntKind.i64 (↑j : Int)) ?_
  refine kp 42 (.int IntKind.i64 (IntKind.wrap .i64 (IntKind.wrap .i64 ((↑i : Int) * (↑(ByteArray.size (rowAt (mkR R C f) 0)) : Int)) + (↑j : Int)))) ?_
  refine kp 8 (.int IntKind.i64 (IntKind.wrap .i64 (IntKind.wrap .i64 ((↑i : Int) * (↑(ByteArray.size (rowAt (mkR R C f) 0)) : Int)) + (↑j : Int)))) ?_
  refine WpOps.nil (thenK_at (Wp.seq (Wp.seq (Wp.text ?_))))
  refine kp 9 (.int IntKind.i64 0) ?_
  refine WpOps.nil (thenK_at (Wp.block ?_))
  obtain ⟨P, hP⟩ : ∃ P, P = i * C + j := ⟨_, rfl⟩
  have hlt0 := cell_lt hi hj
  have hRC : R * C ≤ 40 * 80 := Nat.mul_le_mul hR hC
  have e0 : (((rowAt (mkR R C f) 0).size : Nat) : Int) = C := by rw [mkR_size (by omega)]
  have e2 : (((mkR R C f).length : Nat) : Int) = R := by rw [mkR_len]
  have hmul : (i : Int) * C = ((i * C : Nat) : Int) := by rw [Int.natCast_mul]
  have hmulR : (R : Int) * C = ((R * C : Nat) : Int) := by rw [Int.natCast_mul]
  have e8 : IntKind.i64.wrap (IntKind.i64.wrap ((i : Int) * ((rowAt (mkR R C f) 0).size : Nat)) + j) = (P : Int) := by
    rw [e0, hmul, wr ((i * C : Nat) : Int) (by omega) (by omega), wr _ (by omega) (by omega)]
    omega
  rw [← hP]
  rw [← hP] at hlt0
  refine Wp.loop (G := Nat) (fun k => layj [(3, .pointer (some ⟨4, 0, none⟩)), (4, .pointer (some ⟨3, 0, none⟩)), (5, .pointer (some ⟨0, 0, none⟩)), (6, .int .i64 R), (7, .int .i64 C), (8, .int .i64 P), (9, .int .i64 k)]) (fun k => heapOf [rB R R i j, sB (mkR R C (tF C P (t.extract 0 k) f)), sB (mkR R C (tF C P (fillS (UInt8.ofNat (48 + mk)) k) g)), zB, ⟨34, true, [.int .i64 1, .int .i64 row, .int .i64 col, .int .i64 mk, .string t]⟩]) (fun k => t.size - k) (fun k => k ≤ t.size ∧ P + k ≤ R * C) 0 ?_ ⟨Nat.zero_le _, by omega⟩ ?_
  · have z1 : mkR R C f = mkR R C (tF C P (t.extract 0 0) f) := by
      refine mkR_congr fun x y _ _ => ?_
      unfold tF
      rw [ex_size t (by omega) (by omega), if_neg (by omega)]
    have z2 : mkR R C g = mkR R C (tF C P (fillS (UInt8.ofNat (48 + mk)) 0) g) := by
      refine mkR_congr fun x y _ _ => ?_
      unfold tF
      rw [fillS_size, if_neg (by omega)]
    exact View.of [5, 3, 4, 2, 1] [rB R R i j, sB (mkR R C (tF C P (t.extract 0 0) f)), sB (mkR R C (tF C P (fillS (UInt8.ofNat (48 + mk)) 0) g)), zB, ⟨34, true, [.int .i64 1, .int .i64 row, .int .i64 col, .int .i64 mk, .string t]⟩] _ (by decide) rfl
      ⟨⟨[.slice (some ⟨3, 0, none⟩) R R, .slice (some ⟨4, 0, none⟩) R R, .int .i64 i, .int .i64 j], by kernel_rfl, ⟨by kernel_rfl, by kernel_rfl⟩⟩, ⟨_, by kernel_rfl, CellsOk.eq (congrArg (List.map Value.string) z1) (strs_flat _)⟩, ⟨_, by kernel_rfl, CellsOk.eq (congrArg (List.map Value.string) z2) (strs_flat _)⟩, ⟨_, by kernel_rfl, CellsOk.eq rfl rfl⟩, ⟨_, by kernel_rfl, CellsOk.eq rfl rfl⟩, trivial⟩
      ⟨⟨by kernel_rfl, rfl⟩, ⟨by kernel_rfl, rfl⟩, ⟨by kernel_rfl, rfl⟩, ⟨congrArg (Value.int .i64) e2, rfl⟩, ⟨congrArg (Value.int .i64) e0, rfl⟩, ⟨congrArg (Value.int .i64) e8, rfl⟩, ⟨by kernel_rfl, rfl⟩, trivial⟩
  rintro k ⟨hk, hk2⟩
  have w1 : IntKind.i64.wrap ((P : Int) + k) = ((P + k : Nat) : Int) := by rw [wr _ (by omega) (by omega)]; omega
  have w2 : IntKind.i64.wrap ((R : Int) * C) = ((R * C : Nat) : Int) := by rw [hmulR, wr _ (by omega) (by omega)]
  unfold rB sB zB
  refine Wp.seq (Wp.seq (Wp.text ?_))
  refine kp 43 (.int IntKind.i64 (↑k : Int)) ?_
  refine kp 44 (.pointer (some ⟨4, 4, none⟩)) ?_
  refine kp 45 (.string t) ?_
  refine kp 46 (.int IntKind.i64 (↑(ByteArray.size t) : Int)) ?_
  refine kp 47 (.bool (decide ((↑k : Int) < (↑(ByteArray.size t) : Int)))) ?_
  refine kp 48 (.bool (decide ((↑k : Int) < (↑(ByteArray.size t) : Int)))) ?_
  refine WpOps.fork 8 (decide ((↑k : Int) < (↑(ByteArray.size t) : Int))) [49, 50, 51, 52, 53, 54, 55, 56] 56 (decide (IntKind.wrap IntKind.i64 ((↑P : Int) + (↑k : Int)) < IntKind.wrap IntKind.i64 ((↑R : Int) * (↑C : Int)))) (false) (by kernel_rfl) (fun g56 => ?_) (fun g56 => ?_) (fun f_56 b56 hb56 => ?_)
  · refine kp 49 (.int IntKind.i64 (↑P : Int)) ?_ (hw := wants_tt g56)
    refine kp 50 (.int IntKind.i64 (↑k : Int)) ?_ (hw := wants_tt g56)
    refine kp 51 (.int IntKind.i64 (IntKind.wrap .i64 ((↑P : Int) + (↑k : Int)))) ?_ (hw := wants_tt g56)
    refine kp 52 (.int IntKind.i64 (↑R : Int)) ?_ (hw := wants_tt g56)
    refine kp 53 (.int IntKind.i64 (↑C : Int)) ?_ (hw := wants_tt g56)
    refine kp 54 (.int IntKind.i64 (IntKind.wrap .i64 ((↑R : Int) * (↑C : Int)))) ?_ (hw := wants_tt g56)
    refine kp 55 (.bool (decide (IntKind.wrap .i64 ((↑P : Int) + (↑k : Int)) < IntKind.wrap .i64 ((↑R : Int) * (↑C : Int))))) ?_ (hw := wants_tt g56)
    refine kp 56 (.bool (decide (IntKind.wrap .i64 ((↑P : Int) + (↑k : Int)) < IntKind.wrap .i64 ((↑R : Int) * (↑C : Int))))) ?_ (hop := fun _ => o_pickT g56)
    refine WpOps.nil ?_
    exact ⟨rfl, (.upd rfl (.upd rfl (.upd rfl (.upd rfl (.upd rfl (.upd rfl (.upd rfl (.upd rfl .refl)))))))), (by kernel_rfl)⟩
  · refine um 49 ?_ (hw := wants_ft g56)
    refine um 50 ?_ (hw := wants_ft g56)
    refine um 51 ?_ (hw := wants_ft g56)
    refine um 52 ?_ (hw := wants_ft g56)
    refine um 53 ?_ (hw := wants_ft g56)
    refine um 54 ?_ (hw := wants_ft g56)
    refine um 55 ?_ (hw := wants_ft g56)
    refine kp 56 (.bool false) ?_ (hop := fun _ => o_pickF g56)
    refine WpOps.nil ?_
    exact ⟨rfl, (.upd rfl (.upd rfl (.upd rfl (.upd rfl (.upd rfl (.upd rfl (.upd rfl (.upd rfl .refl)))))))), (by kernel_rfl)⟩
  refine WpOps.nil (thenK_at ?_)
  refine Wp.split (b56) (by kernel_rfl) (fun hc => ?_) (fun hc => ?_)
  · have hkk : k < t.size ∧ P + k < R * C := by
      rw [hb56, cond_and', Bool.and_eq_true, decide_eq_true_eq, decide_eq_true_eq, w1, w2] at hc
      omega
    clear hb56
    have hC0 : ¬ ((C : Int) = 0) := by omega
    have m3 : 0 ≤ (k : Int) ∧ (k : Int) < t.size := by omega
    have n3 := byte_get t k (by omega)
    have c2 : Lent E 69 [.pointer (some ⟨0, 0, none⟩), .int .i64 (IntKind.i64.wrap ((IntKind.i64.wrap ((P : Int) + k)).tdiv C)), .int .i64 ((IntKind.i64.wrap ((P : Int) + k)).tmod C), .int .u8 (byteAt t k).toNat, .int .i64 mk] (rBs R C (tF C P (t.extract 0 k) f) (tF C P (fillS (UInt8.ofNat (48 + mk)) k) g) i j) (.tuple #[])
        (rBs R C (tF C P (t.extract 0 (k + 1)) f) (tF C P (fillS (UInt8.ofNat (48 + mk)) (k + 1)) g) i j) := by
      have hd : (P + k) / C < R := Nat.div_lt_of_lt_mul (by rw [Nat.mul_comm]; exact hkk.2)
      have hm := Nat.mod_lt (P + k) (show 0 < C by omega)
      have hw : IntKind.i64.wrap ((((P + k) / C : Nat) : Int)) = (((P + k) / C : Nat) : Int) := wrN (Nat.lt_of_lt_of_le hd (by omega))
      rw [w1, ← Int.ofNat_tdiv, ← Int.ofNat_tmod, hw]
      have h := cellM R C (tF C P (t.extract 0 k) f) (tF C P (fillS (UInt8.ofNat (48 + mk)) k) g) i j ((P + k) / C) ((P + k) % C) mk (byteAt t k) hd hC hm hmk
      unfold rBs at h ⊢
      rw [tF_cell (by omega) hkk.1, tF_fillc (by omega)] at h
      exact h
    have fl3 := strs_flat (mkR R C (tF C P (t.extract 0 k) f))
    have fl4 := strs_flat (mkR R C (tF C P (fillS (UInt8.ofNat (48 + mk)) k) g))
    have fl5 := strs_flat (mkR R C (tF C P (t.extract 0 (k + 1)) f))
    have fl6 := strs_flat (mkR R C (tF C P (fillS (UInt8.ofNat (48 + mk)) (k + 1)) g))
    unfold rBs rB sB at c2
    refine Wp.skip (thenK_at (Wp.seq (Wp.block ?_)))
    refine Wp.region (by kernel_rfl) ?_
    refine kp 59 (.int IntKind.i64 (↑P : Int)) ?_
    refine kp 60 (.int IntKind.i64 (↑k : Int)) ?_
    refine kp 61 (.int IntKind.i64 (IntKind.wrap .i64 ((↑P : Int) + (↑k : Int)))) ?_
    refine kp 62 (.int IntKind.i64 (↑C : Int)) ?_
    refine kp 63 (.int IntKind.i64 (IntKind.wrap .i64 (Int.tdiv (IntKind.wrap .i64 ((↑P : Int) + (↑k : Int))) (↑C : Int)))) ?_ (hop := fun _ => o_quo hC0)
    refine kp 64 (.int IntKind.i64 (↑P : Int)) ?_
    refine kp 65 (.int IntKind.i64 (↑k : Int)) ?_
    refine kp 66 (.int IntKind.i64 (IntKind.wrap .i64 ((↑P : Int) + (↑k : Int)))) ?_
    refine kp 67 (.int IntKind.i64 (↑C : Int)) ?_
    refine kp 68 (.int IntKind.i64 (Int.tmod (IntKind.wrap .i64 ((↑P : Int) + (↑k : Int))) (↑C : Int))) ?_ (hop := fun _ => o_rem hC0)
    refine kp 69 (.pointer (some ⟨4, 4, none⟩)) ?_
    refine kp 70 (.string t) ?_
    refine kp 71 (.int IntKind.i64 (↑k : Int)) ?_
    refine kp 72 (.int IntKind.u8 (↑(UInt8.toNat (byteAt t k)) : Int)) ?_ (hop := fun _ => o_indexStr (of_decide_eq_true (by kernel_rfl)) n3)
    refine kp 73 (.pointer (some ⟨4, 3, none⟩)) ?_
    refine kp 74 (.int IntKind.i64 (↑mk : Int)) ?_
    refine cl 75 69 [Value.pointer (some ⟨0, 0, none⟩), Value.int .i64 (IntKind.wrap .i64 (Int.tdiv (IntKind.wrap .i64 ((↑P : Int) + (↑k : Int))) (↑C : Int))), Value.int .i64 (Int.tmod (IntKind.wrap .i64 ((↑P : Int) + (↑k : Int))) (↑C : Int)), Value.int .u8 (↑(UInt8.toNat (byteAt t k)) : Int), Value.int .i64 (↑mk : Int)] ?_
    refine WpCall.lent [0, 1, 2] (c2) (by decide) ⟨⟨[Value.slice (some (Addr.mk 1 0 none)) R R, Value.slice (some (Addr.mk 2 0 none)) R R, Value.int IntKind.i64 (↑i : Int), Value.int IntKind.i64 (↑j : Int)], (by kernel_rfl), (by kernel_rfl), (by kernel_rfl)⟩, ⟨⟨_, (by kernel_rfl), CellsOk.eq rfl (by assumption)⟩, ⟨⟨_, (by kernel_rfl), CellsOk.eq rfl (by assumption)⟩, trivial⟩⟩⟩ (by kernel_rfl) (Value.tuple #[]) ([Blk.mk 30 true [Value.slice (some (Addr.mk (List.getD [0, 1, 2] 1 0) 0 none)) R R, Value.slice (some (Addr.mk (List.getD [0, 1, 2] 2 0) 0 none)) R R, Value.int IntKind.i64 (↑i : Int), Value.int IntKind.i64 (↑j : Int)], Blk.mk 9 true (List.map Value.string (mkR R C (tF C P (ByteArray.extract t 0 (k + 1)) f))), Blk.mk 9 true (List.map Value.string (mkR R C (tF C P (fillS (UInt8.ofNat (48 + mk)) (k + 1)) g)))]) (.cons (by kernel_rfl) (.cons (unB_flat (by assumption)) (.cons (unB_flat (by assumption)) .nil))) (by kernel_rfl) (Heap.set (Heap.set (Heap.set (heapOf [Blk.mk 30 true [Value.slice (some (Addr.mk 1 0 none)) R R, Value.slice (some (Addr.mk 2 0 none)) R R, Value.int IntKind.i64 (↑i : Int), Value.int IntKind.i64 (↑j : Int)], Blk.mk 9 true (List.map Value.string (mkR R C (tF C P (ByteArray.extract t 0 k) f))), Blk.mk 9 true (List.map Value.string (mkR R C (tF C P (fillS (UInt8.ofNat (48 + mk)) k) g))), Blk.mk 30 true [Value.slice none 0 0, Value.slice none 0 0, Value.int IntKind.i64 0, Value.int IntKind.i64 0], Blk.mk 34 true [Value.int IntKind.i64 1, Value.int IntKind.i64 row, Value.int IntKind.i64 col, Value.int IntKind.i64 (↑mk : Int), Value.string t]]) 0 (some (Blk.mk 30 true [Value.slice (some (Addr.mk 1 0 none)) R R, Value.slice (some (Addr.mk 2 0 none)) R R, Value.int IntKind.i64 (↑i : Int), Value.int IntKind.i64 (↑j : Int)]))) 1 (some (Blk.mk 9 true (List.map Value.string (mkR R C (tF C P (ByteArray.extract t 0 (k + 1)) f)))))) 2 (some (Blk.mk 9 true (List.map Value.string (mkR R C (tF C P (fillS (UInt8.ofNat (48 + mk)) (k + 1)) g)))))) (by kernel_rfl) ?_
    refine WpOps.nil (blockK_norm (thenK_at (Wp.text ?_)))
    refine kp 57 (.int IntKind.i64 (↑k : Int)) ?_
    refine kp 58 (.int IntKind.i64 (IntKind.wrap .i64 ((↑k : Int) + 1))) ?_
    refine kp 9 (.int IntKind.i64 (IntKind.wrap .i64 ((↑k : Int) + 1))) ?_
    refine WpOps.nil (thenK_at ?_)
    exact ⟨k + 1, by omega, ⟨by omega, by omega⟩, View.of [0, 1, 2, 3, 4] [rB R R i j, sB (mkR R C (tF C P (t.extract 0 (k + 1)) f)), sB (mkR R C (tF C P (fillS (UInt8.ofNat (48 + mk)) (k + 1)) g)), zB, ⟨34, true, [.int .i64 1, .int .i64 row, .int .i64 col, .int .i64 mk, .string t]⟩] _ (by decide) rfl
      ⟨⟨[.slice (some ⟨1, 0, none⟩) R R, .slice (some ⟨2, 0, none⟩) R R, .int .i64 i, .int .i64 j], by kernel_rfl, ⟨by kernel_rfl, by kernel_rfl⟩⟩, ⟨_, by kernel_rfl, CellsOk.eq rfl fl5⟩, ⟨_, by kernel_rfl, CellsOk.eq rfl fl6⟩, ⟨_, by kernel_rfl, CellsOk.eq rfl rfl⟩, ⟨_, by kernel_rfl, CellsOk.eq rfl rfl⟩, trivial⟩
      ⟨⟨by kernel_rfl, rfl⟩, ⟨by kernel_rfl, rfl⟩, ⟨by kernel_rfl, rfl⟩, ⟨by kernel_rfl, rfl⟩, ⟨by kernel_rfl, rfl⟩, ⟨by kernel_rfl, rfl⟩, ⟨congrArg (Value.int .i64) (wr _ (by omega) (by omega)), rfl⟩, trivial⟩⟩
  · have hkk : k = t.size ∨ R * C ≤ P + k := by
      rw [hb56, cond_and', Bool.and_eq_false_iff, decide_eq_false_iff_not, decide_eq_false_iff_not, w1, w2] at hc
      omega
    clear hb56
    have hC0 : ¬ ((C : Int) = 0) := by omega
    have w3 : IntKind.i64.wrap ((P : Int) + t.size) = ((P + t.size : Nat) : Int) := by rw [wr _ (by omega) (by omega)]; omega
    have w4 : IntKind.i64.wrap (IntKind.i64.wrap ((R : Int) * C) - 1) = ((R * C - 1 : Nat) : Int) := by rw [w2, wr _ (by omega) (by omega)]; omega
    have hmn : (if IntKind.i64.wrap (IntKind.i64.wrap ((R : Int) * C) - 1) < IntKind.i64.wrap ((P : Int) + t.size) then IntKind.i64.wrap (IntKind.i64.wrap ((R : Int) * C) - 1) else IntKind.i64.wrap ((P : Int) + t.size)) = ((min (P + t.size) (R * C - 1) : Nat) : Int) := by
      rw [w3, w4]
      split <;> omega
    have q1 : mkR R C (tF C P (t.extract 0 k) f) = mkR R C (tF C P t f) := tF_pre t k hk hkk
    have q2 : mkR R C (tF C P (fillS (UInt8.ofNat (48 + mk)) k) g) = mkR R C (tF C P (fillS (UInt8.ofNat (48 + mk)) t.size) g) := tF_fill _ k t.size hk hkk
    have fl3 := strs_flat (mkR R C (tF C P (t.extract 0 k) f))
    have fl4 := strs_flat (mkR R C (tF C P (fillS (UInt8.ofNat (48 + mk)) k) g))
    have hdle : min (P + t.size) (R * C - 1) / C ≤ R * C := Nat.le_trans (Nat.div_le_self _ _) (by omega)
    have e3 : IntKind.i64.wrap ((if IntKind.i64.wrap (IntKind.i64.wrap ((R : Int) * C) - 1) < IntKind.i64.wrap ((P : Int) + t.size) then IntKind.i64.wrap (IntKind.i64.wrap ((R : Int) * C) - 1) else IntKind.i64.wrap ((P : Int) + t.size)).tdiv C) = ((min (P + t.size) (R * C - 1) / C : Nat) : Int) := by
      rw [hmn, ← Int.ofNat_tdiv, wrN (Nat.lt_of_le_of_lt hdle (by omega))]
    have e4 : (if IntKind.i64.wrap (IntKind.i64.wrap ((R : Int) * C) - 1) < IntKind.i64.wrap ((P : Int) + t.size) then IntKind.i64.wrap (IntKind.i64.wrap ((R : Int) * C) - 1) else IntKind.i64.wrap ((P : Int) + t.size)).tmod C = ((min (P + t.size) (R * C - 1) % C : Nat) : Int) := by
      rw [hmn, ← Int.ofNat_tmod]
    refine Wp.exit (thenK_exit (thenK_exit (blockK_hit (thenK_at (Wp.seq (Wp.text ?_))))))
    refine kp 76 (.int IntKind.i64 (↑P : Int)) ?_
    refine kp 77 (.pointer (some ⟨4, 4, none⟩)) ?_
    refine kp 78 (.string t) ?_
    refine kp 79 (.int IntKind.i64 (↑(ByteArray.size t) : Int)) ?_
    refine kp 80 (.int IntKind.i64 (IntKind.wrap .i64 ((↑P : Int) + (↑(ByteArray.size t) : Int)))) ?_
    refine kp 81 (.int IntKind.i64 (↑R : Int)) ?_
    refine kp 82 (.int IntKind.i64 (↑C : Int)) ?_
    refine kp 83 (.int IntKind.i64 (IntKind.wrap .i64 ((↑R : Int) * (↑C : Int)))) ?_
    refine kp 84 (.int IntKind.i64 (IntKind.wrap .i64 (IntKind.wrap .i64 ((↑R : Int) * (↑C : Int)) - 1))) ?_
    refine kp 85 (.int IntKind.i64 (if IntKind.wrap .i64 (IntKind.wrap .i64 ((↑R : Int) * (↑C : Int)) - 1) < IntKind.wrap .i64 ((↑P : Int) + (↑(ByteArray.size t) : Int)) then IntKind.wrap .i64 (IntKind.wrap .i64 ((↑R : Int) * (↑C : Int)) - 1) else IntKind.wrap .i64 ((↑P : Int) + (↑(ByteArray.size t) : Int)))) ?_
    refine kp 8 (.int IntKind.i64 (if IntKind.wrap .i64 (IntKind.wrap .i64 ((↑R : Int) * (↑C : Int)) - 1) < IntKind.wrap .i64 ((↑P : Int) + (↑(ByteArray.size t) : Int)) then IntKind.wrap .i64 (IntKind.wrap .i64 ((↑R : Int) * (↑C : Int)) - 1) else IntKind.wrap .i64 ((↑P : Int) + (↑(ByteArray.size t) : Int)))) ?_
    refine WpOps.nil (thenK_at (Wp.seq (Wp.text ?_)))
    refine kp 86 (.int IntKind.i64 (if IntKind.wrap .i64 (IntKind.wrap .i64 ((↑R : Int) * (↑C : Int)) - 1) < IntKind.wrap .i64 ((↑P : Int) + (↑(ByteArray.size t) : Int)) then IntKind.wrap .i64 (IntKind.wrap .i64 ((↑R : Int) * (↑C : Int)) - 1) else IntKind.wrap .i64 ((↑P : Int) + (↑(ByteArray.size t) : Int)))) ?_
    refine kp 87 (.int IntKind.i64 (↑C : Int)) ?_
    refine kp 88 (.int IntKind.i64 (IntKind.wrap .i64 (Int.tdiv (if IntKind.wrap .i64 (IntKind.wrap .i64 ((↑R : Int) * (↑C : Int)) - 1) < IntKind.wrap .i64 ((↑P : Int) + (↑(ByteArray.size t) : Int)) then IntKind.wrap .i64 (IntKind.wrap .i64 ((↑R : Int) * (↑C : Int)) - 1) else IntKind.wrap .i64 ((↑P : Int) + (↑(ByteArray.size t) : Int))) (↑C : Int)))) ?_ (hop := fun _ => o_quo hC0)
    refine kp 89 (.pointer (some ⟨0, 2, none⟩)) ?_
    refine ld (.tuple #[]) (0) (Blk.mk 30 true [Value.slice (some ⟨1, 0, none⟩) R R, Value.slice (some ⟨2, 0, none⟩) R R, Value.int .i64 (IntKind.wrap .i64 (Int.tdiv (if IntKind.wrap .i64 (IntKind.wrap .i64 ((↑R : Int) * (↑C : Int)) - 1) < IntKind.wrap .i64 ((↑P : Int) + (↑(ByteArray.size t) : Int)) then IntKind.wrap .i64 (IntKind.wrap .i64 ((↑R : Int) * (↑C : Int)) - 1) else IntKind.wrap .i64 ((↑P : Int) + (↑(ByteArray.size t) : Int))) (↑C : Int))), Value.int .i64 (↑j : Int)]) ?_
    refine WpOps.nil (thenK_at (Wp.text ?_))
    refine kp 90 (.int IntKind.i64 (if IntKind.wrap .i64 (IntKind.wrap .i64 ((↑R : Int) * (↑C : Int)) - 1) < IntKind.wrap .i64 ((↑P : Int) + (↑(ByteArray.size t) : Int)) then IntKind.wrap .i64 (IntKind.wrap .i64 ((↑R : Int) * (↑C : Int)) - 1) else IntKind.wrap .i64 ((↑P : Int) + (↑(ByteArray.size t) : Int)))) ?_
    refine kp 91 (.int IntKind.i64 (↑C : Int)) ?_
    refine kp 92 (.int IntKind.i64 (Int.tmod (if IntKind.wrap .i64 (IntKind.wrap .i64 ((↑R : Int) * (↑C : Int)) - 1) < IntKind.wrap .i64 ((↑P : Int) + (↑(ByteArray.size t) : Int)) then IntKind.wrap .i64 (IntKind.wrap .i64 ((↑R : Int) * (↑C : Int)) - 1) else IntKind.wrap .i64 ((↑P : Int) + (↑(ByteArray.size t) : Int))) (↑C : Int))) ?_ (hop := fun _ => o_rem hC0)
    refine kp 93 (.pointer (some ⟨0, 3, none⟩)) ?_
    refine ld (.tuple #[]) (0) (Blk.mk 30 true [Value.slice (some ⟨1, 0, none⟩) R R, Value.slice (some ⟨2, 0, none⟩) R R, Value.int .i64 (IntKind.wrap .i64 (Int.tdiv (if IntKind.wrap .i64 (IntKind.wrap .i64 ((↑R : Int) * (↑C : Int)) - 1) < IntKind.wrap .i64 ((↑P : Int) + (↑(ByteArray.size t) : Int)) then IntKind.wrap .i64 (IntKind.wrap .i64 ((↑R : Int) * (↑C : Int)) - 1) else IntKind.wrap .i64 ((↑P : Int) + (↑(ByteArray.size t) : Int))) (↑C : Int))), Value.int .i64 (Int.tmod (if IntKind.wrap .i64 (IntKind.wrap .i64 ((↑R : Int) * (↑C : Int)) - 1) < IntKind.wrap .i64 ((↑P : Int) + (↑(ByteArray.size t) : Int)) then IntKind.wrap .i64 (IntKind.wrap .i64 ((↑R : Int) * (↑C : Int)) - 1) else IntKind.wrap .i64 ((↑P : Int) + (↑(ByteArray.size t) : Int))) (↑C : Int))]) ?_
    refine WpOps.nil (blockK_norm (thenK_at (Wp.seq (Wp.text ?_))))
    refine kp 174 (.agg #[Value.slice (some ⟨1, 0, none⟩) R R, Value.slice (some ⟨2, 0, none⟩) R R, Value.int .i64 (IntKind.wrap .i64 (Int.tdiv (if IntKind.wrap .i64 (IntKind.wrap .i64 ((↑R : Int) * (↑C : Int)) - 1) < IntKind.wrap .i64 ((↑P : Int) + (↑(ByteArray.size t) : Int)) then IntKind.wrap .i64 (IntKind.wrap .i64 ((↑R : Int) * (↑C : Int)) - 1) else IntKind.wrap .i64 ((↑P : Int) + (↑(ByteArray.size t) : Int))) (↑C : Int))), Value.int .i64 (Int.tmod (if IntKind.wrap .i64 (IntKind.wrap .i64 ((↑R : Int) * (↑C : Int)) - 1) < IntKind.wrap .i64 ((↑P : Int) + (↑(ByteArray.size t) : Int)) then IntKind.wrap .i64 (IntKind.wrap .i64 ((↑R : Int) * (↑C : Int)) - 1) else IntKind.wrap .i64 ((↑P : Int) + (↑(ByteArray.size t) : Int))) (↑C : Int))]) ?_
    refine ld (.tuple #[]) (3) (Blk.mk 30 true [Value.slice (some ⟨1, 0, none⟩) R R, Value.slice (some ⟨2, 0, none⟩) R R, Value.int .i64 (IntKind.wrap .i64 (Int.tdiv (if IntKind.wrap .i64 (IntKind.wrap .i64 ((↑R : Int) * (↑C : Int)) - 1) < IntKind.wrap .i64 ((↑P : Int) + (↑(ByteArray.size t) : Int)) then IntKind.wrap .i64 (IntKind.wrap .i64 ((↑R : Int) * (↑C : Int)) - 1) else IntKind.wrap .i64 ((↑P : Int) + (↑(ByteArray.size t) : Int))) (↑C : Int))), Value.int .i64 (Int.tmod (if IntKind.wrap .i64 (IntKind.wrap .i64 ((↑R : Int) * (↑C : Int)) - 1) < IntKind.wrap .i64 ((↑P : Int) + (↑(ByteArray.size t) : Int)) then IntKind.wrap .i64 (IntKind.wrap .i64 ((↑R : Int) * (↑C : Int)) - 1) else IntKind.wrap .i64 ((↑P : Int) + (↑(ByteArray.size t) : Int))) (↑C : Int))]) ?_
    refine WpOps.nil (thenK_at (Wp.ret ?_))
    refine endK_retn [Value.agg #[Value.slice (some (Addr.mk 1 0 none)) R R, Value.slice (some (Addr.mk 2 0 none)) R R, Value.int IntKind.i64 (IntKind.wrap IntKind.i64 (Int.tdiv (if IntKind.wrap IntKind.i64 (IntKind.wrap IntKind.i64 ((↑R : Int) * (↑C : Int)) - 1) < IntKind.wrap IntKind.i64 ((↑P : Int) + (↑(ByteArray.size t) : Int)) then IntKind.wrap IntKind.i64 (IntKind.wrap IntKind.i64 ((↑R : Int) * (↑C : Int)) - 1) else IntKind.wrap IntKind.i64 ((↑P : Int) + (↑(ByteArray.size t) : Int))) (↑C : Int))), Value.int IntKind.i64 (Int.tmod (if IntKind.wrap IntKind.i64 (IntKind.wrap IntKind.i64 ((↑R : Int) * (↑C : Int)) - 1) < IntKind.wrap IntKind.i64 ((↑P : Int) + (↑(ByteArray.size t) : Int)) then IntKind.wrap IntKind.i64 (IntKind.wrap IntKind.i64 ((↑R : Int) * (↑C : Int)) - 1) else IntKind.wrap IntKind.i64 ((↑P : Int) + (↑(ByteArray.size t) : Int))) (↑C : Int))]] (Value.agg #[Value.slice (some (Addr.mk 1 0 none)) R R, Value.slice (some (Addr.mk 2 0 none)) R R, Value.int IntKind.i64 (IntKind.wrap IntKind.i64 (Int.tdiv (if IntKind.wrap IntKind.i64 (IntKind.wrap IntKind.i64 ((↑R : Int) * (↑C : Int)) - 1) < IntKind.wrap IntKind.i64 ((↑P : Int) + (↑(ByteArray.size t) : Int)) then IntKind.wrap IntKind.i64 (IntKind.wrap IntKind.i64 ((↑R : Int) * (↑C : Int)) - 1) else IntKind.wrap IntKind.i64 ((↑P : Int) + (↑(ByteArray.size t) : Int))) (↑C : Int))), Value.int IntKind.i64 (Int.tmod (if IntKind.wrap IntKind.i64 (IntKind.wrap IntKind.i64 ((↑R : Int) * (↑C : Int)) - 1) < IntKind.wrap IntKind.i64 ((↑P : Int) + (↑(ByteArray.size t) : Int)) then IntKind.wrap IntKind.i64 (IntKind.wrap IntKind.i64 ((↑R : Int) * (↑C : Int)) - 1) else IntKind.wrap IntKind.i64 ((↑P : Int) + (↑(ByteArray.size t) : Int))) (↑C : Int))]) (by kernel_rfl) (by kernel_rfl) ?_
    rw [← q1, ← q2, ← e3, ← e4]
    exact ice_dv (mkR R C (tF C P (t.extract 0 k) f)) (mkR R C (tF C P (fillS (UInt8.ofNat (48 + mk)) k) g)) _ _ mkR_len.symm mkR_len.symm (by kernel_rfl) (by kernel_rfl)
theorem putF_zero {R C k c : Nat} {f : Nat → Nat → UInt8} (b : UInt8) : mkR R C f = mkR R C (putF f k c (fillS b 0)) := by
  refine mkR_congr fun x y _ _ => ?_
  unfold putF
  rw [fillS_size, if_neg (by omega)]
theorem putF_succ {R C k c q : Nat} {f : Nat → Nat → UInt8} (b : UInt8) : mkR R C (putF (putF f k c (fillS b q)) k (c + q) (one b)) = mkR R C (putF f k c (fillS b (q + 1))) := by
  refine mkR_congr fun x y _ _ => ?_
  unfold putF
  rw [fillS_size, fillS_size, one_size]
  by_cases h1 : x = k ∧ c + q ≤ y ∧ y < c + q + 1
  · rw [if_pos h1, if_pos (by omega), fillS_at _ (by omega), show y - (c + q) = 0 by omega, one_at]
  · rw [if_neg h1]
    by_cases h2 : x = k ∧ c ≤ y ∧ y < c + q
    · rw [if_pos h2, if_pos (by omega), fillS_at _ (by omega), fillS_at _ (by omega)]
    · rw [if_neg h2, if_neg (by omega)]
set_option maxHeartbeats 4000000 in
theorem rapply2 (x y R C : Nat) (f g : Nat → Nat → UInt8) (i j : Nat) (row col n : Int) (t : ByteArray) (hi : i < R) (hj : j < C) (hR : R ≤ 40) (hC : C ≤ 80) :
    Fun E 42 [dv x y (mkR R C f) (mkR R C g) i j, uv 2 row col n t] (dv 0 0 (mkR R C (putF f i j (fillS 32 (C - j)))) (mkR R C (putF g i j (fillS 48 (C - j)))) i j) := by
  refine Fun.of f42 rfl (of_decide_eq_true (by kernel_rfl)) (dv_ice _ _ _ _ _ _) ?_
  have c1 := own68m x y R C f g i j (by omega) hR
  have l1 : 0 ≤ (0 : Int) ∧ (0 : Int) < (mkR R C f).length := by rw [mkR_len]; omega
  have v1 := strs_0 (mkR R C f) (by rw [mkR_len]; omega)
  have fl1 := strs_flat (mkR R C f)
  have fl2 := strs_flat (mkR R C g)
  have e0 : (((rowAt (mkR R C f) 0).size : Nat) : Int) = C := by rw [mkR_size (by omega)]
  have e2 : (((mkR R C f).length : Nat) : Int) = R := by rw [mkR_len]
  unfold dv strs sB at c1
  unfold dv uv strs
  refine Wp.seq (Wp.text ?_)
  refine md 2 (.pointer (some ⟨0, 0, none⟩)) (Blk.mk 30 true [Value.iface 9 (Value.iface (List.length (mkR R C f)) (Value.iface x (Value.agg (List.toArray (List.map Value.string (mkR R C f)))))), Value.iface 9 (Value.iface (List.length (mkR R C g)) (Value.iface y (Value.agg (List.toArray (List.map Value.string (mkR R C g)))))), Value.int .i64 (↑i : Int), Value.int .i64 (↑j : Int)]) ?_
  refine md 3 (.pointer (some ⟨1, 0, none⟩)) (Blk.mk 34 true [Value.int .i64 2, Value.int .i64 row, Value.int .i64 col, Value.int .i64 n, Value.string t]) ?_
  refine md 4 (.pointer (some ⟨2, 0, none⟩)) (Blk.mk 30 true [Value.slice none 0 0, Value.slice none 0 0, Value.int .i64 0, Value.int .i64 0]) ?_
  refine WpOps.nil (thenK_at (Wp.seq (Wp.text ?_)))
  refine kp 14 (.agg #[Value.iface 9 (Value.iface (List.length (mkR R C f)) (Value.iface x (Value.agg (List.toArray (List.map Value.string (mkR R C f)))))), Value.iface 9 (Value.iface (List.length (mkR R C g)) (Value.iface y (Value.agg (List.toArray (List.map Value.string (mkR R C g)))))), Value.int .i64 (↑i : Int), Value.int .i64 (↑j : Int)]) ?_
  refine cl 15 68 [Value.agg #[Value.iface 9 (Value.iface (List.length (mkR R C f)) (Value.iface x (Value.agg (List.toArray (List.map Value.string (mkR R C f)))))), Value.iface 9 (Value.iface (List.length (mkR R C g)) (Value.iface y (Value.agg (List.toArray (List.map Value.string (mkR R C g)))))), Value.int .i64 (↑i : Int), Value.int .i64 (↑j : Int)]] ?_
  refine WpCall.lent [] (c1) (by decide) trivial (by kernel_rfl) (Value.agg (List.toArray (List.map (unC [3, 4]) (Array.toList #[Value.slice (some (Addr.mk 0 0 none)) R R, Value.slice (some (Addr.mk 1 0 none)) R R, Value.int IntKind.i64 (↑i : Int), Value.int IntKind.i64 (↑j : Int)])))) ([Blk.mk 9 true (List.map Value.string (mkR R C f)), Blk.mk 9 true (List.map Value.string (mkR R C g))]) (.cons (unB_flat (by assumption)) (.cons (unB_flat (by assumption)) .nil)) (by kernel_rfl) (Heap.alloc (Heap.alloc (Heap.alloc (Heap.alloc (Heap.alloc Heap.none (Blk.mk 30 true [Value.iface 9 (Value.iface (List.length (mkR R C f)) (Value.iface x (Value.agg (List.toArray (List.map Value.string (mkR R C f)))))), Value.iface 9 (Value.iface (List.length (mkR R C g)) (Value.iface y (Value.agg (List.toArray (List.map Value.string (mkR R C g)))))), Value.int IntKind.i64 (↑i : Int), Value.int IntKind.i64 (↑j : Int)])) (Blk.mk 34 true [Value.int IntKind.i64 2, Value.int IntKind.i64 row, Value.int IntKind.i64 col, Value.int IntKind.i64 n, Value.string t])) (Blk.mk 30 true [Value.slice none 0 0, Value.slice none 0 0, Value.int IntKind.i64 0, Value.int IntKind.i64 0])) (Blk.mk 9 true (List.map Value.string (mkR R C f)))) (Blk.mk 9 true (List.map Value.string (mkR R C g)))) (by kernel_rfl) ?_
  refine md 5 (.pointer (some ⟨5, 0, none⟩)) (Blk.mk 30 true [Value.slice none 0 0, Value.slice none 0 0, Value.int .i64 0, Value.int .i64 0]) ?_
  refine ld (.tuple #[]) (5) (Blk.mk 30 true [Value.slice (some (Addr.mk (List.getD [3, 4] 0 0) 0 none)) R R, Value.slice (some (Addr.mk (List.getD [3, 4] 1 0) 0 none)) R R, Value.int .i64 (↑i : Int), Value.int .i64 (↑j : Int)]) ?_
  refine WpOps.nil (thenK_at (Wp.seq ?_))
  refine Wp.region (by kernel_rfl) ?_
  refine kp 16 (.pointer (some ⟨0, 0, none⟩)) ?_
  refine kp 17 (.iface 9 (Value.iface (List.length (mkR R C f)) (Value.iface x (Value.agg (List.toArray (List.map Value.string (mkR R C f))))))) ?_
  refine kp 18 (.int IntKind.i64 (↑(List.length (mkR R C f)) : Int)) ?_
  refine kp 19 (.pointer (some ⟨0, 0, none⟩)) ?_
  refine kp 20 (.iface 9 (Value.iface (List.length (mkR R C f)) (Value.iface x (Value.agg (List.toArray (List.map Value.string (mkR R C f))))))) ?_
  refine kp 21 (.iface 9 (Value.iface 0 (Value.agg (List.toArray (List.map Value.string (mkR R C f)))))) ?_ (hop := fun _ => o_indexI (e := 9) (size := 1) (a := 0) l1)
  refine kp 22 (.string (rowAt (mkR R C f) 0)) ?_ (hop := fun _ => o_loadI1 (0) v1)
  refine kp 23 (.int IntKind.i64 (↑(ByteArray.size (rowAt (mkR R C f) 0)) : Int)) ?_
  refine kp 6 (.int IntKind.i64 (↑(List.length (mkR R C f)) : Int)) ?_
  refine kp 7 (.int IntKind.i64 (↑(ByteArray.size (rowAt (mkR R C f) 0)) : Int)) ?_
  refine WpOps.nil (thenK_at (Wp.seq (Wp.seq (Wp.text ?_))))
  refine kp 24 (.pointer (some ⟨1, 0, none⟩)) ?_
  refine kp 25 (.int IntKind.i64 2) ?_
  refine WpOps.nil (thenK_at (Wp.block (Wp.seq (Wp.text ?_))))
  refine kp 27 (.bool false) ?_
  refine kp 26 (.bool false) ?_
  refine WpOps.nil (thenK_at (off' (Wp.seq (Wp.text ?_))))
  refine kp 35 (.bool false) ?_
  refine kp 34 (.bool false) ?_
  refine WpOps.nil (thenK_at (off' (Wp.seq (Wp.text ?_))))
  refine kp 95 (.bool true) ?_
  refine kp 94 (.bool true) ?_
  refine WpOps.nil (thenK_at (on' (Wp.seq (Wp.text ?_))))
  refine kp 96 (.pointer (some ⟨0, 3, none⟩)) ?_
  refine kp 97 (.int IntKind.i64 (↑j : Int)) ?_
  refine kp 10 (.int IntKind.i64 (↑j : Int)) ?_
  refine WpOps.nil (thenK_at (Wp.block ?_))
  refine Wp.loop (G := Nat) (fun k => layj [(2, .pointer (some ⟨4, 0, none⟩)), (4, .pointer (some ⟨3, 0, none⟩)), (5, .pointer (some ⟨0, 0, none⟩)), (7, .int .i64 C), (10, .int .i64 (j + k : Nat))]) (fun k => heapOf [rB R R i j, sB (mkR R C (putF f i j (fillS 32 k))), sB (mkR R C (putF g i j (fillS 48 k))), zB, ⟨30, true, [strs x (mkR R C f), strs y (mkR R C g), .int .i64 i, .int .i64 j]⟩]) (fun k => C - k) (fun k => j + k ≤ C) 0 (View.of [5, 3, 4, 2, 0] [rB R R i j, sB (mkR R C (putF f i j (fillS 32 0))), sB (mkR R C (putF g i j (fillS 48 0))), zB, ⟨30, true, [strs x (mkR R C f), strs y (mkR R C g), .int .i64 i, .int .i64 j]⟩] _ (by decide) rfl ⟨⟨[.slice (some ⟨3, 0, none⟩) R R, .slice (some ⟨4, 0, none⟩) R R, .int .i64 i, .int .i64 j], by kernel_rfl, ⟨by kernel_rfl, by kernel_rfl⟩⟩, ⟨_, by kernel_rfl, CellsOk.eq (congrArg (List.map Value.string) (putF_zero 32)) (strs_flat _)⟩, ⟨_, by kernel_rfl, CellsOk.eq (congrArg (List.map Value.string) (putF_zero 48)) (strs_flat _)⟩, ⟨_, by kernel_rfl, CellsOk.eq rfl rfl⟩, ⟨_, by kernel_rfl, CellsOk.eq rfl rfl⟩, trivial⟩ ⟨⟨by kernel_rfl, rfl⟩, ⟨by kernel_rfl, rfl⟩, ⟨by kernel_rfl, rfl⟩, ⟨congrArg (Value.int .i64) e0, rfl⟩, ⟨by kernel_rfl, rfl⟩, trivial⟩) (by omega) ?_
  intro k hk
  unfold rB sB zB strs
  refine Wp.seq (Wp.seq (Wp.text ?_))
  refine kp 98 (.int IntKind.i64 (↑(j + k) : Int)) ?_
  refine kp 99 (.int IntKind.i64 (↑C : Int)) ?_
  refine kp 100 (.bool (decide ((↑(j + k) : Int) < (↑C : Int)))) ?_
  refine WpOps.nil (thenK_at ?_)
  refine Wp.split (decide ((↑(j + k) : Int) < (↑C : Int))) (by kernel_rfl) (fun hc => ?_) (fun hc => ?_)
  · have hlt : ((j + k : Nat) : Int) < C := of_decide_eq_true hc
    have c2 : Lent E 69 [.pointer (some ⟨0, 0, none⟩), .int .i64 i, .int .i64 (j + k : Nat), .int .u8 32, .int .i64 0] (rBs R C (putF f i j (fillS 32 k)) (putF g i j (fillS 48 k)) i j) (.tuple #[]) (rBs R C (putF f i j (fillS 32 (k + 1))) (putF g i j (fillS 48 (k + 1))) i j) := by
      have h := cellM R C (putF f i j (fillS 32 k)) (putF g i j (fillS 48 k)) i j i (j + k) 0 32 hi hC (by omega) (by omega)
      have e48 : UInt8.ofNat (48 + 0) = 48 := rfl
      unfold rBs at h ⊢
      rw [e48, putF_succ, putF_succ] at h
      exact h
    have fl3 := strs_flat (mkR R C (putF f i j (fillS 32 k)))
    have fl4 := strs_flat (mkR R C (putF g i j (fillS 48 k)))
    have fl5 := strs_flat (mkR R C (putF f i j (fillS 32 (k + 1))))
    have fl6 := strs_flat (mkR R C (putF g i j (fillS 48 (k + 1))))
    have w3 : IntKind.i64.wrap (((j + k : Nat) : Int) + 1) = ((j + (k + 1) : Nat) : Int) := by rw [wr _ (by omega) (by omega)]; omega
    unfold rBs rB sB at c2
    refine Wp.skip (thenK_at (Wp.seq (Wp.block (Wp.text ?_))))
    refine kp 103 (.pointer (some ⟨4, 2, none⟩)) ?_
    refine kp 104 (.int IntKind.i64 (↑i : Int)) ?_
    refine kp 105 (.int IntKind.i64 (↑(j + k) : Int)) ?_
    refine cl 106 69 [Value.pointer (some ⟨0, 0, none⟩), Value.int .i64 (↑i : Int), Value.int .i64 (↑(j + k) : Int), Value.int .u8 32, Value.int .i64 0] ?_
    refine WpCall.lent [0, 1, 2] (c2) (by decide) ⟨⟨[Value.slice (some (Addr.mk 1 0 none)) R R, Value.slice (some (Addr.mk 2 0 none)) R R, Value.int IntKind.i64 (↑i : Int), Value.int IntKind.i64 (↑j : Int)], (by kernel_rfl), (by kernel_rfl), (by kernel_rfl)⟩, ⟨⟨_, (by kernel_rfl), CellsOk.eq rfl (by assumption)⟩, ⟨⟨_, (by kernel_rfl), CellsOk.eq rfl (by assumption)⟩, trivial⟩⟩⟩ (by kernel_rfl) (Value.tuple #[]) ([Blk.mk 30 true [Value.slice (some (Addr.mk (List.getD [0, 1, 2] 1 0) 0 none)) R R, Value.slice (some (Addr.mk (List.getD [0, 1, 2] 2 0) 0 none)) R R, Value.int IntKind.i64 (↑i : Int), Value.int IntKind.i64 (↑j : Int)], Blk.mk 9 true (List.map Value.string (mkR R C (putF f i j (fillS 32 (k + 1))))), Blk.mk 9 true (List.map Value.string (mkR R C (putF g i j (fillS 48 (k + 1)))))]) (.cons (by kernel_rfl) (.cons (unB_flat (by assumption)) (.cons (unB_flat (by assumption)) .nil))) (by kernel_rfl) (Heap.set (Heap.set (Heap.set (heapOf [Blk.mk 30 true [Value.slice (some (Addr.mk 1 0 none)) R R, Value.slice (some (Addr.mk 2 0 none)) R R, Value.int IntKind.i64 (↑i : Int), Value.int IntKind.i64 (↑j : Int)], Blk.mk 9 true (List.map Value.string (mkR R C (putF f i j (fillS 32 k)))), Blk.mk 9 true (List.map Value.string (mkR R C (putF g i j (fillS 48 k)))), Blk.mk 30 true [Value.slice none 0 0, Value.slice none 0 0, Value.int IntKind.i64 0, Value.int IntKind.i64 0], Blk.mk 30 true [FS 9 (List.length (mkR R C f)) x (List.toArray (List.map Value.string (mkR R C f))), FS 9 (List.length (mkR R C g)) y (List.toArray (List.map Value.string (mkR R C g))), Value.int IntKind.i64 (↑i : Int), Value.int IntKind.i64 (↑j : Int)]]) 0 (some (Blk.mk 30 true [Value.slice (some (Addr.mk 1 0 none)) R R, Value.slice (some (Addr.mk 2 0 none)) R R, Value.int IntKind.i64 (↑i : Int), Value.int IntKind.i64 (↑j : Int)]))) 1 (some (Blk.mk 9 true (List.map Value.string (mkR R C (putF f i j (fillS 32 (k + 1)))))))) 2 (some (Blk.mk 9 true (List.map Value.string (mkR R C (putF g i j (fillS 48 (k + 1)))))))) (by kernel_rfl) ?_
    refine WpOps.nil (blockK_norm (thenK_at (Wp.text ?_)))
    refine kp 101 (.int IntKind.i64 (↑(j + k) : Int)) ?_
    refine kp 102 (.int IntKind.i64 (IntKind.wrap .i64 ((↑(j + k) : Int) + 1))) ?_
    refine kp 10 (.int IntKind.i64 (IntKind.wrap .i64 ((↑(j + k) : Int) + 1))) ?_
    refine WpOps.nil (thenK_at ?_)
    exact ⟨k + 1, by omega, by omega, View.of [0, 1, 2, 3, 4] [rB R R i j, sB (mkR R C (putF f i j (fillS 32 (k + 1)))), sB (mkR R C (putF g i j (fillS 48 (k + 1)))), zB, ⟨30, true, [strs x (mkR R C f), strs y (mkR R C g), .int .i64 i, .int .i64 j]⟩] _ (by decide) rfl ⟨⟨[.slice (some ⟨1, 0, none⟩) R R, .slice (some ⟨2, 0, none⟩) R R, .int .i64 i, .int .i64 j], by kernel_rfl, ⟨by kernel_rfl, by kernel_rfl⟩⟩, ⟨_, by kernel_rfl, CellsOk.eq rfl (strs_flat _)⟩, ⟨_, by kernel_rfl, CellsOk.eq rfl (strs_flat _)⟩, ⟨_, by kernel_rfl, CellsOk.eq rfl rfl⟩, ⟨_, by kernel_rfl, CellsOk.eq rfl rfl⟩, trivial⟩ ⟨⟨by kernel_rfl, rfl⟩, ⟨by kernel_rfl, rfl⟩, ⟨by kernel_rfl, rfl⟩, ⟨by kernel_rfl, rfl⟩, ⟨congrArg (Value.int .i64) w3, rfl⟩, trivial⟩⟩
  · have hle : ¬ (((j + k : Nat) : Int) < C) := of_decide_eq_false hc
    obtain rfl : k = C - j := by omega
    have fl3 := strs_flat (mkR R C (putF f i j (fillS 32 (C - j))))
    have fl4 := strs_flat (mkR R C (putF g i j (fillS 48 (C - j))))
    refine Wp.exit (thenK_exit (thenK_exit (blockK_hit (blockK_norm (thenK_at (Wp.seq (Wp.text ?_)))))))
    refine kp 174 (.agg #[Value.slice (some ⟨1, 0, none⟩) R R, Value.slice (some ⟨2, 0, none⟩) R R, Value.int .i64 (↑i : Int), Value.int .i64 (↑j : Int)]) ?_
    refine ld (.tuple #[]) (3) (Blk.mk 30 true [Value.slice (some ⟨1, 0, none⟩) R R, Value.slice (some ⟨2, 0, none⟩) R R, Value.int .i64 (↑i : Int), Value.int .i64 (↑j : Int)]) ?_
    refine WpOps.nil (thenK_at (Wp.ret ?_))
    refine endK_retn [Value.agg #[Value.slice (some (Addr.mk 1 0 none)) R R, Value.slice (some (Addr.mk 2 0 none)) R R, Value.int IntKind.i64 (↑i : Int), Value.int IntKind.i64 (↑j : Int)]] (Value.agg #[Value.slice (some (Addr.mk 1 0 none)) R R, Value.slice (some (Addr.mk 2 0 none)) R R, Value.int IntKind.i64 (↑i : Int), Value.int IntKind.i64 (↑j : Int)]) (by kernel_rfl) (by kernel_rfl) ?_
    exact ice_dv (mkR R C (putF f i j (fillS 32 (C - j)))) (mkR R C (putF g i j (fillS 48 (C - j)))) i j mkR_len.symm mkR_len.symm (by kernel_rfl) (by kernel_rfl)
set_option maxHeartbeats 4000000 in
theorem rapply6 (x y R C : Nat) (f g : Nat → Nat → UInt8) (i j row col n : Nat) (t : ByteArray) (hi : i < R) (hj : j < C) (hR : R ≤ 40) (hC : C ≤ 80) (hrow : row ≤ R) (hcol : col ≤ C) (hn : n < 256) :
    Fun E 42 [dv x y (mkR R C f) (mkR R C g) i j, uv 6 row col n t] (dv 0 0 (mkR R C (fiF i j row col (UInt8.ofNat n) f)) (mkR R C (fiF i j row col 48 g)) i j) := by
  refine Fun.of f42 rfl (of_decide_eq_true (by kernel_rfl)) (dv_ice _ _ _ _ _ _) ?_
  have c1 := own68m x y R C f g i j (by omega) hR
  have l1 : 0 ≤ (0 : Int) ∧ (0 : Int) < (mkR R C f).length := by rw [mkR_len]; omega
  have v1 := strs_0 (mkR R C f) (by rw [mkR_len]; omega)
  have fl1 := strs_flat (mkR R C f)
  have fl2 := strs_flat (mkR R C g)
  have e0 : (((rowAt (mkR R C f) 0).size : Nat) : Int) = C := by rw [mkR_size (by omega)]
  have e2 : (((mkR R C f).length : Nat) : Int) = R := by rw [mkR_len]
  have z1 : mkR R C f = mkR R C (fiF i j 0 col (UInt8.ofNat n) f) := mkR_congr fun a b _ _ => by unfold fiF; rw [if_neg (by omega)]
  have z2 : mkR R C g = mkR R C (fiF i j 0 col 48 g) := mkR_congr fun a b _ _ => by unfold fiF; rw [if_neg (by omega)]
  have hmr : (if IntKind.i64.wrap ((i : Int) + row) < (R : Int) then IntKind.i64.wrap ((i : Int) + row) else (R : Int)) = ((min (i + row) R : Nat) : Int) := by
    rw [wr _ (by omega) (by omega)]
    split <;> omega
  have hmc : (if IntKind.i64.wrap ((j : Int) + col) < (C : Int) then IntKind.i64.wrap ((j : Int) + col) else (C : Int)) = ((min (j + col) C : Nat) : Int) := by
    rw [wr _ (by omega) (by omega)]
    split <;> omega
  unfold dv strs sB at c1
  unfold dv uv strs
  refine Wp.seq (Wp.text ?_)
  refine md 2 (.pointer (some ⟨0, 0, none⟩)) (Blk.mk 30 true [Value.iface 9 (Value.iface (List.length (mkR R C f)) (Value.iface x (Value.agg (List.toArray (List.map Value.string (mkR R C f)))))), Value.iface 9 (Value.iface (List.length (mkR R C g)) (Value.iface y (Value.agg (List.toArray (List.map Value.string (mkR R C g)))))), Value.int .i64 (↑i : Int), Value.int .i64 (↑j : Int)]) ?_
  refine md 3 (.pointer (some ⟨1, 0, none⟩)) (Blk.mk 34 true [Value.int .i64 6, Value.int .i64 (↑row : Int), Value.int .i64 (↑col : Int), Value.int .i64 (↑n : Int), Value.string t]) ?_
  refine md 4 (.pointer (some ⟨2, 0, none⟩)) (Blk.mk 30 true [Value.slice none 0 0, Value.slice none 0 0, Value.int .i64 0, Value.int .i64 0]) ?_
  refine WpOps.nil (thenK_at (Wp.seq (Wp.text ?_)))
  refine kp 14 (.agg #[Value.iface 9 (Value.iface (List.length (mkR R C f)) (Value.iface x (Value.agg (List.toArray (List.map Value.string (mkR R C f)))))), Value.iface 9 (Value.iface (List.length (mkR R C g)) (Value.iface y (Value.agg (List.toArray (List.map Value.string (mkR R C g)))))), Value.int .i64 (↑i : Int), Value.int .i64 (↑j : Int)]) ?_
  refine cl 15 68 [Value.agg #[Value.iface 9 (Value.iface (List.length (mkR R C f)) (Value.iface x (Value.agg (List.toArray (List.map Value.string (mkR R C f)))))), Value.iface 9 (Value.iface (List.length (mkR R C g)) (Value.iface y (Value.agg (List.toArray (List.map Value.string (mkR R C g)))))), Value.int .i64 (↑i : Int), Value.int .i64 (↑j : Int)]] ?_
  refine WpCall.lent [] (c1) (by decide) trivial (by kernel_rfl) (Value.agg (List.toArray (List.map (unC [3, 4]) (Array.toList #[Value.slice (some (Addr.mk 0 0 none)) R R, Value.slice (some (Addr.mk 1 0 none)) R R, Value.int IntKind.i64 (↑i : Int), Value.int IntKind.i64 (↑j : Int)])))) ([Blk.mk 9 true (List.map Value.string (mkR R C f)), Blk.mk 9 true (List.map Value.string (mkR R C g))]) (.cons (unB_flat (by assumption)) (.cons (unB_flat (by assumption)) .nil)) (by kernel_rfl) (Heap.alloc (Heap.alloc (Heap.alloc (Heap.alloc (Heap.alloc Heap.none (Blk.mk 30 true [Value.iface 9 (Value.iface (List.length (mkR R C f)) (Value.iface x (Value.agg (List.toArray (List.map Value.string (mkR R C f)))))), Value.iface 9 (Value.iface (List.length (mkR R C g)) (Value.iface y (Value.agg (List.toArray (List.map Value.string (mkR R C g)))))), Value.int IntKind.i64 (↑i : Int), Value.int IntKind.i64 (↑j : Int)])) (Blk.mk 34 true [Value.int IntKind.i64 6, Value.int IntKind.i64 (↑row : Int), Value.int IntKind.i64 (↑col : Int), Value.int IntKind.i64 (↑n : Int), Value.string t])) (Blk.mk 30 true [Value.slice none 0 0, Value.slice none 0 0, Value.int IntKind.i64 0, Value.int IntKind.i64 0])) (Blk.mk 9 true (List.map Value.string (mkR R C f)))) (Blk.mk 9 true (List.map Value.string (mkR R C g)))) (by kernel_rfl) ?_
  refine md 5 (.pointer (some ⟨5, 0, none⟩)) (Blk.mk 30 true [Value.slice none 0 0, Value.slice none 0 0, Value.int .i64 0, Value.int .i64 0]) ?_
  refine ld (.tuple #[]) (5) (Blk.mk 30 true [Value.slice (some (Addr.mk (List.getD [3, 4] 0 0) 0 none)) R R, Value.slice (some (Addr.mk (List.getD [3, 4] 1 0) 0 none)) R R, Value.int .i64 (↑i : Int), Value.int .i64 (↑j : Int)]) ?_
  refine WpOps.nil (thenK_at (Wp.seq ?_))
  refine Wp.region (by kernel_rfl) ?_
  refine kp 16 (.pointer (some ⟨0, 0, none⟩)) ?_
  refine kp 17 (.iface 9 (Value.iface (List.length (mkR R C f)) (Value.iface x (Value.agg (List.toArray (List.map Value.string (mkR R C f))))))) ?_
  refine kp 18 (.int IntKind.i64 (↑(List.length (mkR R C f)) : Int)) ?_
  refine kp 19 (.pointer (some ⟨0, 0, none⟩)) ?_
  refine kp 20 (.iface 9 (Value.iface (List.length (mkR R C f)) (Value.iface x (Value.agg (List.toArray (List.map Value.string (mkR R C f))))))) ?_
  refine kp 21 (.iface 9 (Value.iface 0 (Value.agg (List.toArray (List.map Value.string (mkR R C f)))))) ?_ (hop := fun _ => o_indexI (e := 9) (size := 1) (a := 0) l1)
  refine kp 22 (.string (rowAt (mkR R C f) 0)) ?_ (hop := fun _ => o_loadI1 (0) v1)
  refine kp 23 (.int IntKind.i64 (↑(ByteArray.size (rowAt (mkR R C f) 0)) : Int)) ?_
  refine kp 6 (.int IntKind.i64 (↑(List.length (mkR R C f)) : Int)) ?_
  refine kp 7 (.int IntKind.i64 (↑(ByteArray.size (rowAt (mkR R C f) 0)) : Int)) ?_
  refine WpOps.nil (thenK_at (Wp.seq (Wp.seq (Wp.text ?_))))
  refine kp 24 (.pointer (some ⟨1, 0, none⟩)) ?_
  refine kp 25 (.int IntKind.i64 6) ?_
  refine WpOps.nil (thenK_at (Wp.block (Wp.seq (Wp.text ?_))))
  refine kp 27 (.bool false) ?_
  refine kp 26 (.bool false) ?_
  refine WpOps.nil (thenK_at (off' (Wp.seq (Wp.text ?_))))
  refine kp 35 (.bool false) ?_
  refine kp 34 (.bool false) ?_
  refine WpOps.nil (thenK_at (off' (Wp.seq (Wp.text ?_))))
  refine kp 95 (.bool false) ?_
  refine kp 94 (.bool false) ?_
  refine WpOps.nil (thenK_at (off' (Wp.seq (Wp.text ?_))))
  refine kp 108 (.bool false) ?_
  refine kp 107 (.bool false) ?_
  refine WpOps.nil (thenK_at (off' (Wp.seq (Wp.text ?_))))
  refine kp 113 (.bool false) ?_
  refine kp 112 (.bool false) ?_
  refine WpOps.nil (thenK_at (off' (Wp.seq (Wp.text ?_))))
  refine kp 141 (.bool true) ?_
  refine kp 140 (.bool true) ?_
  refine WpOps.nil (thenK_at (on' (Wp.seq (Wp.text ?_))))
  refine kp 142 (.pointer (some ⟨0, 2, none⟩)) ?_
  refine kp 143 (.int IntKind.i64 (↑i : Int)) ?_
  refine kp 12 (.int IntKind.i64 (↑i : Int)) ?_
  refine WpOps.nil (thenK_at (Wp.block ?_))
  refine Wp.loop (G := Nat) (fun k => layj [(2, .pointer (some ⟨4, 0, none⟩)), (3, .pointer (some ⟨5, 0, none⟩)), (4, .pointer (some ⟨3, 0, none⟩)), (5, .pointer (some ⟨0, 0, none⟩)), (6, .int .i64 R), (7, .int .i64 C), (12, .int .i64 (i + k : Nat))]) (fun k => heapOf [rB R R i j, sB (mkR R C (fiF i j k col (UInt8.ofNat n) f)), sB (mkR R C (fiF i j k col 48 g)), zB, ⟨30, true, [strs x (mkR R C f), strs y (mkR R C g), .int .i64 i, .int .i64 j]⟩, ⟨34, true, [.int .i64 6, .int .i64 row, .int .i64 col, .int .i64 n, .string t]⟩]) (fun k => R - k) (fun k => k ≤ row ∧ i + k ≤ R) 0 (View.of [5, 3, 4, 2, 0, 1] [rB R R i j, sB (mkR R C (fiF i j 0 col (UInt8.ofNat n) f)), sB (mkR R C (fiF i j 0 col 48 g)), zB, ⟨30, true, [strs x (mkR R C f), strs y (mkR R C g), .int .i64 i, .int .i64 j]⟩, ⟨34, true, [.int .i64 6, .int .i64 row, .int .i64 col, .int .i64 n, .string t]⟩] _ (by decide) rfl ⟨⟨[.slice (some ⟨3, 0, none⟩) R R, .slice (some ⟨4, 0, none⟩) R R, .int .i64 i, .int .i64 j], by kernel_rfl, ⟨by kernel_rfl, by kernel_rfl⟩⟩, ⟨_, by kernel_rfl, CellsOk.eq (congrArg (List.map Value.string) z1) (strs_flat _)⟩, ⟨_, by kernel_rfl, CellsOk.eq (congrArg (List.map Value.string) z2) (strs_flat _)⟩, ⟨_, by kernel_rfl, CellsOk.eq rfl rfl⟩, ⟨_, by kernel_rfl, CellsOk.eq rfl rfl⟩, ⟨_, by kernel_rfl, CellsOk.eq rfl rfl⟩, trivial⟩ ⟨⟨by kernel_rfl, rfl⟩, ⟨by kernel_rfl, rfl⟩, ⟨by kernel_rfl, rfl⟩, ⟨by kernel_rfl, rfl⟩, ⟨congrArg (Value.int .i64) e2, rfl⟩, ⟨congrArg (Value.int .i64) e0, rfl⟩, ⟨by kernel_rfl, rfl⟩, trivial⟩) ⟨by omega, by omega⟩ ?_
  rintro k ⟨hk, hk2⟩
  unfold rB sB zB strs
  by_cases hq : i + k < min (i + row) R
  · have hc : decide (((i + k : Nat) : Int) < (if IntKind.i64.wrap ((i : Int) + row) < (R : Int) then IntKind.i64.wrap ((i : Int) + row) else (R : Int))) = true := by rw [hmr]; exact decide_eq_true (by omega)
    refine Wp.seq (Wp.seq (Wp.text ?_))
    refine kp 144 (.int IntKind.i64 (↑(i + k) : Int)) ?_
    refine kp 145 (.int IntKind.i64 (↑R : Int)) ?_
    refine kp 146 (.pointer (some ⟨4, 2, none⟩)) ?_
    refine kp 147 (.int IntKind.i64 (↑i : Int)) ?_
    refine kp 148 (.pointer (some ⟨5, 1, none⟩)) ?_
    refine kp 149 (.int IntKind.i64 (↑row : Int)) ?_
    refine kp 150 (.int IntKind.i64 (IntKind.wrap .i64 ((↑i : Int) + (↑row : Int)))) ?_
    refine kp 151 (.int IntKind.i64 (if IntKind.wrap .i64 ((↑i : Int) + (↑row : Int)) < (↑R : Int) then IntKind.wrap .i64 ((↑i : Int) + (↑row : Int)) else (↑R : Int))) ?_
    refine kp 152 (.bool true) ?_ (hop := fun _ => by_fact hc)
    refine WpOps.nil (thenK_at (on' (Wp.skip (thenK_at (Wp.seq (Wp.block (Wp.seq (Wp.text ?_))))))))
    refine kp 155 (.pointer (some ⟨4, 3, none⟩)) ?_
    refine kp 156 (.int IntKind.i64 (↑j : Int)) ?_
    refine kp 13 (.int IntKind.i64 (↑j : Int)) ?_
    refine WpOps.nil (thenK_at (Wp.block ?_))
    refine Wp.loop (G := Nat) (fun q => layj [(2, .pointer (some ⟨4, 0, none⟩)), (3, .pointer (some ⟨5, 0, none⟩)), (4, .pointer (some ⟨3, 0, none⟩)), (5, .pointer (some ⟨0, 0, none⟩)), (6, .int .i64 R), (7, .int .i64 C), (12, .int .i64 (i + k : Nat)), (13, .int .i64 (j + q : Nat))]) (fun q => heapOf [rB R R i j, sB (mkR R C (putF (fiF i j k col (UInt8.ofNat n) f) (i + k) j (fillS (UInt8.ofNat n) q))), sB (mkR R C (putF (fiF i j k col 48 g) (i + k) j (fillS 48 q))), zB, ⟨30, true, [strs x (mkR R C f), strs y (mkR R C g), .int .i64 i, .int .i64 j]⟩, ⟨34, true, [.int .i64 6, .int .i64 row, .int .i64 col, .int .i64 n, .string t]⟩]) (fun q => C - q) (fun q => q ≤ min col (C - j)) 0 (View.of [0, 1, 2, 3, 4, 5] [rB R R i j, sB (mkR R C (putF (fiF i j k col (UInt8.ofNat n) f) (i + k) j (fillS (UInt8.ofNat n) 0))), sB (mkR R C (putF (fiF i j k col 48 g) (i + k) j (fillS 48 0))), zB, ⟨30, true, [strs x (mkR R C f), strs y (mkR R C g), .int .i64 i, .int .i64 j]⟩, ⟨34, true, [.int .i64 6, .int .i64 row, .int .i64 col, .int .i64 n, .string t]⟩] _ (by decide) rfl ⟨⟨[.slice (some ⟨1, 0, none⟩) R R, .slice (some ⟨2, 0, none⟩) R R, .int .i64 i, .int .i64 j], by kernel_rfl, ⟨by kernel_rfl, by kernel_rfl⟩⟩, ⟨_, by kernel_rfl, CellsOk.eq (congrArg (List.map Value.string) (putF_zero (UInt8.ofNat n))) (strs_flat _)⟩, ⟨_, by kernel_rfl, CellsOk.eq (congrArg (List.map Value.string) (putF_zero 48)) (strs_flat _)⟩, ⟨_, by kernel_rfl, CellsOk.eq rfl rfl⟩, ⟨_, by kernel_rfl, CellsOk.eq rfl rfl⟩, ⟨_, by kernel_rfl, CellsOk.eq rfl rfl⟩, trivial⟩ ⟨⟨by kernel_rfl, rfl⟩, ⟨by kernel_rfl, rfl⟩, ⟨by kernel_rfl, rfl⟩, ⟨by kernel_rfl, rfl⟩, ⟨by kernel_rfl, rfl⟩, ⟨by kernel_rfl, rfl⟩, ⟨by kernel_rfl, rfl⟩, ⟨by kernel_rfl, rfl⟩, trivial⟩) (by omega) ?_
    intro q hqq
    unfold rB sB zB strs
    by_cases hq2 : q < min col (C - j)
    · have hd : decide (((j + q : Nat) : Int) < (if IntKind.i64.wrap ((j : Int) + col) < (C : Int) then IntKind.i64.wrap ((j : Int) + col) else (C : Int))) = true := by rw [hmc]; exact decide_eq_true (by omega)
      have c2 : Lent E 69 [.pointer (some ⟨0, 0, none⟩), .int .i64 (i + k : Nat), .int .i64 (j + q : Nat), .int .u8 (IntKind.u8.wrap (n : Int)), .int .i64 0] (rBs R C (putF (fiF i j k col (UInt8.ofNat n) f) (i + k) j (fillS (UInt8.ofNat n) q)) (putF (fiF i j k col 48 g) (i + k) j (fillS 48 q)) i j) (.tuple #[]) (rBs R C (putF (fiF i j k col (UInt8.ofNat n) f) (i + k) j (fillS (UInt8.ofNat n) (q + 1))) (putF (fiF i j k col 48 g) (i + k) j (fillS 48 (q + 1))) i j) := by
        have h := cellM R C (putF (fiF i j k col (UInt8.ofNat n) f) (i + k) j (fillS (UInt8.ofNat n) q)) (putF (fiF i j k col 48 g) (i + k) j (fillS 48 q)) i j (i + k) (j + q) 0 (UInt8.ofNat n) (by omega) hC (by omega) (by omega)
        have e48 : UInt8.ofNat (48 + 0) = 48 := rfl
        have en : (((UInt8.ofNat n).toNat : Nat) : Int) = IntKind.u8.wrap (n : Int) := by
          rw [u8_all n hn, UInt8.toNat_ofNat_of_lt' hn]
        unfold rBs at h ⊢
        rw [e48, putF_succ, putF_succ, en] at h
        exact h
      have fl3 := strs_flat (mkR R C (putF (fiF i j k col (UInt8.ofNat n) f) (i + k) j (fillS (UInt8.ofNat n) q)))
      have fl4 := strs_flat (mkR R C (putF (fiF i j k col 48 g) (i + k) j (fillS 48 q)))
      have fl5 := strs_flat (mkR R C (putF (fiF i j k col (UInt8.ofNat n) f) (i + k) j (fillS (UInt8.ofNat n) (q + 1))))
      have fl6 := strs_flat (mkR R C (putF (fiF i j k col 48 g) (i + k) j (fillS 48 (q + 1))))
      have w3 : IntKind.i64.wrap (((j + q : Nat) : Int) + 1) = ((j + (q + 1) : Nat) : Int) := by rw [wr _ (by omega) (by omega)]; omega
      unfold rBs rB sB at c2
      refine Wp.seq (Wp.seq (Wp.text ?_))
      refine kp 157 (.int IntKind.i64 (↑(j + q) : Int)) ?_
      refine kp 158 (.int IntKind.i64 (↑C : Int)) ?_
      refine kp 159 (.pointer (some ⟨4, 3, none⟩)) ?_
      refine kp 160 (.int IntKind.i64 (↑j : Int)) ?_
      refine kp 161 (.pointer (some ⟨5, 2, none⟩)) ?_
      refine kp 162 (.int IntKind.i64 (↑col : Int)) ?_
      refine kp 163 (.int IntKind.i64 (IntKind.wrap .i64 ((↑j : Int) + (↑col : Int)))) ?_
      refine kp 164 (.int IntKind.i64 (if IntKind.wrap .i64 ((↑j : Int) + (↑col : Int)) < (↑C : Int) then IntKind.wrap .i64 ((↑j : Int) + (↑col : Int)) else (↑C : Int))) ?_
      refine kp 165 (.bool true) ?_ (hop := fun _ => by_fact hd)
      refine WpOps.nil (thenK_at (on' (Wp.skip (thenK_at (Wp.seq (Wp.block (Wp.text ?_)))))))
      refine kp 168 (.int IntKind.i64 (↑(i + k) : Int)) ?_
      refine kp 169 (.int IntKind.i64 (↑(j + q) : Int)) ?_
      refine kp 170 (.pointer (some ⟨5, 3, none⟩)) ?_
      refine kp 171 (.int IntKind.i64 (↑n : Int)) ?_
      refine kp 172 (.int IntKind.u8 (IntKind.wrap .u8 (↑n : Int))) ?_
      refine cl 173 69 [Value.pointer (some ⟨0, 0, none⟩), Value.int .i64 (↑(i + k) : Int), Value.int .i64 (↑(j + q) : Int), Value.int .u8 (IntKind.wrap .u8 (↑n : Int)), Value.int .i64 0] ?_
      refine WpCall.lent [0, 1, 2] (c2) (by decide) ⟨⟨[Value.slice (some (Addr.mk 1 0 none)) R R, Value.slice (some (Addr.mk 2 0 none)) R R, Value.int IntKind.i64 (↑i : Int), Value.int IntKind.i64 (↑j : Int)], (by kernel_rfl), (by kernel_rfl), (by kernel_rfl)⟩, ⟨⟨_, (by kernel_rfl), CellsOk.eq rfl (by assumption)⟩, ⟨⟨_, (by kernel_rfl), CellsOk.eq rfl (by assumption)⟩, trivial⟩⟩⟩ (by kernel_rfl) (Value.tuple #[]) ([Blk.mk 30 true [Value.slice (some (Addr.mk (List.getD [0, 1, 2] 1 0) 0 none)) R R, Value.slice (some (Addr.mk (List.getD [0, 1, 2] 2 0) 0 none)) R R, Value.int IntKind.i64 (↑i : Int), Value.int IntKind.i64 (↑j : Int)], Blk.mk 9 true (List.map Value.string (mkR R C (putF (fiF i j k col (UInt8.ofNat n) f) (i + k) j (fillS (UInt8.ofNat n) (q + 1))))), Blk.mk 9 true (List.map Value.string (mkR R C (putF (fiF i j k col 48 g) (i + k) j (fillS 48 (q + 1)))))]) (.cons (by kernel_rfl) (.cons (unB_flat (by assumption)) (.cons (unB_flat (by assumption)) .nil))) (by kernel_rfl) (Heap.set (Heap.set (Heap.set (heapOf [Blk.mk 30 true [Value.slice (some (Addr.mk 1 0 none)) R R, Value.slice (some (Addr.mk 2 0 none)) R R, Value.int IntKind.i64 (↑i : Int), Value.int IntKind.i64 (↑j : Int)], Blk.mk 9 true (List.map Value.string (mkR R C (putF (fiF i j k col (UInt8.ofNat n) f) (i + k) j (fillS (UInt8.ofNat n) q)))), Blk.mk 9 true (List.map Value.string (mkR R C (putF (fiF i j k col 48 g) (i + k) j (fillS 48 q)))), Blk.mk 30 true [Value.slice none 0 0, Value.slice none 0 0, Value.int IntKind.i64 0, Value.int IntKind.i64 0], Blk.mk 30 true [FS 9 (List.length (mkR R C f)) x (List.toArray (List.map Value.string (mkR R C f))), FS 9 (List.length (mkR R C g)) y (List.toArray (List.map Value.string (mkR R C g))), Value.int IntKind.i64 (↑i : Int), Value.int IntKind.i64 (↑j : Int)], Blk.mk 34 true [Value.int IntKind.i64 6, Value.int IntKind.i64 (↑row : Int), Value.int IntKind.i64 (↑col : Int), Value.int IntKind.i64 (↑n : Int), Value.string t]]) 0 (some (Blk.mk 30 true [Value.slice (some (Addr.mk 1 0 none)) R R, Value.slice (some (Addr.mk 2 0 none)) R R, Value.int IntKind.i64 (↑i : Int), Value.int IntKind.i64 (↑j : Int)]))) 1 (some (Blk.mk 9 true (List.map Value.string (mkR R C (putF (fiF i j k col (UInt8.ofNat n) f) (i + k) j (fillS (UInt8.ofNat n) (q + 1)))))))) 2 (some (Blk.mk 9 true (List.map Value.string (mkR R C (putF (fiF i j k col 48 g) (i + k) j (fillS 48 (q + 1)))))))) (by kernel_rfl) ?_
      refine WpOps.nil (blockK_norm (thenK_at (Wp.text ?_)))
      refine kp 166 (.int IntKind.i64 (↑(j + q) : Int)) ?_
      refine kp 167 (.int IntKind.i64 (IntKind.wrap .i64 ((↑(j + q) : Int) + 1))) ?_
      refine kp 13 (.int IntKind.i64 (IntKind.wrap .i64 ((↑(j + q) : Int) + 1))) ?_
      refine WpOps.nil (thenK_at ?_)
      exact ⟨q + 1, by omega, by omega, View.of [0, 1, 2, 3, 4, 5] [rB R R i j, sB (mkR R C (putF (fiF i j k col (UInt8.ofNat n) f) (i + k) j (fillS (UInt8.ofNat n) (q + 1)))), sB (mkR R C (putF (fiF i j k col 48 g) (i + k) j (fillS 48 (q + 1)))), zB, ⟨30, true, [strs x (mkR R C f), strs y (mkR R C g), .int .i64 i, .int .i64 j]⟩, ⟨34, true, [.int .i64 6, .int .i64 row, .int .i64 col, .int .i64 n, .string t]⟩] _ (by decide) rfl ⟨⟨[.slice (some ⟨1, 0, none⟩) R R, .slice (some ⟨2, 0, none⟩) R R, .int .i64 i, .int .i64 j], by kernel_rfl, ⟨by kernel_rfl, by kernel_rfl⟩⟩, ⟨_, by kernel_rfl, CellsOk.eq rfl (strs_flat _)⟩, ⟨_, by kernel_rfl, CellsOk.eq rfl (strs_flat _)⟩, ⟨_, by kernel_rfl, CellsOk.eq rfl rfl⟩, ⟨_, by kernel_rfl, CellsOk.eq rfl rfl⟩, ⟨_, by kernel_rfl, CellsOk.eq rfl rfl⟩, trivial⟩ ⟨⟨by kernel_rfl, rfl⟩, ⟨by kernel_rfl, rfl⟩, ⟨by kernel_rfl, rfl⟩, ⟨by kernel_rfl, rfl⟩, ⟨by kernel_rfl, rfl⟩, ⟨by kernel_rfl, rfl⟩, ⟨by kernel_rfl, rfl⟩, ⟨congrArg (Value.int .i64) w3, rfl⟩, trivial⟩⟩
    · have hd : decide (((j + q : Nat) : Int) < (if IntKind.i64.wrap ((j : Int) + col) < (C : Int) then IntKind.i64.wrap ((j : Int) + col) else (C : Int))) = false := by rw [hmc]; exact decide_eq_false (by omega)
      obtain rfl : q = min col (C - j) := by omega
      have w3 : IntKind.i64.wrap (((i + k : Nat) : Int) + 1) = ((i + (k + 1) : Nat) : Int) := by rw [wr _ (by omega) (by omega)]; omega
      refine Wp.seq (Wp.seq (Wp.text ?_))
      refine kp 157 (.int IntKind.i64 (↑(j + min col (C - j)) : Int)) ?_
      refine kp 158 (.int IntKind.i64 (↑C : Int)) ?_
      refine kp 159 (.pointer (some ⟨4, 3, none⟩)) ?_
      refine kp 160 (.int IntKind.i64 (↑j : Int)) ?_
      refine kp 161 (.pointer (some ⟨5, 2, none⟩)) ?_
      refine kp 162 (.int IntKind.i64 (↑col : Int)) ?_
      refine kp 163 (.int IntKind.i64 (IntKind.wrap .i64 ((↑j : Int) + (↑col : Int)))) ?_
      refine kp 164 (.int IntKind.i64 (if IntKind.wrap .i64 ((↑j : Int) + (↑col : Int)) < (↑C : Int) then IntKind.wrap .i64 ((↑j : Int) + (↑col : Int)) else (↑C : Int))) ?_
      refine kp 165 (.bool false) ?_ (hop := fun _ => by_fact hd)
      refine WpOps.nil (thenK_at (off' (Wp.exit (thenK_exit (thenK_exit (blockK_hit (blockK_norm (thenK_at (Wp.text ?_)))))))))
      refine kp 153 (.int IntKind.i64 (↑(i + k) : Int)) ?_
      refine kp 154 (.int IntKind.i64 (IntKind.wrap .i64 ((↑(i + k) : Int) + 1))) ?_
      refine kp 12 (.int IntKind.i64 (IntKind.wrap .i64 ((↑(i + k) : Int) + 1))) ?_
      refine WpOps.nil (thenK_at ?_)
      exact ⟨k + 1, by omega, ⟨by omega, by omega⟩, View.of [0, 1, 2, 3, 4, 5] [rB R R i j, sB (mkR R C (fiF i j (k + 1) col (UInt8.ofNat n) f)), sB (mkR R C (fiF i j (k + 1) col 48 g)), zB, ⟨30, true, [strs x (mkR R C f), strs y (mkR R C g), .int .i64 i, .int .i64 j]⟩, ⟨34, true, [.int .i64 6, .int .i64 row, .int .i64 col, .int .i64 n, .string t]⟩] _ (by decide) rfl ⟨⟨[.slice (some ⟨1, 0, none⟩) R R, .slice (some ⟨2, 0, none⟩) R R, .int .i64 i, .int .i64 j], by kernel_rfl, ⟨by kernel_rfl, by kernel_rfl⟩⟩, ⟨_, by kernel_rfl, CellsOk.eq (congrArg (List.map Value.string) fi_step) (strs_flat _)⟩, ⟨_, by kernel_rfl, CellsOk.eq (congrArg (List.map Value.string) fi_step) (strs_flat _)⟩, ⟨_, by kernel_rfl, CellsOk.eq rfl rfl⟩, ⟨_, by kernel_rfl, CellsOk.eq rfl rfl⟩, ⟨_, by kernel_rfl, CellsOk.eq rfl rfl⟩, trivial⟩ ⟨⟨by kernel_rfl, rfl⟩, ⟨by kernel_rfl, rfl⟩, ⟨by kernel_rfl, rfl⟩, ⟨by kernel_rfl, rfl⟩, ⟨by kernel_rfl, rfl⟩, ⟨by kernel_rfl, rfl⟩, ⟨congrArg (Value.int .i64) w3, rfl⟩, trivial⟩⟩
  · have hc : decide (((i + k : Nat) : Int) < (if IntKind.i64.wrap ((i : Int) + row) < (R : Int) then IntKind.i64.wrap ((i : Int) + row) else (R : Int))) = false := by rw [hmr]; exact decide_eq_false (by omega)
    have q1 : mkR R C (fiF i j k col (UInt8.ofNat n) f) = mkR R C (fiF i j row col (UInt8.ofNat n) f) := fi_end (by omega)
    have q2 : mkR R C (fiF i j k col 48 g) = mkR R C (fiF i j row col 48 g) := fi_end (by omega)
    have fl3 := strs_flat (mkR R C (fiF i j k col (UInt8.ofNat n) f))
    have fl4 := strs_flat (mkR R C (fiF i j k col 48 g))
    refine Wp.seq (Wp.seq (Wp.text ?_))
    refine kp 144 (.int IntKind.i64 (↑(i + k) : Int)) ?_
    refine kp 145 (.int IntKind.i64 (↑R : Int)) ?_
    refine kp 146 (.pointer (some ⟨4, 2, none⟩)) ?_
    refine kp 147 (.int IntKind.i64 (↑i : Int)) ?_
    refine kp 148 (.pointer (some ⟨5, 1, none⟩)) ?_
    refine kp 149 (.int IntKind.i64 (↑row : Int)) ?_
    refine kp 150 (.int IntKind.i64 (IntKind.wrap .i64 ((↑i : Int) + (↑row : Int)))) ?_
    refine kp 151 (.int IntKind.i64 (if IntKind.wrap .i64 ((↑i : Int) + (↑row : Int)) < (↑R : Int) then IntKind.wrap .i64 ((↑i : Int) + (↑row : Int)) else (↑R : Int))) ?_
    refine kp 152 (.bool false) ?_ (hop := fun _ => by_fact hc)
    refine WpOps.nil (thenK_at (off' (Wp.exit (thenK_exit (thenK_exit (blockK_hit (blockK_norm (thenK_at (Wp.seq (Wp.text ?_))))))))))
    refine kp 174 (.agg #[Value.slice (some ⟨1, 0, none⟩) R R, Value.slice (some ⟨2, 0, none⟩) R R, Value.int .i64 (↑i : Int), Value.int .i64 (↑j : Int)]) ?_
    refine ld (.tuple #[]) (3) (Blk.mk 30 true [Value.slice (some ⟨1, 0, none⟩) R R, Value.slice (some ⟨2, 0, none⟩) R R, Value.int .i64 (↑i : Int), Value.int .i64 (↑j : Int)]) ?_
    refine WpOps.nil (thenK_at (Wp.ret ?_))
    refine endK_retn [Value.agg #[Value.slice (some (Addr.mk 1 0 none)) R R, Value.slice (some (Addr.mk 2 0 none)) R R, Value.int IntKind.i64 (↑i : Int), Value.int IntKind.i64 (↑j : Int)]] (Value.agg #[Value.slice (some (Addr.mk 1 0 none)) R R, Value.slice (some (Addr.mk 2 0 none)) R R, Value.int IntKind.i64 (↑i : Int), Value.int IntKind.i64 (↑j : Int)]) (by kernel_rfl) (by kernel_rfl) ?_
    exact ice_dv (mkR R C (fiF i j row col (UInt8.ofNat n) f)) (mkR R C (fiF i j row col 48 g)) i j mkR_len.symm mkR_len.symm (by rw [← q1]; kernel_rfl) (by rw [← q2]; kernel_rfl)
end Go.Proofs.Ytlejgfeoffhjoaa.D
