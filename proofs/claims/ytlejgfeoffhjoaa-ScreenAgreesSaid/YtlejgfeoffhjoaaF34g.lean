/- Displays: apply: fill. -/
import Derived.Test.YtlejgfeoffhjoaaFwLem
import Derived.Test.YtlejgfeoffhjoaaF34f
namespace Go.Proofs.Ytlejgfeoffhjoaa.D
open Go.Fw Go.RowKit

/-- A rectangle filled. -/
def fiF (i j h w : Nat) (b : UInt8) (f : Nat → Nat → UInt8) (a c : Nat) : UInt8 := if (i ≤ a ∧ a < i + h) ∧ j ≤ c ∧ c < j + w then b else f a c
theorem fi_step {R C i j k w : Nat} {b : UInt8} {f : Nat → Nat → UInt8} : mkR R C (putF (fiF i j k w b f) (i + k) j (fillS b (min w (C - j)))) = mkR R C (fiF i j (k + 1) w b f) := by
  refine mkR_congr fun a c ha hc => ?_
  unfold putF fiF
  rw [fillS_size]
  by_cases q : a = i + k ∧ j ≤ c ∧ c < j + min w (C - j)
  · rw [if_pos q, if_pos (by omega), fillS_at _ (by omega)]
  · rw [if_neg q]
    by_cases q2 : (i ≤ a ∧ a < i + k) ∧ j ≤ c ∧ c < j + w
    · rw [if_pos q2, if_pos (by omega)]
    · rw [if_neg q2, if_neg (by omega)]
theorem fi_end {R C i j k h w : Nat} {b : UInt8} {f : Nat → Nat → UInt8} (hk : k = h ∨ (k ≤ h ∧ R ≤ i + k)) : mkR R C (fiF i j k w b f) = mkR R C (fiF i j h w b f) := by
  refine mkR_congr fun a c ha _ => ?_
  unfold fiF
  by_cases q : (i ≤ a ∧ a < i + k) ∧ j ≤ c ∧ c < j + w
  · rw [if_pos q, if_pos (by omega)]
  · rw [if_neg q, if_neg (by omega)]
theorem b_w (n : Nat) (h : n < 256) : UInt8.ofNat (IntKind.u8.wrap (n : Int)).toNat = UInt8.ofNat n := by
  rw [u8_all _ h]
  rfl
set_option maxHeartbeats 4000000 in
theorem apply6 (x y R C : Nat) (f g : Nat → Nat → UInt8) (i j row col n : Nat) (t : ByteArray) (hx : x ≠ 2) (hy : y ≠ 2) (hi : i < R) (hj : j < C) (hR : R ≤ 40) (hC : C ≤ 80) (hrow : row ≤ R) (hcol : col ≤ C) (hn : n < 256) :
    Fun E 40 [dv x y (mkR R C f) (mkR R C g) i j, uv 6 row col n t] (dv 0 0 (mkR R C (fiF i j row col (UInt8.ofNat n) f)) (mkR R C (fiF i j row col 48 g)) i j) := by
  refine Fun.of f40 rfl (of_decide_eq_true (by kernel_rfl)) (dv_ice _ _ _ _ _ _) ?_
  have c1 := clone64m x R C f hx (by omega) hR
  have c2 := clone64m y R C g hy (by omega) hR
  have l1 : 0 ≤ (0 : Int) ∧ (0 : Int) < (mkR R C f).length := by rw [mkR_len]; omega
  have v1 := strs_0 (mkR R C f) (by rw [mkR_len]; omega)
  have fl1 := strs_flat (mkR R C f)
  have fl2 := strs_flat (mkR R C g)
  have e0 : (rowAt (mkR R C f) 0).size = C := mkR_size (by omega)
  have e1 : (((rowAt (mkR R C f) 0).size : Nat) : Int) = C := by rw [e0]
  have e2 : (((mkR R C f).length : Nat) : Int) = R := by rw [mkR_len]
  have z1 : mkR R C f = mkR R C (fiF i j 0 col (UInt8.ofNat n) f) := mkR_congr fun a b _ _ => by unfold fiF; rw [if_neg (by omega)]
  have z2 : mkR R C g = mkR R C (fiF i j 0 col 48 g) := mkR_congr fun a b _ _ => by unfold fiF; rw [if_neg (by omega)]
  have hmr : (if (R : Int) < IntKind.i64.wrap ((i : Int) + row) then (R : Int) else IntKind.i64.wrap ((i : Int) + row)) = ((min (i + row) R : Nat) : Int) := by
    rw [wr _ (by omega) (by omega)]
    split <;> omega
  have hmc : (if IntKind.i64.wrap ((C : Int) - j) < (col : Int) then IntKind.i64.wrap ((C : Int) - j) else (col : Int)) = ((min col (C - j) : Nat) : Int) := by
    rw [wr _ (by omega) (by omega)]
    split <;> omega
  unfold dv uv strs
  unfold strs sB at c1 c2
  refine Wp.seq (Wp.text ?_)
  refine md 2 (.pointer (some ⟨0, 0, none⟩)) (Blk.mk 24 true [strs x (mkR R C f), strs y (mkR R C g), Value.int .i64 (↑i : Int), Value.int .i64 (↑j : Int)]) ?_
  refine md 3 (.pointer (some ⟨1, 0, none⟩)) (Blk.mk 26 true [Value.int .i64 6, Value.int .i64 (↑row : Int), Value.int .i64 (↑col : Int), Value.int .i64 (↑n : Int), Value.string t]) ?_
  refine md 4 (.pointer (some ⟨2, 0, none⟩)) (Blk.mk 24 true [Value.slice none 0 0, Value.slice none 0 0, Value.int .i64 0, Value.int .i64 0]) ?_
  refine WpOps.nil (thenK_at (Wp.seq ?_))
  refine Wp.region (by kernel_rfl) ?_
  refine kp 11 (.pointer (some ⟨0, 0, none⟩)) ?_
  refine kp 12 (.iface 9 (Value.iface (List.length (mkR R C f)) (Value.iface x (Value.agg (List.toArray (List.map Value.string (mkR R C f))))))) ?_
  refine kp 13 (.int IntKind.i64 (↑(List.length (mkR R C f)) : Int)) ?_
  refine kp 14 (.pointer (some ⟨0, 0, none⟩)) ?_
  refine kp 15 (.iface 9 (Value.iface (List.length (mkR R C f)) (Value.iface x (Value.agg (List.toArray (List.map Value.string (mkR R C f))))))) ?_
  refine kp 16 (.iface 9 (Value.iface 0 (Value.agg (List.toArray (List.map Value.string (mkR R C f)))))) ?_ (hop := fun _ => o_indexI (e := 9) (size := 1) (a := 0) l1)
  refine kp 17 (.string (rowAt (mkR R C f) 0)) ?_ (hop := fun _ => o_loadI1 (0) v1)
  refine kp 18 (.int IntKind.i64 (↑(ByteArray.size (rowAt (mkR R C f) 0)) : Int)) ?_
  refine kp 5 (.int IntKind.i64 (↑(List.length (mkR R C f)) : Int)) ?_
  refine kp 6 (.int IntKind.i64 (↑(ByteArray.size (rowAt (mkR R C f) 0)) : Int)) ?_
  refine WpOps.nil (thenK_at (Wp.seq ?_))
  refine Wp.region (by kernel_rfl) ?_
  refine kp 19 (.pointer (some ⟨0, 0, none⟩)) ?_
  refine kp 20 (.iface 9 (Value.iface (List.length (mkR R C f)) (Value.iface x (Value.agg (List.toArray (List.map Value.string (mkR R C f))))))) ?_
  refine clr 21 64 [strs x (mkR R C f)] ?_
  refine WpCall.lent [] (c1) (by decide) trivial (by kernel_rfl) (Value.slice (some (Addr.mk (List.getD [3] 0 0) 0 none)) R R) ([Blk.mk 9 true (List.map Value.string (mkR R C f))]) (.cons (unB_flat (by assumption)) .nil) (by kernel_rfl) (Heap.alloc (Heap.ro (Heap.alloc (Heap.alloc (Heap.alloc Heap.none (Blk.mk 24 true [strs x (mkR R C f), strs y (mkR R C g), Value.int IntKind.i64 (↑i : Int), Value.int IntKind.i64 (↑j : Int)])) (Blk.mk 26 true [Value.int IntKind.i64 6, Value.int IntKind.i64 (↑row : Int), Value.int IntKind.i64 (↑col : Int), Value.int IntKind.i64 (↑n : Int), Value.string t])) (Blk.mk 24 true [Value.slice none 0 0, Value.slice none 0 0, Value.int IntKind.i64 0, Value.int IntKind.i64 0]))) (Blk.mk 9 true (List.map Value.string (mkR R C f)))) (by kernel_rfl) ?_
  refine kp 22 (.pointer (some ⟨0, 1, none⟩)) ?_
  refine kp 23 (.iface 9 (Value.iface (List.length (mkR R C g)) (Value.iface y (Value.agg (List.toArray (List.map Value.string (mkR R C g))))))) ?_
  refine cl 24 64 [strs y (mkR R C g)] ?_
  refine WpCall.lent [] (c2) (by decide) trivial (by kernel_rfl) (Value.slice (some (Addr.mk (List.getD [4] 0 0) 0 none)) R R) ([Blk.mk 9 true (List.map Value.string (mkR R C g))]) (.cons (unB_flat (by assumption)) .nil) (by kernel_rfl) (Heap.alloc (Heap.merge (Heap.alloc (Heap.alloc (Heap.alloc Heap.none (Blk.mk 24 true [strs x (mkR R C f), strs y (mkR R C g), Value.int IntKind.i64 (↑i : Int), Value.int IntKind.i64 (↑j : Int)])) (Blk.mk 26 true [Value.int IntKind.i64 6, Value.int IntKind.i64 (↑row : Int), Value.int IntKind.i64 (↑col : Int), Value.int IntKind.i64 (↑n : Int), Value.string t])) (Blk.mk 24 true [Value.slice none 0 0, Value.slice none 0 0, Value.int IntKind.i64 0, Value.int IntKind.i64 0])) (Heap.alloc (Heap.ro (Heap.alloc (Heap.alloc (Heap.alloc Heap.none (Blk.mk 24 true [strs x (mkR R C f), strs y (mkR R C g), Value.int IntKind.i64 (↑i : Int), Value.int IntKind.i64 (↑j : Int)])) (Blk.mk 26 true [Value.int IntKind.i64 6, Value.int IntKind.i64 (↑row : Int), Value.int IntKind.i64 (↑col : Int), Value.int IntKind.i64 (↑n : Int), Value.string t])) (Blk.mk 24 true [Value.slice none 0 0, Value.slice none 0 0, Value.int IntKind.i64 0, Value.int IntKind.i64 0]))) (Blk.mk 9 true (List.map Value.string (mkR R C f))))) (Blk.mk 9 true (List.map Value.string (mkR R C g)))) (by kernel_rfl) ?_
  refine kp 25 (.pointer (some ⟨0, 0, none⟩)) ?_
  refine ld (.tuple #[]) (0) (Blk.mk 24 true [Value.slice (some (Addr.mk (List.getD [3] 0 0) 0 none)) R R, strs y (mkR R C g), Value.int .i64 (↑i : Int), Value.int .i64 (↑j : Int)]) ?_
  refine kp 26 (.pointer (some ⟨0, 1, none⟩)) ?_
  refine cg0 (.tuple #[]) (Heap.set (Heap.set (Heap.alloc (Heap.merge (Heap.alloc (Heap.alloc (Heap.alloc Heap.none (Blk.mk 24 true [strs x (mkR R C f), strs y (mkR R C g), Value.int .i64 (↑i : Int), Value.int .i64 (↑j : Int)])) (Blk.mk 26 true [Value.int .i64 6, Value.int .i64 (↑row : Int), Value.int .i64 (↑col : Int), Value.int .i64 (↑n : Int), Value.string t])) (Blk.mk 24 true [Value.slice none 0 0, Value.slice none 0 0, Value.int .i64 0, Value.int .i64 0])) (Heap.alloc (Heap.ro (Heap.alloc (Heap.alloc (Heap.alloc Heap.none (Blk.mk 24 true [strs x (mkR R C f), strs y (mkR R C g), Value.int .i64 (↑i : Int), Value.int .i64 (↑j : Int)])) (Blk.mk 26 true [Value.int .i64 6, Value.int .i64 (↑row : Int), Value.int .i64 (↑col : Int), Value.int .i64 (↑n : Int), Value.string t])) (Blk.mk 24 true [Value.slice none 0 0, Value.slice none 0 0, Value.int .i64 0, Value.int .i64 0]))) (Blk.mk 9 true (List.map Value.string (mkR R C f))))) (Blk.mk 9 true (List.map Value.string (mkR R C g)))) 0 (some (Blk.mk 24 true [Value.slice (some ⟨3, 0, none⟩) R R, strs y (mkR R C g), Value.int .i64 (↑i : Int), Value.int .i64 (↑j : Int)]))) 0 (some (Blk.mk 24 true [Value.slice (some ⟨3, 0, none⟩) R R, Value.slice (some (Addr.mk (List.getD [4] 0 0) 0 none)) R R, Value.int .i64 (↑i : Int), Value.int .i64 (↑j : Int)]))) ?_
  refine WpOps.nil (thenK_at (Wp.seq (Wp.text ?_)))
  refine kp 7 (.func (Fn.func 65) #[] #[]) ?_
  refine WpOps.nil (thenK_at (Wp.seq (Wp.seq (Wp.text ?_))))
  refine kp 27 (.pointer (some ⟨1, 0, none⟩)) ?_
  refine kp 28 (.int IntKind.i64 6) ?_
  refine WpOps.nil (thenK_at (Wp.block (Wp.seq (Wp.text ?_))))
  refine kp 30 (.bool false) ?_
  refine kp 29 (.bool false) ?_
  refine WpOps.nil (thenK_at (off' (Wp.seq (Wp.text ?_))))
  refine kp 38 (.bool false) ?_
  refine kp 37 (.bool false) ?_
  refine WpOps.nil (thenK_at (off' (Wp.seq (Wp.text ?_))))
  refine kp 45 (.bool false) ?_
  refine kp 44 (.bool false) ?_
  refine WpOps.nil (thenK_at (off' (Wp.seq (Wp.text ?_))))
  refine kp 58 (.bool false) ?_
  refine kp 57 (.bool false) ?_
  refine WpOps.nil (thenK_at (off' (Wp.seq (Wp.text ?_))))
  refine kp 72 (.bool false) ?_
  refine kp 71 (.bool false) ?_
  refine WpOps.nil (thenK_at (off' (Wp.seq (Wp.text ?_))))
  refine kp 91 (.bool true) ?_
  refine kp 90 (.bool true) ?_
  refine WpOps.nil (thenK_at (on' (Wp.seq (Wp.text ?_))))
  refine kp 92 (.pointer (some ⟨0, 2, none⟩)) ?_
  refine kp 93 (.int IntKind.i64 (↑i : Int)) ?_
  refine kp 9 (.int IntKind.i64 (↑i : Int)) ?_
  refine WpOps.nil (thenK_at (Wp.block ?_))
  refine Wp.loop (G := Nat) (fun k => layj [(2, .pointer (some ⟨0, 0, none⟩)), (3, .pointer (some ⟨4, 0, none⟩)), (4, .pointer (some ⟨3, 0, none⟩)), (5, .int .i64 R), (6, .int .i64 C), (9, .int .i64 ((i + k : Nat) : Int))]) (fun k => heapOf [dB R R i j, sB (mkR R C (fiF i j k col (UInt8.ofNat n) f)), sB (mkR R C (fiF i j k col 48 g)), ⟨24, true, [.slice none 0 0, .slice none 0 0, .int .i64 0, .int .i64 0]⟩, ⟨26, true, [.int .i64 6, .int .i64 row, .int .i64 col, .int .i64 n, .string t]⟩]) (fun k => R - k) (fun k => k ≤ row ∧ i + k ≤ R) 0
    (View.of [0, 3, 4, 2, 1] [dB R R i j, sB (mkR R C (fiF i j 0 col (UInt8.ofNat n) f)), sB (mkR R C (fiF i j 0 col 48 g)), ⟨24, true, [.slice none 0 0, .slice none 0 0, .int .i64 0, .int .i64 0]⟩, ⟨26, true, [.int .i64 6, .int .i64 row, .int .i64 col, .int .i64 n, .string t]⟩] _ (by decide) rfl ⟨⟨[.slice (some ⟨3, 0, none⟩) R R, .slice (some ⟨4, 0, none⟩) R R, .int .i64 i, .int .i64 j], by kernel_rfl, ⟨by kernel_rfl, by kernel_rfl⟩⟩, ⟨_, by kernel_rfl, CellsOk.eq (congrArg (List.map Value.string) z1) (strs_flat _)⟩, ⟨_, by kernel_rfl, CellsOk.eq (congrArg (List.map Value.string) z2) (strs_flat _)⟩, ⟨_, by kernel_rfl, CellsOk.eq rfl rfl⟩, ⟨_, by kernel_rfl, CellsOk.eq rfl rfl⟩, trivial⟩
      ⟨⟨by kernel_rfl, rfl⟩, ⟨by kernel_rfl, rfl⟩, ⟨by kernel_rfl, rfl⟩, ⟨congrArg (Value.int .i64) e2, rfl⟩, ⟨congrArg (Value.int .i64) e1, rfl⟩, ⟨by kernel_rfl, rfl⟩, trivial⟩) ⟨Nat.zero_le _, by omega⟩ ?_
  rintro k ⟨hk, hk2⟩
  unfold dB sB
  by_cases hq : i + k < min (i + row) R
  · have hc : decide (((i + k : Nat) : Int) < (if (R : Int) < IntKind.i64.wrap ((i : Int) + row) then (R : Int) else IntKind.i64.wrap ((i : Int) + row))) = true := by rw [hmr]; exact decide_eq_true (by omega)
    have c3 : Fun E 45 [.string ⟨#[UInt8.ofNat (IntKind.u8.wrap (n : Int)).toNat]⟩, .int .i64 (if IntKind.i64.wrap ((C : Int) - j) < (col : Int) then IntKind.i64.wrap ((C : Int) - j) else (col : Int))] (.string (fillS (UInt8.ofNat n) (min col (C - j)))) := by
      rw [hmc, b_w n hn]
      exact fill45 _ _ (by omega)
    have c4 : Lent E 67 [.pointer (some ⟨0, 0, none⟩), .int .i64 ((i + k : Nat) : Int), .int .i64 j, .string (fillS (UInt8.ofNat n) (min col (C - j))), .int .i64 0] (dBs R C (fiF i j k col (UInt8.ofNat n) f) (fiF i j k col 48 g) i j) (.tuple #[]) (dBs R C (fiF i j (k + 1) col (UInt8.ofNat n) f) (fiF i j (k + 1) col 48 g) i j) := by
      have h := putM R C (fiF i j k col (UInt8.ofNat n) f) (fiF i j k col 48 g) i j (i + k) j 0 (fillS (UInt8.ofNat n) (min col (C - j))) (by omega) hC (by rw [fillS_size]; omega) (by omega)
      have e48 : UInt8.ofNat (48 + 0) = 48 := rfl
      rw [fillS_size, e48, dBs_eq i j fi_step fi_step] at h
      exact h
    have fl3 := strs_flat (mkR R C (fiF i j k col (UInt8.ofNat n) f))
    have fl4 := strs_flat (mkR R C (fiF i j k col 48 g))
    have fl5 := strs_flat (mkR R C (fiF i j (k + 1) col (UInt8.ofNat n) f))
    have fl6 := strs_flat (mkR R C (fiF i j (k + 1) col 48 g))
    have w3 : IntKind.i64.wrap (((i + k : Nat) : Int) + 1) = ((i + (k + 1) : Nat) : Int) := by rw [wr _ (by omega) (by omega)]; omega
    unfold dBs dB sB at c4
    refine Wp.seq (Wp.seq (Wp.text ?_))
    refine kp 94 (.int IntKind.i64 (↑(i + k) : Int)) ?_
    refine kp 95 (.pointer (some ⟨0, 2, none⟩)) ?_
    refine kp 96 (.int IntKind.i64 (↑i : Int)) ?_
    refine kp 97 (.pointer (some ⟨4, 1, none⟩)) ?_
    refine kp 98 (.int IntKind.i64 (↑row : Int)) ?_
    refine kp 99 (.int IntKind.i64 (IntKind.wrap .i64 ((↑i : Int) + (↑row : Int)))) ?_
    refine kp 100 (.int IntKind.i64 (↑R : Int)) ?_
    refine kp 101 (.int IntKind.i64 (if (↑R : Int) < IntKind.wrap .i64 ((↑i : Int) + (↑row : Int)) then (↑R : Int) else IntKind.wrap .i64 ((↑i : Int) + (↑row : Int)))) ?_
    refine kp 102 (.bool true) ?_ (hop := fun _ => by_fact hc)
    refine WpOps.nil (thenK_at (on' (Wp.skip (thenK_at (Wp.seq (Wp.block (Wp.seq (Wp.text ?_))))))))
    refine kp 105 (.pointer (some ⟨4, 2, none⟩)) ?_
    refine kp 106 (.int IntKind.i64 (↑col : Int)) ?_
    refine kp 107 (.int IntKind.i64 (↑C : Int)) ?_
    refine kp 108 (.pointer (some ⟨0, 3, none⟩)) ?_
    refine kp 109 (.int IntKind.i64 (↑j : Int)) ?_
    refine kp 110 (.int IntKind.i64 (IntKind.wrap .i64 ((↑C : Int) - (↑j : Int)))) ?_
    refine kp 111 (.int IntKind.i64 (if IntKind.wrap .i64 ((↑C : Int) - (↑j : Int)) < (↑col : Int) then IntKind.wrap .i64 ((↑C : Int) - (↑j : Int)) else (↑col : Int))) ?_
    refine kp 10 (.int IntKind.i64 (if IntKind.wrap .i64 ((↑C : Int) - (↑j : Int)) < (↑col : Int) then IntKind.wrap .i64 ((↑C : Int) - (↑j : Int)) else (↑col : Int))) ?_
    refine WpOps.nil (thenK_at ?_)
    refine Wp.region (by kernel_rfl) ?_
    refine kp 112 (.int IntKind.i64 (↑(i + k) : Int)) ?_
    refine kp 113 (.pointer (some ⟨0, 3, none⟩)) ?_
    refine kp 114 (.int IntKind.i64 (↑j : Int)) ?_
    refine kp 115 (.pointer (some ⟨4, 3, none⟩)) ?_
    refine kp 116 (.int IntKind.i64 (↑n : Int)) ?_
    refine kp 117 (.int IntKind.u8 (IntKind.wrap .u8 (↑n : Int))) ?_
    refine md 118 (.slice (some ⟨5, 0, none⟩) 1 1) (Blk.mk 5 true [Value.int .u8 (IntKind.wrap .u8 (↑n : Int))]) ?_
    refine kp 119 (.string (ByteArray.mk #[UInt8.ofNat (Int.toNat (IntKind.wrap .u8 (↑n : Int)))])) ?_
    refine kp 120 (.int IntKind.i64 (if IntKind.wrap .i64 ((↑C : Int) - (↑j : Int)) < (↑col : Int) then IntKind.wrap .i64 ((↑C : Int) - (↑j : Int)) else (↑col : Int))) ?_
    refine fr 121 45 [Value.string (ByteArray.mk #[UInt8.ofNat (Int.toNat (IntKind.wrap .u8 (↑n : Int)))]), Value.int .i64 (if IntKind.wrap .i64 ((↑C : Int) - (↑j : Int)) < (↑col : Int) then IntKind.wrap .i64 ((↑C : Int) - (↑j : Int)) else (↑col : Int))] ?_
    refine WpFun.of (c3) ?_
    refine cl 122 67 [Value.pointer (some ⟨0, 0, none⟩), Value.int .i64 (↑(i + k) : Int), Value.int .i64 (↑j : Int), Value.string (fillS (UInt8.ofNat n) (min col (C - j))), Value.int .i64 0] ?_
    refine WpCall.lent [0, 1, 2] (c4) (by decide) ⟨⟨[Value.slice (some (Addr.mk 1 0 none)) R R, Value.slice (some (Addr.mk 2 0 none)) R R, Value.int IntKind.i64 (↑i : Int), Value.int IntKind.i64 (↑j : Int)], (by kernel_rfl), (by kernel_rfl), (by kernel_rfl)⟩, ⟨⟨_, (by kernel_rfl), CellsOk.eq rfl (by assumption)⟩, ⟨⟨_, (by kernel_rfl), CellsOk.eq rfl (by assumption)⟩, trivial⟩⟩⟩ (by kernel_rfl) (Value.tuple #[]) ([Blk.mk 24 true [Value.slice (some (Addr.mk (List.getD [0, 1, 2] 1 0) 0 none)) R R, Value.slice (some (Addr.mk (List.getD [0, 1, 2] 2 0) 0 none)) R R, Value.int IntKind.i64 (↑i : Int), Value.int IntKind.i64 (↑j : Int)], Blk.mk 9 true (List.map Value.string (mkR R C (fiF i j (k + 1) col (UInt8.ofNat n) f))), Blk.mk 9 true (List.map Value.string (mkR R C (fiF i j (k + 1) col 48 g)))]) (.cons (by kernel_rfl) (.cons (unB_flat (by assumption)) (.cons (unB_flat (by assumption)) .nil))) (by kernel_rfl) (Heap.set (Heap.set (Heap.set (Heap.alloc (heapOf [Blk.mk 24 true [Value.slice (some (Addr.mk 1 0 none)) R R, Value.slice (some (Addr.mk 2 0 none)) R R, Value.int IntKind.i64 (↑i : Int), Value.int IntKind.i64 (↑j : Int)], Blk.mk 9 true (List.map Value.string (mkR R C (fiF i j k col (UInt8.ofNat n) f))), Blk.mk 9 true (List.map Value.string (mkR R C (fiF i j k col 48 g))), Blk.mk 24 true [Value.slice none 0 0, Value.slice none 0 0, Value.int IntKind.i64 0, Value.int IntKind.i64 0], Blk.mk 26 true [Value.int IntKind.i64 6, Value.int IntKind.i64 (↑row : Int), Value.int IntKind.i64 (↑col : Int), Value.int IntKind.i64 (↑n : Int), Value.string t]]) (Blk.mk 5 true [Value.int IntKind.u8 (IntKind.wrap IntKind.u8 (↑n : Int))])) 0 (some (Blk.mk 24 true [Value.slice (some (Addr.mk 1 0 none)) R R, Value.slice (some (Addr.mk 2 0 none)) R R, Value.int IntKind.i64 (↑i : Int), Value.int IntKind.i64 (↑j : Int)]))) 1 (some (Blk.mk 9 true (List.map Value.string (mkR R C (fiF i j (k + 1) col (UInt8.ofNat n) f)))))) 2 (some (Blk.mk 9 true (List.map Value.string (mkR R C (fiF i j (k + 1) col 48 g)))))) (by kernel_rfl) ?_
    refine WpOps.nil (blockK_norm (thenK_at (Wp.text ?_)))
    refine kp 103 (.int IntKind.i64 (↑(i + k) : Int)) ?_
    refine kp 104 (.int IntKind.i64 (IntKind.wrap .i64 ((↑(i + k) : Int) + 1))) ?_
    refine kp 9 (.int IntKind.i64 (IntKind.wrap .i64 ((↑(i + k) : Int) + 1))) ?_
    refine WpOps.nil (thenK_at ?_)
    exact ⟨k + 1, by omega, ⟨by omega, by omega⟩, View.of [0, 1, 2, 3, 4] [dB R R i j, sB (mkR R C (fiF i j (k + 1) col (UInt8.ofNat n) f)), sB (mkR R C (fiF i j (k + 1) col 48 g)), ⟨24, true, [.slice none 0 0, .slice none 0 0, .int .i64 0, .int .i64 0]⟩, ⟨26, true, [.int .i64 6, .int .i64 row, .int .i64 col, .int .i64 n, .string t]⟩] _ (by decide) rfl ⟨⟨[.slice (some ⟨1, 0, none⟩) R R, .slice (some ⟨2, 0, none⟩) R R, .int .i64 i, .int .i64 j], by kernel_rfl, ⟨by kernel_rfl, by kernel_rfl⟩⟩, ⟨_, by kernel_rfl, CellsOk.eq rfl fl5⟩, ⟨_, by kernel_rfl, CellsOk.eq rfl fl6⟩, ⟨_, by kernel_rfl, CellsOk.eq rfl rfl⟩, ⟨_, by kernel_rfl, CellsOk.eq rfl rfl⟩, trivial⟩
      ⟨⟨by kernel_rfl, rfl⟩, ⟨by kernel_rfl, rfl⟩, ⟨by kernel_rfl, rfl⟩, ⟨by kernel_rfl, rfl⟩, ⟨by kernel_rfl, rfl⟩, ⟨congrArg (Value.int .i64) w3, rfl⟩, trivial⟩⟩
  · have hc : decide (((i + k : Nat) : Int) < (if (R : Int) < IntKind.i64.wrap ((i : Int) + row) then (R : Int) else IntKind.i64.wrap ((i : Int) + row))) = false := by rw [hmr]; exact decide_eq_false (by omega)
    have q1 : mkR R C (fiF i j k col (UInt8.ofNat n) f) = mkR R C (fiF i j row col (UInt8.ofNat n) f) := fi_end (by omega)
    have q2 : mkR R C (fiF i j k col 48 g) = mkR R C (fiF i j row col 48 g) := fi_end (by omega)
    refine Wp.seq (Wp.seq (Wp.text ?_))
    refine kp 94 (.int IntKind.i64 (↑(i + k) : Int)) ?_
    refine kp 95 (.pointer (some ⟨0, 2, none⟩)) ?_
    refine kp 96 (.int IntKind.i64 (↑i : Int)) ?_
    refine kp 97 (.pointer (some ⟨4, 1, none⟩)) ?_
    refine kp 98 (.int IntKind.i64 (↑row : Int)) ?_
    refine kp 99 (.int IntKind.i64 (IntKind.wrap .i64 ((↑i : Int) + (↑row : Int)))) ?_
    refine kp 100 (.int IntKind.i64 (↑R : Int)) ?_
    refine kp 101 (.int IntKind.i64 (if (↑R : Int) < IntKind.wrap .i64 ((↑i : Int) + (↑row : Int)) then (↑R : Int) else IntKind.wrap .i64 ((↑i : Int) + (↑row : Int)))) ?_
    refine kp 102 (.bool false) ?_ (hop := fun _ => by_fact hc)
    refine WpOps.nil (thenK_at (off' (Wp.exit (thenK_exit (thenK_exit (blockK_hit (blockK_norm (thenK_at (Wp.seq (Wp.text ?_))))))))))
    refine kp 123 (.agg #[Value.slice (some ⟨1, 0, none⟩) R R, Value.slice (some ⟨2, 0, none⟩) R R, Value.int .i64 (↑i : Int), Value.int .i64 (↑j : Int)]) ?_
    refine ld (.tuple #[]) (3) (Blk.mk 24 true [Value.slice (some ⟨1, 0, none⟩) R R, Value.slice (some ⟨2, 0, none⟩) R R, Value.int .i64 (↑i : Int), Value.int .i64 (↑j : Int)]) ?_
    refine WpOps.nil (thenK_at (Wp.ret ?_))
    refine endK_retn [Value.agg #[Value.slice (some (Addr.mk 1 0 none)) R R, Value.slice (some (Addr.mk 2 0 none)) R R, Value.int IntKind.i64 (↑i : Int), Value.int IntKind.i64 (↑j : Int)]] (Value.agg #[Value.slice (some (Addr.mk 1 0 none)) R R, Value.slice (some (Addr.mk 2 0 none)) R R, Value.int IntKind.i64 (↑i : Int), Value.int IntKind.i64 (↑j : Int)]) (by kernel_rfl) (by kernel_rfl) ?_
    exact ice_dv (mkR R C (fiF i j row col (UInt8.ofNat n) f)) (mkR R C (fiF i j row col 48 g)) i j mkR_len.symm mkR_len.symm (by rw [← q1]; kernel_rfl) (by rw [← q2]; kernel_rfl)
end Go.Proofs.Ytlejgfeoffhjoaa.D
