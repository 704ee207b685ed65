/- Bits: pack of the reference. -/
import Derived.Test.YthhlfddpacmhfaaDoorFwLem
import Derived.Test.YthhlfddpacmhfaaDoorFwMore
import Derived.Test.YthhlfddpacmhfaaDoorD01h
namespace Go.Proofs.YthhlfddpacmhfaaDoor.D
open Go.Fw Go.RowKit

def pkF (s : ByteArray) (k : Nat) : UInt8 := UInt8.ofNat (numN s (8 * k) 8)
def pkN (s : ByteArray) : Nat := (s.size + 7) / 8
def pk (s : ByteArray) : ByteArray := mkB (pkN s) (pkF s)
theorem pkF_nat (s : ByteArray) (k : Nat) : IntKind.u8.wrap (numN s (8 * k) 8 : Int) = ((pkF s k).toNat : Int) := by
  have h := numN_lt s (8 * k) 8
  unfold pkF
  rw [UInt8.toNat_ofNat', u8w]
  omega
def oV (k : Nat) : Value := if k = 0 then .slice none 0 0 else .slice (some ⟨0, 0, none⟩) k k
def oB (s : ByteArray) (k : Nat) : List Blk := if k = 0 then [] else [⟨5, true, byteCells (mkB k (pkF s))⟩]
theorem oV_nil : oV 0 = .slice none 0 0 := rfl
theorem oV_own {k : Nat} (h : ¬ k = 0) : oV k = .slice (some ⟨0, 0, none⟩) k k := if_neg h
theorem oB_nil (s : ByteArray) : oB s 0 = [] := rfl
theorem oB_own {s : ByteArray} {k : Nat} (h : ¬ k = 0) : oB s k = [⟨5, true, byteCells (mkB k (pkF s))⟩] := if_neg h
theorem byteAt_out (s : ByteArray) (i : Nat) (h : s.size ≤ i) : byteAt s i = 0 := by
  unfold byteAt
  rw [List.getD_eq_getElem?_getD, List.getElem?_eq_none (by rw [Array.length_toList]; exact h)]
  rfl
theorem f34 : E.funcs 34 = some Tryd.f34 := by kernel_rfl
theorem pack34 (s : ByteArray) (hs : s.size ≤ 32000) : Fun E 34 [.string s] (.string (pk s)) := by
  refine Fun.of f34 rfl (of_decide_eq_true (by kernel_rfl)) rfl ?_
  refine Wp.seq (Wp.text ?_)
  refine kp 2 (.string (ByteArray.mk #[])) ?_
  refine WpOps.nil (thenK_at (Wp.seq (Wp.text ?_)))
  refine kp 3 (.slice none 0 0) ?_
  refine WpOps.nil (thenK_at (Wp.seq (Wp.seq (Wp.text ?_))))
  refine kp 4 (.int IntKind.i64 0) ?_
  refine WpOps.nil (thenK_at (Wp.block ?_))
  refine Wp.loop (G := Nat) (fun k => layj [(0, .string s), (3, oV k), (4, .int .i64 (8 * k : Nat))]) (fun k => heapOf (oB s k)) (fun k => pkN s - k) (fun k => k ≤ pkN s) 0
    (View.of [] [] _ (by decide) rfl trivial ⟨⟨by kernel_rfl, rfl⟩, ⟨by kernel_rfl, rfl⟩, ⟨by kernel_rfl, rfl⟩, trivial⟩) (Nat.zero_le _) ?_
  intro k hk
  have hN : pkN s = (s.size + 7) / 8 := rfl
  by_cases hlt : k < pkN s
  · have d1 : decide (((8 * k : Nat) : Int) < s.size) = true := decide_eq_true (by omega)
    refine Wp.seq (Wp.seq (Wp.text ?_))
    refine kp 7 (.int IntKind.i64 (↑(8 * k) : Int)) ?_
    refine kp 8 (.string s) ?_
    refine kp 9 (.int IntKind.i64 (↑(ByteArray.size s) : Int)) ?_
    refine kp 10 (.bool true) ?_ (hop := fun _ => by_fact d1)
    refine WpOps.nil (thenK_at (on' (Wp.skip (thenK_at (Wp.seq (Wp.block (Wp.seq (Wp.text ?_))))))))
    refine kp 5 (.int IntKind.i64 0) ?_
    refine WpOps.nil (thenK_at (Wp.seq (Wp.seq (Wp.text ?_))))
    refine kp 13 (.int IntKind.i64 (↑(8 * k) : Int)) ?_
    refine kp 6 (.int IntKind.i64 (↑(8 * k) : Int)) ?_
    refine WpOps.nil (thenK_at (Wp.block ?_))
    refine Wp.loop (G := Nat) (fun q => layj [(0, .string s), (3, oV k), (4, .int .i64 (8 * k : Nat)), (5, .int .i64 (numN s (8 * k) q)), (6, .int .i64 (8 * k + q : Nat))]) (fun q => heapOf (oB s k)) (fun q => 8 - q) (fun q => q ≤ 8) 0
      (View.slots (l := [(0, .string s), (3, oV k), (4, .int .i64 (8 * k : Nat)), (5, .int .i64 (numN s (8 * k) 0)), (6, .int .i64 (8 * k + 0 : Nat))]) ⟨by kernel_rfl, by kernel_rfl, by kernel_rfl, by kernel_rfl, by kernel_rfl, trivial⟩) (Nat.zero_le _) ?_
    intro q hq
    have ew : IntKind.i64.wrap (((8 * k : Nat) : Int) + 8) = ((8 * k + 8 : Nat) : Int) := by rw [wr _ (by omega) (by omega)]; omega
    by_cases hq8 : q < 8
    · have d2 : decide (((8 * k + q : Nat) : Int) < IntKind.i64.wrap (((8 * k : Nat) : Int) + 8)) = true := by rw [ew]; exact decide_eq_true (by omega)
      have hb := numN_lt s (8 * k) q
      have hp := Nat.pow_le_pow_right (n := 2) (by decide) hq
      have e0 : IntKind.i64.wrap (2 * (numN s (8 * k) q : Int)) = ((2 * numN s (8 * k) q : Nat) : Int) := by rw [wr _ (by omega) (by omega)]; omega
      have ei : IntKind.i64.wrap (((8 * k + q : Nat) : Int) + 1) = ((8 * k + (q + 1) : Nat) : Int) := by rw [wr _ (by omega) (by omega)]; omega
      by_cases hin : 8 * k + q < s.size
      · have d3 : decide (((8 * k + q : Nat) : Int) < s.size) = true := decide_eq_true (by omega)
        have m3 : 0 ≤ ((8 * k + q : Nat) : Int) := by omega
        have n3 := byte_get s (8 * k + q) (by omega)
        have e49 := byte49 (byteAt s (8 * k + q))
        by_cases h1 : byteAt s (8 * k + q) = 49
        · rw [decide_eq_true h1] at e49
          have e1 : IntKind.i64.wrap (IntKind.i64.wrap (2 * (numN s (8 * k) q : Int)) + 1) = ((numN s (8 * k) (q + 1) : Nat) : Int) := by
            rw [e0, wr _ (by omega) (by omega), numN, bitN, if_pos h1]
            omega
          refine Wp.seq (Wp.seq (Wp.text ?_))
          refine kp 14 (.int IntKind.i64 (↑(8 * k + q) : Int)) ?_
          refine kp 15 (.int IntKind.i64 (↑(8 * k) : Int)) ?_
          refine kp 16 (.int IntKind.i64 (IntKind.wrap .i64 ((↑(8 * k) : Int) + 8))) ?_
          refine kp 17 (.bool true) ?_ (hop := fun _ => by_fact d2)
          refine WpOps.nil (thenK_at (on' (Wp.skip (thenK_at (Wp.seq (Wp.block (Wp.seq (Wp.text ?_))))))))
          refine kp 20 (.int IntKind.i64 (↑(numN s (8 * k) q) : Int)) ?_
          refine kp 21 (.int IntKind.i64 (IntKind.wrap .i64 (2 * (↑(numN s (8 * k) q) : Int)))) ?_
          refine kp 5 (.int IntKind.i64 (IntKind.wrap .i64 (2 * (↑(numN s (8 * k) q) : Int)))) ?_
          refine WpOps.nil (thenK_at (Wp.seq (Wp.text ?_)))
          refine kp 22 (.int IntKind.i64 (↑(8 * k + q) : Int)) ?_
          refine kp 23 (.string s) ?_
          refine kp 24 (.int IntKind.i64 (↑(ByteArray.size s) : Int)) ?_
          refine kp 25 (.bool true) ?_ (hop := fun _ => by_fact d3)
          refine kp 26 (.bool true) ?_
          refine kp 27 (.string s) ?_
          refine kp 28 (.int IntKind.i64 (↑(8 * k + q) : Int)) ?_
          refine kp 29 (.int IntKind.u8 (↑(UInt8.toNat (byteAt s (8 * k + q))) : Int)) ?_ (hop := fun _ => o_indexStr m3 n3)
          refine kp 30 (.bool true) ?_ (hop := fun _ => by_fact e49)
          refine kp 31 (.bool true) ?_
          refine WpOps.nil (thenK_at (on' (Wp.text ?_)))
          refine kp 32 (.int IntKind.i64 (IntKind.wrap .i64 (2 * (↑(numN s (8 * k) q) : Int)))) ?_
          refine kp 33 (.int IntKind.i64 (IntKind.wrap .i64 (IntKind.wrap .i64 (2 * (↑(numN s (8 * k) q) : Int)) + 1))) ?_
          refine kp 5 (.int IntKind.i64 (IntKind.wrap .i64 (IntKind.wrap .i64 (2 * (↑(numN s (8 * k) q) : Int)) + 1))) ?_
          refine WpOps.nil (blockK_norm (thenK_at (Wp.text ?_)))
          refine kp 18 (.int IntKind.i64 (↑(8 * k + q) : Int)) ?_
          refine kp 19 (.int IntKind.i64 (IntKind.wrap .i64 ((↑(8 * k + q) : Int) + 1))) ?_
          refine kp 6 (.int IntKind.i64 (IntKind.wrap .i64 ((↑(8 * k + q) : Int) + 1))) ?_
          refine WpOps.nil (thenK_at ?_)
          exact ⟨q + 1, by omega, by omega, View.slots ⟨by kernel_rfl, by kernel_rfl, by kernel_rfl, congrArg (Value.int .i64) e1, congrArg (Value.int .i64) ei, trivial⟩⟩
        · rw [decide_eq_false h1] at e49
          have e1 : IntKind.i64.wrap (2 * (numN s (8 * k) q : Int)) = ((numN s (8 * k) (q + 1) : Nat) : Int) := by
            rw [e0, numN, bitN, if_neg h1]
            omega
          refine Wp.seq (Wp.seq (Wp.text ?_))
          refine kp 14 (.int IntKind.i64 (↑(8 * k + q) : Int)) ?_
          refine kp 15 (.int IntKind.i64 (↑(8 * k) : Int)) ?_
          refine kp 16 (.int IntKind.i64 (IntKind.wrap .i64 ((↑(8 * k) : Int) + 8))) ?_
          refine kp 17 (.bool true) ?_ (hop := fun _ => by_fact d2)
          refine WpOps.nil (thenK_at (on' (Wp.skip (thenK_at (Wp.seq (Wp.block (Wp.seq (Wp.text ?_))))))))
          refine kp 20 (.int IntKind.i64 (↑(numN s (8 * k) q) : Int)) ?_
          refine kp 21 (.int IntKind.i64 (IntKind.wrap .i64 (2 * (↑(numN s (8 * k) q) : Int)))) ?_
          refine kp 5 (.int IntKind.i64 (IntKind.wrap .i64 (2 * (↑(numN s (8 * k) q) : Int)))) ?_
          refine WpOps.nil (thenK_at (Wp.seq (Wp.text ?_)))
          refine kp 22 (.int IntKind.i64 (↑(8 * k + q) : Int)) ?_
          refine kp 23 (.string s) ?_
          refine kp 24 (.int IntKind.i64 (↑(ByteArray.size s) : Int)) ?_
          refine kp 25 (.bool true) ?_ (hop := fun _ => by_fact d3)
          refine kp 26 (.bool true) ?_
          refine kp 27 (.string s) ?_
          refine kp 28 (.int IntKind.i64 (↑(8 * k + q) : Int)) ?_
          refine kp 29 (.int IntKind.u8 (↑(UInt8.toNat (byteAt s (8 * k + q))) : Int)) ?_ (hop := fun _ => o_indexStr m3 n3)
          refine kp 30 (.bool false) ?_ (hop := fun _ => by_fact e49)
          refine kp 31 (.bool false) ?_
          refine WpOps.nil (thenK_at (off' (Wp.skip (blockK_norm (thenK_at (Wp.text ?_))))))
          refine kp 18 (.int IntKind.i64 (↑(8 * k + q) : Int)) ?_
          refine kp 19 (.int IntKind.i64 (IntKind.wrap .i64 ((↑(8 * k + q) : Int) + 1))) ?_
          refine kp 6 (.int IntKind.i64 (IntKind.wrap .i64 ((↑(8 * k + q) : Int) + 1))) ?_
          refine WpOps.nil (thenK_at ?_)
          exact ⟨q + 1, by omega, by omega, View.slots ⟨by kernel_rfl, by kernel_rfl, by kernel_rfl, congrArg (Value.int .i64) e1, congrArg (Value.int .i64) ei, trivial⟩⟩
      · have d3 : decide (((8 * k + q : Nat) : Int) < s.size) = false := decide_eq_false (by omega)
        have h1 : ¬ byteAt s (8 * k + q) = 49 := by rw [byteAt_out s _ (by omega)]; decide
        have e1 : IntKind.i64.wrap (2 * (numN s (8 * k) q : Int)) = ((numN s (8 * k) (q + 1) : Nat) : Int) := by
          rw [e0, numN, bitN, if_neg h1]
          omega
        refine Wp.seq (Wp.seq (Wp.text ?_))
        refine kp 14 (.int IntKind.i64 (↑(8 * k + q) : Int)) ?_
        refine kp 15 (.int IntKind.i64 (↑(8 * k) : Int)) ?_
        refine kp 16 (.int IntKind.i64 (IntKind.wrap .i64 ((↑(8 * k) : Int) + 8))) ?_
        refine kp 17 (.bool true) ?_ (hop := fun _ => by_fact d2)
        refine WpOps.nil (thenK_at (on' (Wp.skip (thenK_at (Wp.seq (Wp.block (Wp.seq (Wp.text ?_))))))))
        refine kp 20 (.int IntKind.i64 (↑(numN s (8 * k) q) : Int)) ?_
        refine kp 21 (.int IntKind.i64 (IntKind.wrap .i64 (2 * (↑(numN s (8 * k) q) : Int)))) ?_
        refine kp 5 (.int IntKind.i64 (IntKind.wrap .i64 (2 * (↑(numN s (8 * k) q) : Int)))) ?_
        refine WpOps.nil (thenK_at (Wp.seq (Wp.text ?_)))
        refine kp 22 (.int IntKind.i64 (↑(8 * k + q) : Int)) ?_
        refine kp 23 (.string s) ?_
        refine kp 24 (.int IntKind.i64 (↑(ByteArray.size s) : Int)) ?_
        refine kp 25 (.bool false) ?_ (hop := fun _ => by_fact d3)
        refine kp 26 (.bool false) ?_
        refine um 27 ?_
        refine um 28 ?_
        refine um 29 ?_
        refine um 30 ?_
        refine kp 31 (.bool false) ?_
        refine WpOps.nil (thenK_at (off' (Wp.skip (blockK_norm (thenK_at (Wp.text ?_))))))
        refine kp 18 (.int IntKind.i64 (↑(8 * k + q) : Int)) ?_
        refine kp 19 (.int IntKind.i64 (IntKind.wrap .i64 ((↑(8 * k + q) : Int) + 1))) ?_
        refine kp 6 (.int IntKind.i64 (IntKind.wrap .i64 ((↑(8 * k + q) : Int) + 1))) ?_
        refine WpOps.nil (thenK_at ?_)
        exact ⟨q + 1, by omega, by omega, View.slots ⟨by kernel_rfl, by kernel_rfl, by kernel_rfl, congrArg (Value.int .i64) e1, congrArg (Value.int .i64) ei, trivial⟩⟩
    · obtain rfl : q = 8 := by omega
      have d2 : decide (((8 * k + 8 : Nat) : Int) < IntKind.i64.wrap (((8 * k : Nat) : Int) + 8)) = false := by rw [ew]; exact decide_eq_false (by omega)
      have ek : IntKind.i64.wrap (((8 * k : Nat) : Int) + 8) = ((8 * (k + 1) : Nat) : Int) := by rw [ew]; omega
      have eF := pkF_nat s k
      by_cases h0 : k = 0
      · subst h0
        rw [oV_nil, oB_nil]
        refine Wp.seq (Wp.seq (Wp.text ?_))
        refine kp 14 (.int IntKind.i64 (↑8 : Int)) ?_
        refine kp 15 (.int IntKind.i64 (↑0 : Int)) ?_
        refine kp 16 (.int IntKind.i64 (IntKind.wrap .i64 ((↑0 : Int) + 8))) ?_
        refine kp 17 (.bool false) ?_
        refine WpOps.nil (thenK_at (off' (Wp.exit (thenK_exit (thenK_exit (blockK_hit (thenK_at (Wp.text ?_))))))))
        refine kp 34 (.slice none 0 0) ?_
        refine kp 35 (.int IntKind.i64 (↑(numN s 0 8) : Int)) ?_
        refine kp 36 (.int IntKind.u8 (IntKind.wrap .u8 (↑(numN s 0 8) : Int))) ?_
        refine md 37 (.slice (some ⟨0, 0, none⟩) 1 1) (Blk.mk 5 true [Value.int .u8 (IntKind.wrap .u8 (↑(numN s 0 8) : Int))]) ?_
        refine md 38 (.slice (some ⟨1, 0, none⟩) 1 1) (Blk.mk 5 true [Value.int .u8 (IntKind.wrap .u8 (↑(numN s 0 8) : Int))]) ?_
        refine kp 3 (.slice (some ⟨1, 0, none⟩) 1 1) ?_
        refine WpOps.nil (blockK_norm (thenK_at (Wp.text ?_)))
        refine kp 11 (.int IntKind.i64 (↑0 : Int)) ?_
        refine kp 12 (.int IntKind.i64 (IntKind.wrap .i64 ((↑0 : Int) + 8))) ?_
        refine kp 4 (.int IntKind.i64 (IntKind.wrap .i64 ((↑0 : Int) + 8))) ?_
        refine WpOps.nil (thenK_at ?_)
        refine ⟨0 + 1, by omega, by omega, ?_⟩
        try dsimp only
        rw [oV_own (by omega), oB_own (by omega)]
        have e3 : [Value.int .u8 (IntKind.u8.wrap (numN s (8 * 0) 8 : Int))] = byteCells (mkB (0 + 1) (pkF s)) := by
          rw [eF]
          exact mkB_snoc 0 _
        exact View.of [1] [⟨5, true, byteCells (mkB (0 + 1) (pkF s))⟩] _ (by decide) rfl ⟨⟨_, by kernel_rfl, CellsOk.eq e3 (byteCells_flat _)⟩, trivial⟩ ⟨⟨by kernel_rfl, rfl⟩, ⟨by kernel_rfl, rfl⟩, ⟨congrArg (Value.int .i64) ek, rfl⟩, trivial⟩
      · rw [oV_own h0, oB_own h0]
        have b1 : ¬ (k + 1 ≤ k) := by omega
        have b2 : 1 ≤ 1 ∧ (k + 1) * 1 ≤ 140737488355328 ∧ 1 = 1 ∧ k + 1 ≤ 9223372036854775807 := by omega
        have b3 := cells_whole (byteCells (mkB k (pkF s))) (k * 1) (by rw [byteCells_length, mkB_size]; omega)
        refine Wp.seq (Wp.seq (Wp.text ?_))
        refine kp 14 (.int IntKind.i64 (↑(8 * k + 8) : Int)) ?_
        refine kp 15 (.int IntKind.i64 (↑(8 * k) : Int)) ?_
        refine kp 16 (.int IntKind.i64 (IntKind.wrap .i64 ((↑(8 * k) : Int) + 8))) ?_
        refine kp 17 (.bool false) ?_ (hop := fun _ => by_fact d2)
        refine WpOps.nil (thenK_at (off' (Wp.exit (thenK_exit (thenK_exit (blockK_hit (thenK_at (Wp.text ?_))))))))
        refine kp 34 (.slice (some ⟨0, 0, none⟩) k k) ?_
        refine kp 35 (.int IntKind.i64 (↑(numN s (8 * k) 8) : Int)) ?_
        refine kp 36 (.int IntKind.u8 (IntKind.wrap .u8 (↑(numN s (8 * k) 8) : Int))) ?_
        refine md 37 (.slice (some ⟨1, 0, none⟩) 1 1) (Blk.mk 5 true [Value.int .u8 (IntKind.wrap .u8 (↑(numN s (8 * k) 8) : Int))]) ?_
        refine ra 38 (.slice (some ⟨2, 0, none⟩) (k + 1) (k + 1)) (0) (Blk.mk 5 true (byteCells (mkB k (pkF s)) ++ [Value.int .u8 (IntKind.wrap .u8 (↑(numN s (8 * k) 8) : Int))])) ?_ (hop := fun _ => o_append (e := 5) 0 (0) (k) _ (k) b1 b2 b3)
        refine kp 3 (.slice (some ⟨2, 0, none⟩) (k + 1) (k + 1)) ?_
        refine WpOps.nil (blockK_norm (thenK_at (Wp.text ?_)))
        refine kp 11 (.int IntKind.i64 (↑(8 * k) : Int)) ?_
        refine kp 12 (.int IntKind.i64 (IntKind.wrap .i64 ((↑(8 * k) : Int) + 8))) ?_
        refine kp 4 (.int IntKind.i64 (IntKind.wrap .i64 ((↑(8 * k) : Int) + 8))) ?_
        refine WpOps.nil (thenK_at ?_)
        refine ⟨k + 1, by omega, by omega, ?_⟩
        try dsimp only
        rw [oV_own (by omega), oB_own (by omega)]
        have e3 : byteCells (mkB k (pkF s)) ++ [Value.int .u8 (IntKind.u8.wrap (numN s (8 * k) 8 : Int))] = byteCells (mkB (k + 1) (pkF s)) := by
          rw [eF]
          exact mkB_snoc k _
        exact View.of [2] [⟨5, true, byteCells (mkB (k + 1) (pkF s))⟩] _ (by decide) rfl ⟨⟨_, by kernel_rfl, CellsOk.eq e3 (byteCells_flat _)⟩, trivial⟩ ⟨⟨by kernel_rfl, rfl⟩, ⟨by kernel_rfl, rfl⟩, ⟨congrArg (Value.int .i64) ek, rfl⟩, trivial⟩
  · have d1 : decide (((8 * k : Nat) : Int) < s.size) = false := decide_eq_false (by omega)
    have hkN : k = pkN s := by omega
    unfold pk
    rw [← hkN]
    by_cases h0 : k = 0
    · subst h0
      rw [oV_nil, oB_nil]
      refine Wp.seq (Wp.seq (Wp.text ?_))
      refine kp 7 (.int IntKind.i64 (↑0 : Int)) ?_
      refine kp 8 (.string s) ?_
      refine kp 9 (.int IntKind.i64 (↑(ByteArray.size s) : Int)) ?_
      refine kp 10 (.bool false) ?_ (hop := fun _ => by_fact d1)
      refine WpOps.nil (thenK_at (off' (Wp.exit (thenK_exit (thenK_exit (blockK_hit (thenK_at (Wp.seq (Wp.text ?_)))))))))
      refine kp 39 (.slice none 0 0) ?_
      refine kp 40 (.string ByteArray.empty) ?_
      refine kp 2 (.string ByteArray.empty) ?_
      refine WpOps.nil (thenK_at (Wp.ret ?_))
      refine endK_retn [Value.string ByteArray.empty] (Value.string ByteArray.empty) (by kernel_rfl) (by kernel_rfl) ?_
      rfl
    · rw [oV_own h0, oB_own h0]
      have b3 := cells_whole (byteCells (mkB k (pkF s))) k (by rw [byteCells_length, mkB_size])
      have b4 := cellBytes_byte (mkB k (pkF s))
      refine Wp.seq (Wp.seq (Wp.text ?_))
      refine kp 7 (.int IntKind.i64 (↑(8 * k) : Int)) ?_
      refine kp 8 (.string s) ?_
      refine kp 9 (.int IntKind.i64 (↑(ByteArray.size s) : Int)) ?_
      refine kp 10 (.bool false) ?_ (hop := fun _ => by_fact d1)
      refine WpOps.nil (thenK_at (off' (Wp.exit (thenK_exit (thenK_exit (blockK_hit (thenK_at (Wp.seq (Wp.text ?_)))))))))
      refine kp 39 (.slice (some ⟨0, 0, none⟩) k k) ?_
      refine kp 40 (.string (ByteArray.mk (List.toArray (Array.toList (ByteArray.data (mkB k (pkF s))))))) ?_ (hop := fun _ => o_bytes 5 0 (0) (k) b3 b4)
      refine kp 2 (.string (ByteArray.mk (List.toArray (Array.toList (ByteArray.data (mkB k (pkF s))))))) ?_
      refine WpOps.nil (thenK_at (Wp.ret ?_))
      refine endK_retn [Value.string (ByteArray.mk (List.toArray (Array.toList (ByteArray.data (mkB k (pkF s))))))] (Value.string (ByteArray.mk (List.toArray (Array.toList (ByteArray.data (mkB k (pkF s))))))) (by kernel_rfl) (by kernel_rfl) ?_
      rfl
end Go.Proofs.YthhlfddpacmhfaaDoor.D
