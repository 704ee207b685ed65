/- Bits: Pack. -/
import Derived.Test.YthhlfddpacmhfaaDoorFwLem
import Derived.Test.YthhlfddpacmhfaaDoorD01i
namespace Go.Proofs.YthhlfddpacmhfaaDoor.D
open Go.Fw Go.RowKit

def paN (s : ByteArray) (i p : Nat) : Nat := numN s (8 * p) (min (i - 8 * p) 8) * 2 ^ (8 - min (i - 8 * p) 8)
def paF (s : ByteArray) (i p : Nat) : UInt8 := UInt8.ofNat (paN s i p)
theorem paN_lt (s : ByteArray) (i p : Nat) : paN s i p < 256 := by
  unfold paN
  have h : min (i - 8 * p) 8 ≤ 8 := Nat.min_le_right _ _
  generalize min (i - 8 * p) 8 = c at h
  have h1 := numN_lt s (8 * p) c
  have h2 : (numN s (8 * p) c + 1) * 2 ^ (8 - c) ≤ 2 ^ c * 2 ^ (8 - c) := Nat.mul_le_mul_right _ h1
  rw [← Nat.pow_add, show c + (8 - c) = 8 by omega, Nat.add_mul] at h2
  have h3 : 0 < 2 ^ (8 - c) := Nat.pow_pos (by decide)
  omega
theorem paF_nat (s : ByteArray) (i p : Nat) : (paF s i p).toNat = paN s i p := by
  unfold paF
  rw [UInt8.toNat_ofNat', Nat.mod_eq_of_lt (paN_lt s i p)]
theorem numN_out (s : ByteArray) (p c : Nat) (h : s.size ≤ p + c) : ∀ d, numN s p (c + d) = numN s p c * 2 ^ d
  | 0 => by simp
  | d + 1 => by
    rw [← Nat.add_assoc, numN, numN_out s p c h d, byteAt_out s _ (by omega), bitN, if_neg (by decide), Nat.pow_succ, Nat.add_zero, Nat.mul_comm 2, Nat.mul_assoc]
theorem paF_end (s : ByteArray) (p : Nat) : paF s s.size p = pkF s p := by
  unfold paF pkF paN
  by_cases h : s.size - 8 * p ≤ 8
  · rw [Nat.min_eq_left h, ← numN_out s (8 * p) (s.size - 8 * p) (by omega), show s.size - 8 * p + (8 - (s.size - 8 * p)) = 8 by omega]
  · rw [Nat.min_eq_right (by omega), Nat.sub_self, Nat.pow_zero, Nat.mul_one]
theorem paN_far (s : ByteArray) (i p : Nat) (h : ¬ p = i / 8) : paN s (i + 1) p = paN s i p := by
  unfold paN
  by_cases h1 : p < i / 8
  · rw [Nat.min_eq_right (by omega), Nat.min_eq_right (by omega)]
  · rw [show i + 1 - 8 * p = 0 by omega, show i - 8 * p = 0 by omega]
theorem or_u8 (a b : Nat) (ha : a < 256) (hb : b < 256) : IntKind.u8.wrap (((BitVec.ofInt 8 (a : Int) ||| BitVec.ofInt 8 (b : Int)).toNat : Nat) : Int) = ((a ||| b : Nat) : Int) := by
  rw [BitVec.ofInt_natCast, BitVec.ofInt_natCast, BitVec.toNat_or, BitVec.toNat_ofNat, BitVec.toNat_ofNat, Nat.mod_eq_of_lt ha, Nat.mod_eq_of_lt hb, u8w]
  have : a ||| b < 2 ^ 8 := Nat.or_lt_two_pow ha hb
  omega
theorem paN_step (s : ByteArray) (i : Nat) : paN s i (i / 8) ||| bitN (byteAt s i) * 2 ^ (7 - i % 8) = paN s (i + 1) (i / 8) := by
  unfold paN
  have hc : i % 8 < 8 := Nat.mod_lt _ (by decide)
  rw [Nat.min_eq_left (by omega), Nat.min_eq_left (by omega), show i - 8 * (i / 8) = i % 8 by omega, show i + 1 - 8 * (i / 8) = i % 8 + 1 by omega]
  rw [numN, show 8 * (i / 8) + i % 8 = i by omega]
  generalize i % 8 = c at hc
  have hb := bitN_le (byteAt s i)
  generalize bitN (byteAt s i) = b at hb
  generalize numN s (8 * (i / 8)) c = M
  have hlt : b * 2 ^ (7 - c) < 2 ^ (8 - c) := by
    rw [show 8 - c = 7 - c + 1 by omega, Nat.pow_succ]
    have h3 : 0 < 2 ^ (7 - c) := Nat.pow_pos (by decide)
    have := Nat.mul_le_mul_right (2 ^ (7 - c)) hb
    omega
  have e := Nat.two_pow_add_eq_or_of_lt hlt M
  rw [Nat.mul_comm M, ← e, show 8 - (c + 1) = 7 - c by omega, show 8 - c = 7 - c + 1 by omega, Nat.pow_succ, Nat.add_mul, Nat.mul_assoc, Nat.mul_comm (2 ^ (7 - c))]
theorem bit8 (b : UInt8) (h : b = 48 ∨ b = 49) : IntKind.u8.wrap ((b.toNat : Int) - 48) = (bitN b : Nat) := by
  rcases h with rfl | rfl <;> rfl
theorem tdiv8 (a : Nat) : ((a : Int)).tdiv 8 = ((a / 8 : Nat) : Int) := (Int.ofNat_tdiv a 8).symm
theorem tmod8 (a : Nat) : ((a : Int)).tmod 8 = ((a % 8 : Nat) : Int) := (Int.ofNat_tmod a 8).symm
theorem f20 : E.funcs 20 = some Tryd.f20 := by kernel_rfl
def packV (s : ByteArray) : Value := if VP s then .tuple #[.string (pk s), .int .i64 0] else .tuple #[.string ⟨#[]⟩, .int .i64 1]
theorem pack20 (s : ByteArray) (hs : s.size ≤ 140737488351232) : Fun E 20 [.string s] (packV s) := by
  have c1 := valid11 s hs
  unfold packV
  by_cases hv : VP s
  · rw [decide_eq_true hv] at c1
    rw [if_pos hv]
    refine Fun.of f20 rfl (of_decide_eq_true (by kernel_rfl)) rfl ?_
    have hv1 := hv.1
    have hN : pkN s = (s.size + 7) / 8 := rfl
    have eN : IntKind.i64.wrap ((IntKind.i64.wrap ((s.size : Int) + 7)).tdiv 8) = (pkN s : Int) := by
      have e1 : IntKind.i64.wrap ((s.size : Int) + 7) = ((s.size + 7 : Nat) : Int) := by rw [wr _ (by omega) (by omega)]; omega
      rw [e1, tdiv8]
      exact wr _ (by omega) (by omega)
    have eN' : (IntKind.i64.wrap ((IntKind.i64.wrap ((s.size : Int) + 7)).tdiv 8)).toNat = pkN s := by rw [eN]; rfl
    have m1 : 0 ≤ IntKind.i64.wrap ((IntKind.i64.wrap ((s.size : Int) + 7)).tdiv 8) ∧ IntKind.i64.wrap ((IntKind.i64.wrap ((s.size : Int) + 7)).tdiv 8) = IntKind.i64.wrap ((IntKind.i64.wrap ((s.size : Int) + 7)).tdiv 8) ∧ ((1 : Nat) : Int) * IntKind.i64.wrap ((IntKind.i64.wrap ((s.size : Int) + 7)).tdiv 8) ≤ 281474976710656 ∧ IntKind.i64.wrap ((IntKind.i64.wrap ((s.size : Int) + 7)).tdiv 8) ≤ 9223372036854775807 := by rw [eN]; omega
    refine Wp.seq (Wp.text ?_)
    refine kp 2 (.string (ByteArray.mk #[])) ?_
    refine kp 3 (.int IntKind.i64 0) ?_
    refine WpOps.nil (thenK_at (Wp.seq (Wp.seq (Wp.text ?_))))
    refine kp 6 (.string s) ?_
    refine fr 7 11 [Value.string s] ?_
    refine WpFun.of (c1) ?_
    refine kp 8 (.bool false) ?_
    refine WpOps.nil (thenK_at (off' (Wp.skip (thenK_at (Wp.seq (Wp.text ?_))))))
    refine kp 9 (.string s) ?_
    refine kp 10 (.int IntKind.i64 (↑(ByteArray.size s) : Int)) ?_
    refine kp 11 (.int IntKind.i64 (IntKind.wrap .i64 ((↑(ByteArray.size s) : Int) + 7))) ?_
    refine kp 12 (.int IntKind.i64 (IntKind.wrap .i64 (Int.tdiv (IntKind.wrap .i64 ((↑(ByteArray.size s) : Int) + 7)) 8))) ?_
    refine md 13 (.slice (some ⟨0, 0, none⟩) (Int.toNat (IntKind.wrap .i64 (Int.tdiv (IntKind.wrap .i64 ((↑(ByteArray.size s) : Int) + 7)) 8))) (Int.toNat (IntKind.wrap .i64 (Int.tdiv (IntKind.wrap .i64 ((↑(ByteArray.size s) : Int) + 7)) 8)))) (Blk.mk 5 true (zeros [Value.int .u8 0] (Int.toNat (IntKind.wrap .i64 (Int.tdiv (IntKind.wrap .i64 ((↑(ByteArray.size s) : Int) + 7)) 8))))) ?_ (hop := fun _ => o_makeSlice (e := 5) m1)
    refine kp 4 (.slice (some ⟨0, 0, none⟩) (Int.toNat (IntKind.wrap .i64 (Int.tdiv (IntKind.wrap .i64 ((↑(ByteArray.size s) : Int) + 7)) 8))) (Int.toNat (IntKind.wrap .i64 (Int.tdiv (IntKind.wrap .i64 ((↑(ByteArray.size s) : Int) + 7)) 8)))) ?_
    refine WpOps.nil (thenK_at (Wp.seq (Wp.seq (Wp.text ?_))))
    refine kp 14 (.string s) ?_
    refine kp 15 (.int IntKind.i64 (↑(ByteArray.size s) : Int)) ?_
    refine kp 16 (.int IntKind.i64 0) ?_
    refine WpOps.nil (thenK_at (Wp.block ?_))
    have e0 : zeros [.int .u8 0] (IntKind.i64.wrap ((IntKind.i64.wrap ((s.size : Int) + 7)).tdiv 8)).toNat = byteCells (mkB (pkN s) (paF s 0)) := by
      rw [eN', zeros_mkB]
      congr 1
      apply mkB_congr
      intro i hi
      unfold paF paN
      rw [Nat.zero_sub, Nat.min_eq_left (by omega), numN, Nat.zero_mul]
      rfl
    refine Wp.loop (G := Nat) (fun k => layj [(0, .string s), (4, .slice (some ⟨0, 0, none⟩) (pkN s) (pkN s)), (15, .int .i64 s.size), (16, .int .i64 k)]) (fun k => heapOf [⟨5, true, byteCells (mkB (pkN s) (paF s k))⟩]) (fun k => s.size - k) (fun k => k ≤ s.size) 0
      (View.of [0] [⟨5, true, byteCells (mkB (pkN s) (paF s 0))⟩] _ (by decide) rfl ⟨⟨_, by kernel_rfl, CellsOk.eq e0 (byteCells_flat _)⟩, trivial⟩ ⟨⟨by kernel_rfl, rfl⟩, ⟨congrArg (fun n => Value.slice (some ⟨0, 0, none⟩) n n) eN', rfl⟩, ⟨by kernel_rfl, rfl⟩, ⟨by kernel_rfl, rfl⟩, trivial⟩) (Nat.zero_le _) ?_
    intro k hk
    refine Wp.seq (Wp.text ?_)
    refine kp 17 (.bool (decide ((↑k : Int) < (↑(ByteArray.size s) : Int)))) ?_
    refine WpOps.nil (thenK_at (Wp.seq ?_))
    refine Wp.split (decide ((↑k : Int) < (↑(ByteArray.size s) : Int))) (by kernel_rfl) (fun hd => ?_) (fun hd => ?_)
    · have hlt : (k : Int) < s.size := of_decide_eq_true hd
      have m3 : 0 ≤ (k : Int) := by omega
      have n3 := byte_get s k (by omega)
      have e8 : IntKind.i64.wrap ((k : Int).tdiv 8) = ((k / 8 : Nat) : Int) := by rw [tdiv8]; exact wr _ (by omega) (by omega)
      have e7 : IntKind.i64.wrap (7 - (k : Int).tmod 8) = ((7 - k % 8 : Nat) : Int) := by rw [tmod8, wr _ (by omega) (by omega)]; omega
      have g1 : 0 ≤ IntKind.i64.wrap ((k : Int).tdiv 8) ∧ IntKind.i64.wrap ((k : Int).tdiv 8) < (pkN s : Nat) := by omega
      have g2 : ¬ IntKind.i64.wrap (7 - (k : Int).tmod 8) < 0 := by omega
      have v1 : (byteCells (mkB (pkN s) (paF s k)))[0 + (IntKind.i64.wrap ((k : Int).tdiv 8)).toNat * 1]? = some (.int .u8 (paF s k (k / 8)).toNat) := by
        have h := byteCells_at (mkB (pkN s) (paF s k)) (k / 8) (by rw [mkB_size]; omega)
        rw [Int.toNat_natCast, mkB_at _ _ _ (by omega)] at h
        rw [e8, Int.toNat_natCast, h]
      have q3 : ∀ v : Value, true = true ∧ 0 + (IntKind.i64.wrap ((k : Int).tdiv 8)).toNat * 1 + [v].length ≤ (byteCells (mkB (pkN s) (paF s k))).length := by
        intro v
        rw [byteCells_length, mkB_size, e8, Int.toNat_natCast]
        exact ⟨rfl, by simp only [List.length_singleton]; omega⟩
      have q4 := q3 (.int .u8 (IntKind.u8.wrap (BitVec.ofInt 8 ((paF s k (k / 8)).toNat : Int) ||| BitVec.ofInt 8 (IntKind.u8.wrap (IntKind.u8.wrap (((byteAt s k).toNat : Int) - 48) * 2 ^ min (IntKind.i64.wrap (7 - (k : Int).tmod 8)).toNat 8))).toNat))
      have hb := hv.2 k (by omega)
      have ebit : IntKind.u8.wrap ((bitN (byteAt s k) : Int) * 2 ^ min (IntKind.i64.wrap (7 - (k : Int).tmod 8)).toNat 8) = ((bitN (byteAt s k) * 2 ^ (7 - k % 8) : Nat) : Int) := by
        rw [e7, Int.toNat_natCast, Nat.min_eq_left (by omega), two_pow_cast, ← Int.natCast_mul, u8w]
        have h1 := Nat.mul_le_mul_right (2 ^ (7 - k % 8)) (bitN_le (byteAt s k))
        have h2 := Nat.pow_le_pow_right (n := 2) (by decide) (show 7 - k % 8 ≤ 7 by omega)
        omega
      have ebl : bitN (byteAt s k) * 2 ^ (7 - k % 8) < 256 := by
        have h1 := Nat.mul_le_mul_right (2 ^ (7 - k % 8)) (bitN_le (byteAt s k))
        have h2 := Nat.pow_le_pow_right (n := 2) (by decide) (show 7 - k % 8 ≤ 7 by omega)
        omega
      have e9 : (byteCells (mkB (pkN s) (paF s k))).set (0 + (IntKind.i64.wrap ((k : Int).tdiv 8)).toNat * 1) (.int .u8 (IntKind.u8.wrap (BitVec.ofInt 8 ((paF s k (k / 8)).toNat : Int) ||| BitVec.ofInt 8 (IntKind.u8.wrap (IntKind.u8.wrap (((byteAt s k).toNat : Int) - 48) * 2 ^ min (IntKind.i64.wrap (7 - (k : Int).tmod 8)).toNat 8))).toNat)) = byteCells (mkB (pkN s) (paF s (k + 1))) := by
        rw [bit8 _ hb, ebit, or_u8 _ _ (UInt8.toNat_lt _) ebl, paF_nat, paN_step, ← paF_nat, e8, Int.toNat_natCast, Nat.zero_add, Nat.mul_one, mkB_set]
        congr 1
        apply mkB_congr
        intro p hp
        by_cases e : p = k / 8
        · rw [if_pos e, e]
        · rw [if_neg e]
          unfold paF
          rw [paN_far s k p e]
      refine Wp.skip (thenK_at (Wp.seq (Wp.block (Wp.seq (Wp.text ?_)))))
      refine kp 18 (.int IntKind.i64 (↑k : Int)) ?_
      refine kp 5 (.int IntKind.i64 (↑k : Int)) ?_
      refine WpOps.nil (thenK_at ?_)
      refine Wp.region (by kernel_rfl) ?_
      refine kp 19 (.slice (some ⟨0, 0, none⟩) (pkN s) (pkN s)) ?_
      refine kp 20 (.int IntKind.i64 (↑k : Int)) ?_
      refine kp 21 (.int IntKind.i64 (IntKind.wrap .i64 (Int.tdiv (↑k : Int) 8))) ?_
      refine kp 22 (.pointer (some (Addr.mk 0 (0 + Int.toNat (IntKind.wrap .i64 (Int.tdiv (↑k : Int) 8)) * 1) none))) ?_ (hop := fun _ => o_indexAddr (a := IntKind.wrap IntKind.i64 (Int.tdiv (↑k : Int) 8)) (bl := 0) (off := 0) (size := 1) 5 (pkN s) g1)
      refine kp 23 (.int IntKind.u8 (↑(UInt8.toNat (paF s k (k / 8))) : Int)) ?_ (hop := fun _ => o_load1 0 (0 + Int.toNat (IntKind.wrap IntKind.i64 (Int.tdiv (↑k : Int) 8)) * 1) v1)
      refine kp 24 (.string s) ?_
      refine kp 25 (.int IntKind.i64 (↑k : Int)) ?_
      refine kp 26 (.int IntKind.u8 (↑(UInt8.toNat (byteAt s k)) : Int)) ?_ (hop := fun _ => o_indexStr m3 n3)
      refine kp 27 (.int IntKind.u8 (IntKind.wrap .u8 ((↑(UInt8.toNat (byteAt s k)) : Int) - 48))) ?_
      refine kp 28 (.int IntKind.i64 (↑k : Int)) ?_
      refine kp 29 (.int IntKind.i64 (Int.tmod (↑k : Int) 8)) ?_
      refine kp 30 (.int IntKind.i64 (IntKind.wrap .i64 (7 - Int.tmod (↑k : Int) 8))) ?_
      refine kp 31 (.int IntKind.u8 (IntKind.wrap .u8 (IntKind.wrap .u8 ((↑(UInt8.toNat (byteAt s k)) : Int) - 48) * 2 ^ min (Int.toNat (IntKind.wrap .i64 (7 - Int.tmod (↑k : Int) 8))) 8))) ?_ (hop := fun _ => o_shl g2)
      refine kp 32 (.int IntKind.u8 (IntKind.wrap .u8 (↑(BitVec.toNat (BitVec.ofInt 8 (↑(UInt8.toNat (paF s k (k / 8))) : Int) ||| BitVec.ofInt 8 (IntKind.wrap .u8 (IntKind.wrap .u8 ((↑(UInt8.toNat (byteAt s k)) : Int) - 48) * 2 ^ min (Int.toNat (IntKind.wrap .i64 (7 - Int.tmod (↑k : Int) 8))) 8)))) : Int))) ?_
      refine kp 33 (.pointer (some (Addr.mk 0 (0 + Int.toNat (IntKind.wrap .i64 (Int.tdiv (↑k : Int) 8)) * 1) none))) ?_ (hop := fun _ => o_indexAddr (a := IntKind.wrap IntKind.i64 (Int.tdiv (↑k : Int) 8)) (bl := 0) (off := 0) (size := 1) 5 (pkN s) g1)
      refine ld (.tuple #[]) (0) (Blk.mk 5 true (List.set (byteCells (mkB (pkN s) (paF s k))) (0 + Int.toNat (IntKind.wrap .i64 (Int.tdiv (↑k : Int) 8)) * 1) (Value.int .u8 (IntKind.wrap .u8 (↑(BitVec.toNat (BitVec.ofInt 8 (↑(UInt8.toNat (paF s k (k / 8))) : Int) ||| BitVec.ofInt 8 (IntKind.wrap .u8 (IntKind.wrap .u8 ((↑(UInt8.toNat (byteAt s k)) : Int) - 48) * 2 ^ min (Int.toNat (IntKind.wrap .i64 (7 - Int.tmod (↑k : Int) 8))) 8)))) : Int))))) ?_ (hop := fun _ => o_store1 0 (0 + Int.toNat (IntKind.wrap IntKind.i64 (Int.tdiv (↑k : Int) 8)) * 1) q4)
      refine WpOps.nil (blockK_norm (thenK_at (Wp.text ?_)))
      refine kp 34 (.int IntKind.i64 (IntKind.wrap .i64 ((↑k : Int) + 1))) ?_
      refine kp 16 (.int IntKind.i64 (IntKind.wrap .i64 ((↑k : Int) + 1))) ?_
      refine WpOps.nil (thenK_at ?_)
      exact ⟨k + 1, by omega, by omega, View.of [0] [⟨5, true, byteCells (mkB (pkN s) (paF s (k + 1)))⟩] _ (by decide) rfl ⟨⟨_, by kernel_rfl, CellsOk.eq e9 (byteCells_flat _)⟩, trivial⟩ ⟨⟨by kernel_rfl, rfl⟩, ⟨by kernel_rfl, rfl⟩, ⟨by kernel_rfl, rfl⟩, ⟨congrArg (Value.int .i64) (wr _ (by omega) (by omega)), rfl⟩, trivial⟩⟩
    · have hle : ¬ ((k : Int) < s.size) := of_decide_eq_false hd
      obtain rfl : k = s.size := by omega
      have e1 : mkB (pkN s) (paF s s.size) = pk s := mkB_congr fun p hp => paF_end s p
      rw [e1]
      have b3 := cells_whole (byteCells (pk s)) (pkN s) (by rw [byteCells_length]; exact mkB_size _ _)
      have b4 := cellBytes_byte (pk s)
      refine Wp.exit (thenK_exit (thenK_exit (blockK_hit (thenK_at (Wp.seq (Wp.text ?_))))))
      refine kp 35 (.slice (some ⟨0, 0, none⟩) (pkN s) (pkN s)) ?_
      refine kp 36 (.string (ByteArray.mk (List.toArray (Array.toList (ByteArray.data (pk s)))))) ?_ (hop := fun _ => o_bytes 5 0 (0) (pkN s) b3 b4)
      refine kp 2 (.string (ByteArray.mk (List.toArray (Array.toList (ByteArray.data (pk s)))))) ?_
      refine kp 3 (.int IntKind.i64 0) ?_
      refine WpOps.nil (thenK_at (Wp.ret ?_))
      refine endK_retn [Value.string (ByteArray.mk (List.toArray (Array.toList (ByteArray.data (pk s))))), Value.int IntKind.i64 0] (Value.tuple #[Value.string (ByteArray.mk (List.toArray (Array.toList (ByteArray.data (pk s))))), Value.int IntKind.i64 0]) (by kernel_rfl) (by kernel_rfl) ?_
      rfl
  · rw [decide_eq_false hv] at c1
    rw [if_neg hv]
    refine Fun.of f20 rfl (of_decide_eq_true (by kernel_rfl)) rfl ?_
    refine Wp.seq (Wp.text ?_)
    refine kp 2 (.string (ByteArray.mk #[])) ?_
    refine kp 3 (.int IntKind.i64 0) ?_
    refine WpOps.nil (thenK_at (Wp.seq (Wp.seq (Wp.text ?_))))
    refine kp 6 (.string s) ?_
    refine fr 7 11 [Value.string s] ?_
    refine WpFun.of (c1) ?_
    refine kp 8 (.bool true) ?_
    refine WpOps.nil (thenK_at (on' (Wp.seq (Wp.text ?_))))
    refine kp 2 (.string (ByteArray.mk #[])) ?_
    refine kp 3 (.int IntKind.i64 1) ?_
    refine WpOps.nil (thenK_at (Wp.ret (thenK_ret ?_)))
    refine endK_retn [Value.string (ByteArray.mk #[]), Value.int IntKind.i64 1] (Value.tuple #[Value.string (ByteArray.mk #[]), Value.int IntKind.i64 1]) (by kernel_rfl) (by kernel_rfl) ?_
    rfl
end Go.Proofs.YthhlfddpacmhfaaDoor.D
