/- Bits: written, Put, Signed. -/
import Derived.Test.YthhlfddpacmhfaaDoorFwLem
import Derived.Test.YthhlfddpacmhfaaDoorD01c
namespace Go.Proofs.YthhlfddpacmhfaaDoor.D
open Go.Fw Go.RowKit

def mkB (w : Nat) (f : Nat → UInt8) : ByteArray := ⟨((List.range w).map f).toArray⟩
theorem mkB_size (w : Nat) (f : Nat → UInt8) : (mkB w f).size = w := by
  show ((List.range w).map f).toArray.size = w
  simp
theorem mkB_at (w : Nat) (f : Nat → UInt8) (i : Nat) (h : i < w) : byteAt (mkB w f) i = f i := by
  unfold byteAt mkB
  simp [h]
theorem mkB_congr {w : Nat} {f g : Nat → UInt8} (h : ∀ i, i < w → f i = g i) : mkB w f = mkB w g := by
  unfold mkB
  rw [List.map_congr_left fun i hi => h i (List.mem_range.1 hi)]
theorem ext_at {a b : ByteArray} (hs : a.size = b.size) (h : ∀ i, i < a.size → byteAt a i = byteAt b i) : a = b := by
  apply ByteArray.ext
  apply Array.ext hs
  intro i h1 h2
  have h3 := h i h1
  have e1 := byteAt_get a i h1
  have e2 := byteAt_get b i h2
  rw [h3, ← e2, Array.getElem?_toList, Array.getElem?_toList, Array.getElem?_eq_getElem h1, Array.getElem?_eq_getElem h2] at e1
  exact Option.some.inj e1
theorem mkB_cells (w : Nat) (f : Nat → UInt8) : byteCells (mkB w f) = (List.range w).map fun i => Value.int .u8 (f i).toNat := by
  unfold byteCells mkB
  simp only [List.map_map, Function.comp_def]
theorem mkB_set (w : Nat) (f : Nat → UInt8) (k : Nat) (b : UInt8) : (byteCells (mkB w f)).set k (.int .u8 b.toNat) = byteCells (mkB w fun i => if i = k then b else f i) := by
  rw [mkB_cells, mkB_cells]
  apply List.ext_getElem
  · simp
  · intro i h1 h2
    simp only [List.getElem_set, List.getElem_map, List.getElem_range]
    by_cases h : k = i
    · rw [if_pos h, if_pos h.symm]
    · rw [if_neg h, if_neg (fun h2 => h h2.symm)]
theorem zeros_mkB (w : Nat) : zeros [.int .u8 0] w = byteCells (mkB w fun _ => 0) := by
  rw [mkB_cells]
  apply List.ext_getElem
  · rw [zeros_length]; simp
  · intro i h1 h2
    have h3 : i < w := by simpa using h2
    have e := zeros_get [.int .u8 0] w i (by simpa using h3)
    rw [List.getElem?_eq_getElem h1] at e
    have e2 : i % [Value.int .u8 0].length = 0 := Nat.mod_one i
    rw [e2] at e
    rw [Option.some.inj e]
    simp
def wB (N w i : Nat) : UInt8 := if N / 2 ^ (w - 1 - i) % 2 = 1 then 49 else 48
def wrS (N w : Nat) : ByteArray := mkB w (wB N w)
theorem and1 (a : Nat) (h : a < 18446744073709551616) : IntKind.u64.wrap (((BitVec.ofInt 64 (a : Int) &&& BitVec.ofInt 64 1).toNat : Nat) : Int) = ((a % 2 : Nat) : Int) := by
  rw [BitVec.ofInt_natCast, BitVec.toNat_and, BitVec.toNat_ofNat, Nat.mod_eq_of_lt (by omega)]
  rw [show (BitVec.ofInt 64 1).toNat = 1 from rfl, Nat.and_one_is_mod]
  show ((a % 2 : Nat) : Int) % 18446744073709551616 = _
  omega
theorem u8bit (a : Nat) : IntKind.u8.wrap (48 + IntKind.u8.wrap ((a % 2 : Nat) : Int)) = ((if a % 2 = 1 then (49 : UInt8) else 48).toNat : Int) := by
  split
  · rename_i h
    rw [h]; rfl
  · rename_i h
    rw [show a % 2 = 0 by omega]; rfl
theorem fdiv_nat (a b : Nat) : ((a : Int)).fdiv (b : Int) = ((a / b : Nat) : Int) := (Int.ofNat_fdiv a b).symm
theorem two_pow_cast (c : Nat) : ((2 : Int) ^ c) = ((2 ^ c : Nat) : Int) := by rw [Int.natCast_pow]; rfl
theorem f33 : E.funcs 33 = some Tryd.f33 := by kernel_rfl
theorem written33 (N m : Nat) (h1 : m ≤ 60) (hN : N < 18446744073709551616) : Fun E 33 [.int .u64 N, .int .i64 m] (.string (wrS N m)) := by
  refine Fun.of f33 rfl (of_decide_eq_true (by kernel_rfl)) rfl ?_
  have m1 : 0 ≤ (m : Int) ∧ (m : Int) = m ∧ ((1 : Nat) : Int) * m ≤ 281474976710656 ∧ (m : Int) ≤ 9223372036854775807 := by omega
  refine Wp.seq (Wp.text ?_)
  refine kp 4 (.string (ByteArray.mk #[])) ?_
  refine WpOps.nil (thenK_at (Wp.seq (Wp.text ?_)))
  refine kp 7 (.int IntKind.i64 (↑m : Int)) ?_
  refine md 8 (.slice (some ⟨0, 0, none⟩) (Int.toNat (↑m : Int)) (Int.toNat (↑m : Int))) (Blk.mk 5 true (zeros [Value.int .u8 0] (Int.toNat (↑m : Int)))) ?_ (hop := fun _ => o_makeSlice (e := 5) m1)
  refine kp 5 (.slice (some ⟨0, 0, none⟩) (Int.toNat (↑m : Int)) (Int.toNat (↑m : Int))) ?_
  refine WpOps.nil (thenK_at (Wp.seq (Wp.seq (Wp.text ?_))))
  refine kp 9 (.slice (some ⟨0, 0, none⟩) (Int.toNat (↑m : Int)) (Int.toNat (↑m : Int))) ?_
  refine kp 10 (.int IntKind.i64 (↑(Int.toNat (↑m : Int)) : Int)) ?_
  refine kp 11 (.int IntKind.i64 0) ?_
  refine WpOps.nil (thenK_at (Wp.block ?_))
  refine Wp.loop (G := Nat) (fun k => layj [(0, .int .u64 N), (1, .int .i64 m), (5, .slice (some ⟨0, 0, none⟩) m m), (10, .int .i64 m), (11, .int .i64 k)]) (fun k => heapOf [⟨5, true, byteCells (mkB m fun i => if i < k then wB N m i else 0)⟩]) (fun k => m - k) (fun k => k ≤ m) 0
    (View.of [0] [⟨5, true, byteCells (mkB m fun i => if i < 0 then wB N m i else 0)⟩] _ (by decide) rfl ⟨⟨_, by kernel_rfl, CellsOk.eq (zeros_mkB _) (byteCells_flat _)⟩, trivial⟩ ⟨⟨by kernel_rfl, rfl⟩, ⟨by kernel_rfl, rfl⟩, ⟨by kernel_rfl, rfl⟩, ⟨by kernel_rfl, rfl⟩, ⟨by kernel_rfl, rfl⟩, trivial⟩) (Nat.zero_le _) ?_
  intro k hk
  refine Wp.seq (Wp.text ?_)
  refine kp 12 (.bool (decide ((↑k : Int) < (↑m : Int)))) ?_
  refine WpOps.nil (thenK_at (Wp.seq ?_))
  refine Wp.split (decide ((↑k : Int) < (↑m : Int))) (by kernel_rfl) (fun hd => ?_) (fun hd => ?_)
  · have hlt : (k : Int) < m := of_decide_eq_true hd
    have ec : (IntKind.i64.wrap (IntKind.i64.wrap ((m : Int) - 1) - k)) = ((m - 1 - k : Nat) : Int) := by rw [wrs ((m : Int) - 1) (by omega) (by omega), wr _ (by omega) (by omega)]; omega
    have q1 : ¬ IntKind.i64.wrap (IntKind.i64.wrap ((m : Int) - 1) - k) < 0 := by omega
    have q2 : 0 ≤ (k : Int) ∧ (k : Int) < m := by omega
    have q3 : ∀ v : Value, true = true ∧ 0 + (k : Int).toNat * 1 + [v].length ≤ (byteCells (mkB m fun i => if i < k then wB N m i else 0)).length := by
      intro v
      rw [byteCells_length, mkB_size]
      exact ⟨rfl, by simp only [List.length_singleton]; omega⟩
    have q4 := q3 (.int .u8 (IntKind.u8.wrap (48 + IntKind.u8.wrap (IntKind.u64.wrap (BitVec.ofInt 64 ((N : Int).fdiv (2 ^ min (IntKind.i64.wrap (IntKind.i64.wrap ((m : Int) - 1) - (k : Int))).toNat 64)) &&& BitVec.ofInt 64 1).toNat))))
    have e9 : (byteCells (mkB m fun i => if i < k then wB N m i else 0)).set (0 + (k : Int).toNat * 1) (.int .u8 (IntKind.u8.wrap (48 + IntKind.u8.wrap (IntKind.u64.wrap (BitVec.ofInt 64 ((N : Int).fdiv (2 ^ min (IntKind.i64.wrap (IntKind.i64.wrap ((m : Int) - 1) - (k : Int))).toNat 64)) &&& BitVec.ofInt 64 1).toNat)))) = byteCells (mkB m fun i => if i < k + 1 then wB N m i else 0) := by
      rw [ec, Int.toNat_natCast, Nat.min_eq_left (by omega), two_pow_cast, fdiv_nat, and1 _ (Nat.lt_of_le_of_lt (Nat.div_le_self _ _) hN), u8bit]
      show (byteCells _).set (0 + (k : Int).toNat * 1) (.int .u8 (wB N m k).toNat) = _
      rw [Int.toNat_natCast, Nat.zero_add, Nat.mul_one, mkB_set]
      congr 1
      apply mkB_congr
      intro i hi
      by_cases e : i = k
      · subst e
        rw [if_pos rfl, if_pos (by omega)]
      · rw [if_neg e]
        by_cases e2 : i < k
        · rw [if_pos e2, if_pos (by omega)]
        · rw [if_neg e2, if_neg (by omega)]
    refine Wp.skip (thenK_at (Wp.seq (Wp.block (Wp.seq (Wp.text ?_)))))
    refine kp 13 (.int IntKind.i64 (↑k : Int)) ?_
    refine kp 6 (.int IntKind.i64 (↑k : Int)) ?_
    refine WpOps.nil (thenK_at (Wp.text ?_))
    refine kp 14 (.slice (some ⟨0, 0, none⟩) m m) ?_
    refine kp 15 (.int IntKind.i64 (↑k : Int)) ?_
    refine kp 16 (.int IntKind.u64 (↑N : Int)) ?_
    refine kp 17 (.int IntKind.i64 (↑m : Int)) ?_
    refine kp 18 (.int IntKind.i64 (IntKind.wrap .i64 ((↑m : Int) - 1))) ?_
    refine kp 19 (.int IntKind.i64 (↑k : Int)) ?_
    refine kp 20 (.int IntKind.i64 (IntKind.wrap .i64 (IntKind.wrap .i64 ((↑m : Int) - 1) - (↑k : Int)))) ?_
    refine kp 21 (.int IntKind.u64 (Int.fdiv (↑N : Int) (2 ^ min (Int.toNat (IntKind.wrap .i64 (IntKind.wrap .i64 ((↑m : Int) - 1) - (↑k : Int)))) 64))) ?_ (hop := fun _ => o_shr q1)
    refine kp 22 (.int IntKind.u64 (IntKind.wrap .u64 (↑(BitVec.toNat (BitVec.ofInt 64 (Int.fdiv (↑N : Int) (2 ^ min (Int.toNat (IntKind.wrap .i64 (IntKind.wrap .i64 ((↑m : Int) - 1) - (↑k : Int)))) 64)) &&& BitVec.ofInt 64 1)) : Int))) ?_
    refine kp 23 (.int IntKind.u8 (IntKind.wrap .u8 (IntKind.wrap .u64 (↑(BitVec.toNat (BitVec.ofInt 64 (Int.fdiv (↑N : Int) (2 ^ min (Int.toNat (IntKind.wrap .i64 (IntKind.wrap .i64 ((↑m : Int) - 1) - (↑k : Int)))) 64)) &&& BitVec.ofInt 64 1)) : Int)))) ?_
    refine kp 24 (.int IntKind.u8 (IntKind.wrap .u8 (48 + IntKind.wrap .u8 (IntKind.wrap .u64 (↑(BitVec.toNat (BitVec.ofInt 64 (Int.fdiv (↑N : Int) (2 ^ min (Int.toNat (IntKind.wrap .i64 (IntKind.wrap .i64 ((↑m : Int) - 1) - (↑k : Int)))) 64)) &&& BitVec.ofInt 64 1)) : Int))))) ?_
    refine kp 25 (.pointer (some (Addr.mk 0 (0 + Int.toNat (↑k : Int) * 1) none))) ?_ (hop := fun _ => o_indexAddr (a := (↑k : Int)) (bl := 0) (off := 0) (size := 1) 5 (m) q2)
    refine ld (.tuple #[]) (0) (Blk.mk 5 true (List.set (byteCells (mkB m fun i => if i < k then wB N m i else 0)) (0 + Int.toNat (↑k : Int) * 1) (Value.int .u8 (IntKind.wrap .u8 (48 + IntKind.wrap .u8 (IntKind.wrap .u64 (↑(BitVec.toNat (BitVec.ofInt 64 (Int.fdiv (↑N : Int) (2 ^ min (Int.toNat (IntKind.wrap .i64 (IntKind.wrap .i64 ((↑m : Int) - 1) - (↑k : Int)))) 64)) &&& BitVec.ofInt 64 1)) : Int))))))) ?_ (hop := fun _ => o_store1 0 (0 + Int.toNat (↑k : Int) * 1) q4)
    refine WpOps.nil (blockK_norm (thenK_at (Wp.text ?_)))
    refine kp 26 (.int IntKind.i64 (IntKind.wrap .i64 ((↑k : Int) + 1))) ?_
    refine kp 11 (.int IntKind.i64 (IntKind.wrap .i64 ((↑k : Int) + 1))) ?_
    refine WpOps.nil (thenK_at ?_)
    exact ⟨k + 1, by omega, by omega, View.of [0] [⟨5, true, byteCells (mkB m fun i => if i < k + 1 then wB N m i else 0)⟩] _ (by decide) rfl ⟨⟨_, by kernel_rfl, CellsOk.eq e9 (byteCells_flat _)⟩, trivial⟩ ⟨⟨by kernel_rfl, rfl⟩, ⟨by kernel_rfl, rfl⟩, ⟨by kernel_rfl, rfl⟩, ⟨by kernel_rfl, rfl⟩, ⟨congrArg (Value.int .i64) (wr _ (by omega) (by omega)), rfl⟩, trivial⟩⟩
  · have hle : ¬ ((k : Int) < m) := of_decide_eq_false hd
    obtain rfl : k = m := by omega
    have e1 : (mkB k fun i => if i < k then wB N k i else 0) = wrS N k := mkB_congr fun i hi => if_pos hi
    have e2 := cells_whole (byteCells (mkB k fun i => if i < k then wB N k i else 0)) k (by rw [byteCells_length, mkB_size])
    have e3 := cellBytes_byte (mkB k fun i => if i < k then wB N k i else 0)
    refine Wp.exit (thenK_exit (thenK_exit (blockK_hit (thenK_at (Wp.seq (Wp.text ?_))))))
    refine kp 27 (.slice (some ⟨0, 0, none⟩) k k) ?_
    refine kp 28 (.string (ByteArray.mk (List.toArray (Array.toList (ByteArray.data (mkB k fun i => if i < k then wB N k i else 0)))))) ?_ (hop := fun _ => o_bytes 5 0 (0) (k) e2 e3)
    refine kp 4 (.string (ByteArray.mk (List.toArray (Array.toList (ByteArray.data (mkB k fun i => if i < k then wB N k i else 0)))))) ?_
    refine WpOps.nil (thenK_at (Wp.ret ?_))
    refine endK_retn [Value.string (ByteArray.mk (List.toArray (Array.toList (ByteArray.data (mkB k fun i => if i < k then wB N k i else 0)))))] (Value.string (ByteArray.mk (List.toArray (Array.toList (ByteArray.data (mkB k fun i => if i < k then wB N k i else 0)))))) (by kernel_rfl) (by kernel_rfl) ?_
    rw [e1]
    rfl
theorem f16 : E.funcs 16 = some Tryd.f16 := by kernel_rfl
theorem put16 (N m : Nat) (h1 : m ≤ 60) (hN : N < 2 ^ m) : Fun E 16 [.int .i64 N, .int .i64 m] (.tuple #[.string (wrS N m), .int .i64 0]) := by
  refine Fun.of f16 rfl (of_decide_eq_true (by kernel_rfl)) rfl ?_
  have hp := pow_le60 h1
  have c1 := written33 N m h1 (by omega)
  have d1 : decide ((N : Int) < 0) = false := decide_eq_false (by omega)
  have d2 : decide ((m : Int) < 0) = false := decide_eq_false (by omega)
  have d3 : decide ((m : Int) > 60) = false := decide_eq_false (by omega)
  have q1 : ¬ (m : Int) < 0 := by omega
  have e1 : (N : Int).fdiv (2 ^ min (m : Int).toNat 64) = 0 := by
    rw [Int.toNat_natCast, Nat.min_eq_left (by omega), two_pow_cast, fdiv_nat, Nat.div_eq_of_lt hN]
    rfl
  have d4 : ((N : Int).fdiv (2 ^ min (m : Int).toNat 64) != 0) = false := by rw [e1]; rfl
  have e2 : IntKind.u64.wrap (N : Int) = N := by
    show (N : Int) % 18446744073709551616 = _
    omega
  have c2 : Fun E 33 [.int .u64 (IntKind.u64.wrap (N : Int)), .int .i64 m] (.string (wrS N m)) := by rw [e2]; exact c1
  refine Wp.seq (Wp.text ?_)
  refine kp 4 (.string (ByteArray.mk #[])) ?_
  refine kp 5 (.int IntKind.i64 0) ?_
  refine WpOps.nil (thenK_at (Wp.seq (Wp.block (Wp.seq (Wp.text ?_)))))
  refine kp 7 (.int IntKind.i64 (↑N : Int)) ?_
  refine kp 8 (.bool (decide ((↑N : Int) < 0))) ?_
  refine kp 9 (.bool (decide ((↑N : Int) < 0))) ?_
  refine kp 10 (.int IntKind.i64 (↑m : Int)) ?_
  refine kp 11 (.bool (decide ((↑m : Int) < 0))) ?_
  refine kp 12 (.bool (decide ((↑m : Int) < 0))) ?_ (hop := fun _ => o_pickF d1)
  refine kp 13 (.bool (decide ((↑m : Int) < 0))) ?_
  refine kp 14 (.int IntKind.i64 (↑m : Int)) ?_
  refine kp 15 (.bool false) ?_ (hop := fun _ => by_fact d3)
  refine kp 16 (.bool false) ?_ (hop := fun _ => o_pickF d2)
  refine kp 6 (.bool false) ?_
  refine WpOps.nil (thenK_at (off' (Wp.seq (Wp.text ?_))))
  refine kp 18 (.int IntKind.i64 (↑N : Int)) ?_
  refine kp 19 (.int IntKind.i64 (↑m : Int)) ?_
  refine kp 20 (.int IntKind.i64 (Int.fdiv (↑N : Int) (2 ^ min (Int.toNat (↑m : Int)) 64))) ?_ (hop := fun _ => o_shr q1)
  refine kp 21 (.bool false) ?_ (hop := fun _ => by_fact d4)
  refine kp 17 (.bool false) ?_
  refine WpOps.nil (thenK_at (off' (Wp.skip (blockK_norm (thenK_at (Wp.seq (Wp.text ?_)))))))
  refine kp 22 (.int IntKind.i64 (↑N : Int)) ?_
  refine kp 23 (.int IntKind.u64 (IntKind.wrap .u64 (↑N : Int))) ?_
  refine kp 24 (.int IntKind.i64 (↑m : Int)) ?_
  refine fr 25 33 [Value.int .u64 (IntKind.wrap .u64 (↑N : Int)), Value.int .i64 (↑m : Int)] ?_
  refine WpFun.of (c2) ?_
  refine kp 4 (.string (wrS N m)) ?_
  refine kp 5 (.int IntKind.i64 0) ?_
  refine WpOps.nil (thenK_at (Wp.ret ?_))
  refine endK_retn [Value.string (wrS N m), Value.int IntKind.i64 0] (Value.tuple #[Value.string (wrS N m), Value.int IntKind.i64 0]) (by kernel_rfl) (by kernel_rfl) ?_
  rfl
theorem f17 : E.funcs 17 = some Tryd.f17 := by kernel_rfl
theorem signed17 (v : Int) (m : Nat) (h0 : 1 ≤ m) (h1 : m ≤ 60) (hv : -((2 ^ (m - 1) : Nat) : Int) ≤ v ∧ v < ((2 ^ (m - 1) : Nat) : Int)) : Fun E 17 [.int .i64 v, .int .i64 m] (.tuple #[.string (wrS (v % 18446744073709551616).toNat m), .int .i64 0]) := by
  refine Fun.of f17 rfl (of_decide_eq_true (by kernel_rfl)) rfl ?_
  have hp := pow_le60 (k := m - 1) (by omega)
  have c1 := written33 (v % 18446744073709551616).toNat m h1 (by omega)
  have d2 : decide ((m : Int) < 1) = false := decide_eq_false (by omega)
  have d3 : decide ((m : Int) > 60) = false := decide_eq_false (by omega)
  have e0 : IntKind.i64.wrap ((m : Int) - 1) = ((m - 1 : Nat) : Int) := by rw [wr _ (by omega) (by omega)]; omega
  have q1 : ¬ IntKind.i64.wrap ((m : Int) - 1) < 0 := by omega
  have e1 : IntKind.i64.wrap (1 * 2 ^ min (IntKind.i64.wrap ((m : Int) - 1)).toNat 64) = ((2 ^ (m - 1) : Nat) : Int) := by
    rw [e0, Int.toNat_natCast, Nat.min_eq_left (by omega), two_pow_cast, Int.one_mul]
    generalize 2 ^ (m - 1) = P at hp ⊢
    exact wr _ (by omega) (by omega)
  have e2 : IntKind.u64.wrap v = (((v % 18446744073709551616).toNat : Nat) : Int) := by
    show v % 18446744073709551616 = _
    omega
  have c2 : Fun E 33 [.int .u64 (IntKind.u64.wrap v), .int .i64 m] (.string (wrS (v % 18446744073709551616).toNat m)) := by rw [e2]; exact c1
  have d4 : decide (v < IntKind.i64.wrap (0 - IntKind.i64.wrap (1 * 2 ^ min (IntKind.i64.wrap ((m : Int) - 1)).toNat 64))) = false := by
    rw [e1]
    generalize 2 ^ (m - 1) = P at hp hv ⊢
    rw [wrs _ (by omega) (by omega)]
    exact decide_eq_false (by omega)
  have d5 : decide (v ≥ (IntKind.i64.wrap (1 * 2 ^ min (IntKind.i64.wrap ((m : Int) - 1)).toNat 64))) = false := by
    rw [e1]
    exact decide_eq_false (by omega)
  refine Wp.seq (Wp.text ?_)
  refine kp 4 (.string (ByteArray.mk #[])) ?_
  refine kp 5 (.int IntKind.i64 0) ?_
  refine WpOps.nil (thenK_at (Wp.seq (Wp.seq (Wp.text ?_))))
  refine kp 7 (.int IntKind.i64 (↑m : Int)) ?_
  refine kp 8 (.bool false) ?_ (hop := fun _ => by_fact d2)
  refine kp 9 (.bool false) ?_
  refine kp 10 (.int IntKind.i64 (↑m : Int)) ?_
  refine kp 11 (.bool false) ?_ (hop := fun _ => by_fact d3)
  refine kp 12 (.bool false) ?_
  refine WpOps.nil (thenK_at (off' (Wp.skip (thenK_at (Wp.seq (Wp.seq (Wp.text ?_)))))))
  refine kp 13 (.int IntKind.i64 (↑m : Int)) ?_
  refine kp 14 (.int IntKind.i64 (IntKind.wrap .i64 ((↑m : Int) - 1))) ?_
  refine kp 15 (.int IntKind.i64 (IntKind.wrap .i64 (1 * 2 ^ min (Int.toNat (IntKind.wrap .i64 ((↑m : Int) - 1))) 64))) ?_ (hop := fun _ => o_shl q1)
  refine kp 6 (.int IntKind.i64 (IntKind.wrap .i64 (1 * 2 ^ min (Int.toNat (IntKind.wrap .i64 ((↑m : Int) - 1))) 64))) ?_
  refine WpOps.nil (thenK_at (Wp.seq (Wp.text ?_)))
  refine kp 16 (.int IntKind.i64 v) ?_
  refine kp 17 (.int IntKind.i64 (IntKind.wrap .i64 (1 * 2 ^ min (Int.toNat (IntKind.wrap .i64 ((↑m : Int) - 1))) 64))) ?_
  refine kp 18 (.int IntKind.i64 (IntKind.wrap .i64 (0 - IntKind.wrap .i64 (1 * 2 ^ min (Int.toNat (IntKind.wrap .i64 ((↑m : Int) - 1))) 64)))) ?_
  refine kp 19 (.bool false) ?_ (hop := fun _ => by_fact d4)
  refine kp 20 (.bool false) ?_
  refine kp 21 (.int IntKind.i64 v) ?_
  refine kp 22 (.int IntKind.i64 (IntKind.wrap .i64 (1 * 2 ^ min (Int.toNat (IntKind.wrap .i64 ((↑m : Int) - 1))) 64))) ?_
  refine kp 23 (.bool false) ?_ (hop := fun _ => by_fact d5)
  refine kp 24 (.bool false) ?_
  refine WpOps.nil (thenK_at (off' (Wp.skip (thenK_at (Wp.seq (Wp.text ?_))))))
  refine kp 25 (.int IntKind.i64 v) ?_
  refine kp 26 (.int IntKind.u64 (IntKind.wrap .u64 v)) ?_
  refine kp 27 (.int IntKind.i64 (↑m : Int)) ?_
  refine fr 28 33 [Value.int .u64 (IntKind.wrap .u64 v), Value.int .i64 (↑m : Int)] ?_
  refine WpFun.of (c2) ?_
  refine kp 4 (.string (wrS (Int.toNat (v % 18446744073709551616)) m)) ?_
  refine kp 5 (.int IntKind.i64 0) ?_
  refine WpOps.nil (thenK_at (Wp.ret ?_))
  refine endK_retn [Value.string (wrS (Int.toNat (v % 18446744073709551616)) m), Value.int IntKind.i64 0] (Value.tuple #[Value.string (wrS (Int.toNat (v % 18446744073709551616)) m), Value.int IntKind.i64 0]) (by kernel_rfl) (by kernel_rfl) ?_
  rfl
theorem numN_wr (s : ByteArray) (N w p : Nat) : ∀ k, k ≤ w → (∀ i, i < k → byteAt s (p + i) = wB N w i) → numN s p k = N / 2 ^ (w - k) % 2 ^ k
  | 0, _, _ => by simp [numN, Nat.mod_one]
  | k + 1, h, hb => by
    rw [numN, numN_wr s N w p k (by omega) (fun i hi => hb i (by omega)), hb k (by omega)]
    have e1 : N / 2 ^ (w - k) = N / 2 ^ (w - (k + 1)) / 2 := by
      rw [Nat.div_div_eq_div_mul, ← Nat.pow_succ, show (w - (k + 1)).succ = w - k by omega]
    rw [e1, show w - (k + 1) = w - 1 - k by omega, Nat.pow_succ, Nat.mul_comm (2 ^ k) 2, Nat.mod_mul]
    unfold wB bitN
    generalize N / 2 ^ (w - 1 - k) = M
    have hm : M % 2 = 0 ∨ M % 2 = 1 := by omega
    rcases hm with e | e
    · rw [e]
      rw [if_neg (by decide : ¬ (0 : Nat) = 1), if_neg (by decide : ¬ (48 : UInt8) = 49)]
      omega
    · rw [e, if_pos rfl, if_pos rfl]
      omega
end Go.Proofs.YthhlfddpacmhfaaDoor.D
