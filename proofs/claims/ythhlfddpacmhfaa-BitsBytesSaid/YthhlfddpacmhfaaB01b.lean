/- Bits: what is written; Unpack of the program. -/
import Derived.WalkKit
import Derived.BigCall
import Derived.Test.YthhlfddpacmhfaaFwLem
import Derived.Test.YthhlfddpacmhfaaFwMore
import Derived.Test.YthhlfddpacmhfaaB01a
namespace Go.Proofs.Ythhlfddpacmhfaa.D
open Go.Fw Go.RowKit Go.Shelf

theorem cond_or' (a b : Bool) : (bif a then true else b) = (a || b) := by cases a <;> rfl
theorem cond_and' (a b : Bool) : (bif a then b else false) = (a && b) := by cases a <;> rfl
theorem toList_inj' {a b : ByteArray} (h : a.toList = b.toList) : a = b := by
  apply ByteArray.ext
  apply Array.toList_inj.1
  simpa only [ByteArray.toList_eq] using h
theorem beq_str (a b : ByteArray) : (a.toList == b.toList) = decide (a = b) := by
  rw [Bool.eq_iff_iff, beq_iff_eq, decide_eq_true_eq]
  exact ⟨toList_inj', fun h => by rw [h]⟩
theorem byteAt_extract (b : ByteArray) (p e i : Nat) (h : p + i < e) : byteAt (b.extract p e) i = byteAt b (p + i) := by
  unfold byteAt
  rw [ByteArray.data_extract, Array.toList_extract, List.getD_eq_getElem?_getD, List.getD_eq_getElem?_getD, List.extract_eq_take_drop, List.getElem?_take, if_pos (by omega), List.getElem?_drop]
theorem wrs (z : Int) (h0 : -9223372036854775808 ≤ z) (h1 : z ≤ 9223372036854775807) : IntKind.i64.wrap z = z := by
  rw [IntKind.wrap_i64]; omega
def mkB (w : Nat) (f : Nat → UInt8) : ByteArray := ⟨((List.range w).map f).toArray⟩
theorem mkB_size (w : Nat) (f : Nat → UInt8) : (mkB w f).size = w := by
  show ((List.range w).map f).toArray.size = w
  simp
theorem mkB_at (w : Nat) (f : Nat → UInt8) (i : Nat) (h : i < w) : byteAt (mkB w f) i = f i := by
  unfold byteAt mkB
  simp [h]
theorem mkB_congr {w : Nat} {f g : Nat → UInt8} (h : ∀ i, i < w → f i = g i) : mkB w f = mkB w g := by
  unfold mkB
  rw [List.map_congr_left fun i hi => h i (List.mem_range.1 hi)]
theorem ext_at {a b : ByteArray} (hs : a.size = b.size) (h : ∀ i, i < a.size → byteAt a i = byteAt b i) : a = b := by
  apply ByteArray.ext
  apply Array.ext hs
  intro i h1 h2
  have h3 := h i h1
  have e1 := byteAt_get a i h1
  have e2 := byteAt_get b i h2
  rw [h3, ← e2, Array.getElem?_toList, Array.getElem?_toList, Array.getElem?_eq_getElem h1, Array.getElem?_eq_getElem h2] at e1
  exact Option.some.inj e1
theorem mkB_cells (w : Nat) (f : Nat → UInt8) : byteCells (mkB w f) = (List.range w).map fun i => Value.int .u8 (f i).toNat := by
  unfold byteCells mkB
  simp only [List.map_map, Function.comp_def]
theorem mkB_set (w : Nat) (f : Nat → UInt8) (k : Nat) (b : UInt8) : (byteCells (mkB w f)).set k (.int .u8 b.toNat) = byteCells (mkB w fun i => if i = k then b else f i) := by
  rw [mkB_cells, mkB_cells]
  apply List.ext_getElem
  · simp
  · intro i h1 h2
    simp only [List.getElem_set, List.getElem_map, List.getElem_range]
    by_cases h : k = i
    · rw [if_pos h, if_pos h.symm]
    · rw [if_neg h, if_neg (fun h2 => h h2.symm)]
theorem zeros_mkB (w : Nat) : zeros [.int .u8 0] w = byteCells (mkB w fun _ => 0) := by
  rw [mkB_cells]
  apply List.ext_getElem
  · rw [zeros_length]; simp
  · intro i h1 h2
    have h3 : i < w := by simpa using h2
    have e := zeros_get [.int .u8 0] w i (by simpa using h3)
    rw [List.getElem?_eq_getElem h1] at e
    have e2 : i % [Value.int .u8 0].length = 0 := Nat.mod_one i
    rw [e2] at e
    rw [Option.some.inj e]
    simp
def wB (N w i : Nat) : UInt8 := if N / 2 ^ (w - 1 - i) % 2 = 1 then 49 else 48
def wrS (N w : Nat) : ByteArray := mkB w (wB N w)
theorem and1 (a : Nat) (h : a < 18446744073709551616) : IntKind.u64.wrap (((BitVec.ofInt 64 (a : Int) &&& BitVec.ofInt 64 1).toNat : Nat) : Int) = ((a % 2 : Nat) : Int) := by
  rw [BitVec.ofInt_natCast, BitVec.toNat_and, BitVec.toNat_ofNat, Nat.mod_eq_of_lt (by omega)]
  rw [show (BitVec.ofInt 64 1).toNat = 1 from rfl, Nat.and_one_is_mod]
  show ((a % 2 : Nat) : Int) % 18446744073709551616 = _
  omega
theorem u8bit (a : Nat) : IntKind.u8.wrap (48 + IntKind.u8.wrap ((a % 2 : Nat) : Int)) = ((if a % 2 = 1 then (49 : UInt8) else 48).toNat : Int) := by
  split
  · rename_i h
    rw [h]; rfl
  · rename_i h
    rw [show a % 2 = 0 by omega]; rfl
theorem fdiv_nat (a b : Nat) : ((a : Int)).fdiv (b : Int) = ((a / b : Nat) : Int) := (Int.ofNat_fdiv a b).symm
theorem two_pow_cast (c : Nat) : ((2 : Int) ^ c) = ((2 ^ c : Nat) : Int) := by rw [Int.natCast_pow]; rfl
theorem f25 : E.funcs 25 = some Try.f25 := by kernel_rfl
theorem written25 (N m : Nat) (h1 : m ≤ 60) (hN : N < 18446744073709551616) : Fun E 25 [.int .u64 N, .int .i64 m] (.string (wrS N m)) := by
  refine Fun.of f25 rfl (of_decide_eq_true (by kernel_rfl)) rfl ?_
  have m1 : 0 ≤ (m : Int) ∧ (m : Int) = m ∧ ((1 : Nat) : Int) * m ≤ 281474976710656 ∧ (m : Int) ≤ 9223372036854775807 := by omega
  refine Wp.seq (Wp.text ?_)
  refine kp 4 (.string (ByteArray.mk #[])) ?_
  refine WpOps.nil (thenK_at (Wp.seq (Wp.text ?_)))
  refine kp 7 (.int IntKind.i64 (↑m : Int)) ?_
  refine md 8 (.slice (some ⟨0, 0, none⟩) (Int.toNat (↑m : Int)) (Int.toNat (↑m : Int))) (Blk.mk 5 true (zeros [Value.int .u8 0] (Int.toNat (↑m : Int)))) ?_ (hop := fun _ => o_makeSlice (e := 5) m1)
  refine kp 5 (.slice (some ⟨0, 0, none⟩) (Int.toNat (↑m : Int)) (Int.toNat (↑m : Int))) ?_
  refine WpOps.nil (thenK_at (Wp.seq (Wp.seq (Wp.text ?_))))
  refine kp 9 (.slice (some ⟨0, 0, none⟩) (Int.toNat (↑m : Int)) (Int.toNat (↑m : Int))) ?_
  refine kp 10 (.int IntKind.i64 (↑(Int.toNat (↑m : Int)) : Int)) ?_
  refine kp 11 (.int IntKind.i64 0) ?_
  refine WpOps.nil (thenK_at (Wp.block ?_))
  refine Wp.loop (G := Nat) (fun k => layj [(0, .int .u64 N), (1, .int .i64 m), (5, .slice (some ⟨0, 0, none⟩) m m), (10, .int .i64 m), (11, .int .i64 k)]) (fun k => heapOf [⟨5, true, byteCells (mkB m fun i => if i < k then wB N m i else 0)⟩]) (fun k => m - k) (fun k => k ≤ m) 0
    (View.of [0] [⟨5, true, byteCells (mkB m fun i => if i < 0 then wB N m i else 0)⟩] _ (by decide) rfl ⟨⟨_, by kernel_rfl, CellsOk.eq (zeros_mkB _) (byteCells_flat _)⟩, trivial⟩ ⟨⟨by kernel_rfl, rfl⟩, ⟨by kernel_rfl, rfl⟩, ⟨by kernel_rfl, rfl⟩, ⟨by kernel_rfl, rfl⟩, ⟨by kernel_rfl, rfl⟩, trivial⟩) (Nat.zero_le _) ?_
  intro k hk
  refine Wp.seq (Wp.text ?_)
  refine kp 12 (.bool (decide ((↑k : Int) < (↑m : Int)))) ?_
  refine WpOps.nil (thenK_at (Wp.seq ?_))
  refine Wp.split (decide ((↑k : Int) < (↑m : Int))) (by kernel_rfl) (fun hd => ?_) (fun hd => ?_)
  · have hlt : (k : Int) < m := of_decide_eq_true hd
    have ec : (IntKind.i64.wrap (IntKind.i64.wrap ((m : Int) - 1) - k)) = ((m - 1 - k : Nat) : Int) := by rw [wrs ((m : Int) - 1) (by omega) (by omega), wr _ (by omega) (by omega)]; omega
    have q1 : ¬ IntKind.i64.wrap (IntKind.i64.wrap ((m : Int) - 1) - k) < 0 := by omega
    have q2 : 0 ≤ (k : Int) ∧ (k : Int) < m := by omega
    have q3 : ∀ v : Value, true = true ∧ 0 + (k : Int).toNat * 1 + [v].length ≤ (byteCells (mkB m fun i => if i < k then wB N m i else 0)).length := by
      intro v
      rw [byteCells_length, mkB_size]
      exact ⟨rfl, by simp only [List.length_singleton]; omega⟩
    have q4 := q3 (.int .u8 (IntKind.u8.wrap (48 + IntKind.u8.wrap (IntKind.u64.wrap (BitVec.ofInt 64 ((N : Int).fdiv (2 ^ min (IntKind.i64.wrap (IntKind.i64.wrap ((m : Int) - 1) - (k : Int))).toNat 64)) &&& BitVec.ofInt 64 1).toNat))))
    have e9 : (byteCells (mkB m fun i => if i < k then wB N m i else 0)).set (0 + (k : Int).toNat * 1) (.int .u8 (IntKind.u8.wrap (48 + IntKind.u8.wrap (IntKind.u64.wrap (BitVec.ofInt 64 ((N : Int).fdiv (2 ^ min (IntKind.i64.wrap (IntKind.i64.wrap ((m : Int) - 1) - (k : Int))).toNat 64)) &&& BitVec.ofInt 64 1).toNat)))) = byteCells (mkB m fun i => if i < k + 1 then wB N m i else 0) := by
      rw [ec, Int.toNat_natCast, Nat.min_eq_left (by omega), two_pow_cast, fdiv_nat, and1 _ (Nat.lt_of_le_of_lt (Nat.div_le_self _ _) hN), u8bit]
      show (byteCells _).set (0 + (k : Int).toNat * 1) (.int .u8 (wB N m k).toNat) = _
      rw [Int.toNat_natCast, Nat.zero_add, Nat.mul_one, mkB_set]
      congr 1
      apply mkB_congr
      intro i hi
      by_cases e : i = k
      · subst e
        rw [if_pos rfl, if_pos (by omega)]
      · rw [if_neg e]
        by_cases e2 : i < k
        · rw [if_pos e2, if_pos (by omega)]
        · rw [if_neg e2, if_neg (by omega)]
    refine Wp.skip (thenK_at (Wp.seq (Wp.block (Wp.seq (Wp.text ?_)))))
    refine kp 13 (.int IntKind.i64 (↑k : Int)) ?_
    refine kp 6 (.int IntKind.i64 (↑k : Int)) ?_
    refine WpOps.nil (thenK_at (Wp.text ?_))
    refine kp 14 (.slice (some ⟨0, 0, none⟩) m m) ?_
    refine kp 15 (.int IntKind.i64 (↑k : Int)) ?_
    refine kp 16 (.int IntKind.u64 (↑N : Int)) ?_
    refine kp 17 (.int IntKind.i64 (↑m : Int)) ?_
    refine kp 18 (.int IntKind.i64 (IntKind.wrap .i64 ((↑m : Int) - 1))) ?_
    refine kp 19 (.int IntKind.i64 (↑k : Int)) ?_
    refine kp 20 (.int IntKind.i64 (IntKind.wrap .i64 (IntKind.wrap .i64 ((↑m : Int) - 1) - (↑k : Int)))) ?_
    refine kp 21 (.int IntKind.u64 (Int.fdiv (↑N : Int) (2 ^ min (Int.toNat (IntKind.wrap .i64 (IntKind.wrap .i64 ((↑m : Int) - 1) - (↑k : Int)))) 64))) ?_ (hop := fun _ => o_shr q1)
    refine kp 22 (.int IntKind.u64 (IntKind.wrap .u64 (↑(BitVec.toNat (BitVec.ofInt 64 (Int.fdiv (↑N : Int) (2 ^ min (Int.toNat (IntKind.wrap .i64 (IntKind.wrap .i64 ((↑m : Int) - 1) - (↑k : Int)))) 64)) &&& BitVec.ofInt 64 1)) : Int))) ?_
    refine kp 23 (.int IntKind.u8 (IntKind.wrap .u8 (IntKind.wrap .u64 (↑(BitVec.toNat (BitVec.ofInt 64 (Int.fdiv (↑N : Int) (2 ^ min (Int.toNat (IntKind.wrap .i64 (IntKind.wrap .i64 ((↑m : Int) - 1) - (↑k : Int)))) 64)) &&& BitVec.ofInt 64 1)) : Int)))) ?_
    refine kp 24 (.int IntKind.u8 (IntKind.wrap .u8 (48 + IntKind.wrap .u8 (IntKind.wrap .u64 (↑(BitVec.toNat (BitVec.ofInt 64 (Int.fdiv (↑N : Int) (2 ^ min (Int.toNat (IntKind.wrap .i64 (IntKind.wrap .i64 ((↑m : Int) - 1) - (↑k : Int)))) 64)) &&& BitVec.ofInt 64 1)) : Int))))) ?_
    refine kp 25 (.pointer (some (Addr.mk 0 (0 + Int.toNat (↑k : Int) * 1) none))) ?_ (hop := fun _ => o_indexAddr (a := (↑k : Int)) (bl := 0) (off := 0) (size := 1) 5 (m) q2)
    refine ld (.tuple #[]) (0) (Blk.mk 5 true (List.set (byteCells (mkB m fun i => if i < k then wB N m i else 0)) (0 + Int.toNat (↑k : Int) * 1) (Value.int .u8 (IntKind.wrap .u8 (48 + IntKind.wrap .u8 (IntKind.wrap .u64 (↑(BitVec.toNat (BitVec.ofInt 64 (Int.fdiv (↑N : Int) (2 ^ min (Int.toNat (IntKind.wrap .i64 (IntKind.wrap .i64 ((↑m : Int) - 1) - (↑k : Int)))) 64)) &&& BitVec.ofInt 64 1)) : Int))))))) ?_ (hop := fun _ => o_store1 0 (0 + Int.toNat (↑k : Int) * 1) q4)
    refine WpOps.nil (blockK_norm (thenK_at (Wp.text ?_)))
    refine kp 26 (.int IntKind.i64 (IntKind.wrap .i64 ((↑k : Int) + 1))) ?_
    refine kp 11 (.int IntKind.i64 (IntKind.wrap .i64 ((↑k : Int) + 1))) ?_
    refine WpOps.nil (thenK_at ?_)
    exact ⟨k + 1, by omega, by omega, View.of [0] [⟨5, true, byteCells (mkB m fun i => if i < k + 1 then wB N m i else 0)⟩] _ (by decide) rfl ⟨⟨_, by kernel_rfl, CellsOk.eq e9 (byteCells_flat _)⟩, trivial⟩ ⟨⟨by kernel_rfl, rfl⟩, ⟨by kernel_rfl, rfl⟩, ⟨by kernel_rfl, rfl⟩, ⟨by kernel_rfl, rfl⟩, ⟨congrArg (Value.int .i64) (wr _ (by omega) (by omega)), rfl⟩, trivial⟩⟩
  · have hle : ¬ ((k : Int) < m) := of_decide_eq_false hd
    obtain rfl : k = m := by omega
    have e1 : (mkB k fun i => if i < k then wB N k i else 0) = wrS N k := mkB_congr fun i hi => if_pos hi
    have e2 := cells_whole (byteCells (mkB k fun i => if i < k then wB N k i else 0)) k (by rw [byteCells_length, mkB_size])
    have e3 := cellBytes_byte (mkB k fun i => if i < k then wB N k i else 0)
    refine Wp.exit (thenK_exit (thenK_exit (blockK_hit (thenK_at (Wp.seq (Wp.text ?_))))))
    refine kp 27 (.slice (some ⟨0, 0, none⟩) k k) ?_
    refine kp 28 (.string (ByteArray.mk (List.toArray (Array.toList (ByteArray.data (mkB k fun i => if i < k then wB N k i else 0)))))) ?_ (hop := fun _ => o_bytes 5 0 (0) (k) e2 e3)
    refine kp 4 (.string (ByteArray.mk (List.toArray (Array.toList (ByteArray.data (mkB k fun i => if i < k then wB N k i else 0)))))) ?_
    refine WpOps.nil (thenK_at (Wp.ret ?_))
    refine endK_retn [Value.string (ByteArray.mk (List.toArray (Array.toList (ByteArray.data (mkB k fun i => if i < k then wB N k i else 0)))))] (Value.string (ByteArray.mk (List.toArray (Array.toList (ByteArray.data (mkB k fun i => if i < k then wB N k i else 0)))))) (by kernel_rfl) (by kernel_rfl) ?_
    rw [e1]
    rfl
theorem byteAt_left (a b : ByteArray) (i : Nat) (h : i < a.size) : byteAt (a ++ b) i = byteAt a i := by
  unfold byteAt
  rw [ByteArray.data_append, Array.toList_append, List.getD_eq_getElem?_getD, List.getD_eq_getElem?_getD, List.getElem?_append_left (by rw [Array.length_toList]; exact h)]
theorem byteAt_right (a b : ByteArray) (i : Nat) : byteAt (a ++ b) (a.size + i) = byteAt b i := by
  unfold byteAt
  rw [ByteArray.data_append, Array.toList_append, List.getD_eq_getElem?_getD, List.getD_eq_getElem?_getD, List.getElem?_append_right (by rw [Array.length_toList]; exact Nat.le_add_right _ _), Array.length_toList, show a.size + i - a.data.size = i from Nat.add_sub_cancel_left ..]
theorem byteAt_out (s : ByteArray) (i : Nat) (h : s.size ≤ i) : byteAt s i = 0 := by
  unfold byteAt
  rw [List.getD_eq_getElem?_getD, List.getElem?_eq_none (by rw [Array.length_toList]; exact h)]
  rfl
theorem u8w (x : Int) : IntKind.u8.wrap x = x % 256 := rfl
def unS (s : ByteArray) : Nat → ByteArray
  | 0 => ⟨#[]⟩
  | k + 1 => unS s k ++ wrS (byteAt s k).toNat 8
theorem unS_size (s : ByteArray) : ∀ k, (unS s k).size = 8 * k
  | 0 => rfl
  | k + 1 => by
    have h : (wrS (byteAt s k).toNat 8).size = 8 := mkB_size _ _
    rw [unS, ByteArray.size_append, unS_size s k, h]
    omega
theorem unS_at (s : ByteArray) : ∀ k p, p < 8 * k → byteAt (unS s k) p = wB (byteAt s (p / 8)).toNat 8 (p % 8)
  | 0, p, h => absurd h (by omega)
  | k + 1, p, h => by
    have hz := unS_size s k
    rw [unS]
    by_cases h1 : p < 8 * k
    · rw [byteAt_left _ _ _ (by omega), unS_at s k p h1]
    · have h2 := byteAt_right (unS s k) (wrS (byteAt s k).toNat 8) (p - 8 * k)
      rw [hz, show 8 * k + (p - 8 * k) = p by omega] at h2
      rw [h2]
      unfold wrS
      rw [mkB_at _ _ _ (by omega), show p / 8 = k by omega, show p % 8 = p - 8 * k by omega]
theorem own_later {w w' : World} {B : Nat} {e : TypeId} {size n : Nat} {v : Value} {xs : List Value} (h : w.ownsRow B e size v n xs) (b : Below w.heap.size w w') : w'.ownsRow B e size v n xs := by
  refine ⟨h.1, ?_⟩
  rcases h.2 with hn | ⟨g, cap, cur, hv, hb, hg, rest⟩
  · exact .inl hn
  · exact .inr ⟨g, cap, cur, hv, hb, (b.block g (Array.getElem?_eq_some_iff.1 hg).1).trans hg, rest⟩
theorem at_later {T e : TypeId} {B k : Nat} {p : Value} {bs : List Value} {w w' : World} (h : Lib.BuilderAt T e B k p bs w) (b : Below w.heap.size w w') : Lib.BuilderAt T e B k p bs w' := by
  obtain ⟨h1, v, h2, h3, h4⟩ := h
  exact ⟨h1, v, (b.block k (Array.getElem?_eq_some_iff.1 h2).1).trans h2, own_later h3 b, h4⟩
theorem is_later {T e : TypeId} {B k : Nat} {bs : List Value} {w w' : World} (h : Lib.IsBuilder T e B k bs w) (b : Below w.heap.size w w') : Lib.IsBuilder T e B k bs w' :=
  h.elim (fun h => .inl (at_later h b)) fun h => .inr (at_later h b)
theorem below_le {B B' : Nat} {w w' : World} (b : Below B' w w') (h : B ≤ B') : Below B w w' := ⟨b.os, b.tape, b.output, b.size, fun k hk => b.block k (by omega)⟩
theorem wr' (z : Int) (h0 : 0 ≤ z) (h1 : z ≤ 9223372036854775807) : IntKind.i64.wrap z = z := wr z h0 h1
theorem written_calls (N : Nat) (hN : N < 18446744073709551616) (w : World) : Calls Try.prog 25 #[.int .u64 N, .int .i64 8] w fun e w' => e = .returned (.string (wrS N 8)) ∧ Below w.heap.size w w' :=
  ((written25 N 8 (by decide) hN).calls rfl okE (w := w) (args' := #[.int .u64 N, .int .i64 8]) (.cons (.int _ _) (.cons (.int _ _) .nil))).mono fun e W' ⟨v', μ', he, bel, hv⟩ => ⟨by rw [he, hv.inv_string], bel⟩
theorem byteAt_elem (s : ByteArray) (k : Nat) (h : k < s.size) : s[k] = byteAt s k := by
  have e := byteAt_get s k h
  rw [Array.getElem?_toList, Array.getElem?_eq_getElem h] at e
  exact Option.some.inj e
theorem written_calls' (s : ByteArray) (k : Nat) (h : k < s.size) (w : World) : Calls Try.prog 25 #[.int .u64 (IntKind.u64.wrap ((s[k]).toNat : Int)), .int .i64 8] w fun e w' => e = .returned (.string (wrS (byteAt s k).toNat 8)) ∧ Below w.heap.size w w' := by
  rw [byteAt_elem s k h]
  have hb := UInt8.toNat_lt (byteAt s k)
  have e : IntKind.u64.wrap ((byteAt s k).toNat : Int) = ((byteAt s k).toNat : Int) := by
    show ((byteAt s k).toNat : Int) % 18446744073709551616 = _
    omega
  rw [e]
  exact written_calls _ (by omega) w
set_option maxHeartbeats 400000 in
set_option maxRecDepth 1000000 in
theorem unpack_calls (s : ByteArray) (w : World) (hs : s.size ≤ 4000) :
    Calls Try.prog 18 #[.string s] w fun e w' => e = .returned (.tuple #[.string (unS s s.size), .int .i64 0]) ∧ Below w.heap.size w w' := by
  have d1 : decide ((s.size : Int) > 4000) = false := decide_eq_false (by omega)
  go_enter Try.func18, Try.ntmps18
  go_wp2
  go_loopw [11] (fun vi wr => ∃ k : Nat, vi = .int .i64 k ∧ k ≤ s.size ∧ Lib.IsBuilder 45 5 w.heap.size w.heap.size (Lib.byteCells (unS s k).data.toList) wr ∧ Below w.heap.size w wr) (fun vi wr => s.size - (match vi with | .int _ n => n.toNat | _ => 0))
  case atStart =>
    exact ⟨0, rfl, Nat.zero_le _, Lib.fresh_isBuilder 45 5 w, (Below.refl _ w).alloc (Nat.le_refl _) _⟩
  case round =>
    obtain ⟨k, rfl, hk, hI, hbw⟩ := hrel
    have hsz := hbw.size
    by_cases hkl : k < s.size
    · have d2 : decide ((k : Int) < s.size) = true := decide_eq_true (by omega)
      have n3 : s[((k : Int)).toNat]? = some (byteAt s k) := byte_get s k (by omega)
      go_wp2_with (go_at_call 25; refine (written_calls' s k hkl _).mono ?_)
      rintro e W1 ⟨rfl, b1⟩
      have hI2 := is_later hI b1
      have hl1 : (Lib.byteCells (unS s k).data.toList).length + (wrS (byteAt s k).toNat 8).size ≤ 140737488355328 := by
        have h1 : (wrS (byteAt s k).toNat 8).size = 8 := mkB_size _ _
        have h2 := unS_size s k
        rw [Lib.byteCells_length, Array.length_toList, h1]
        show (unS s k).size + 8 ≤ _
        omega
      have hs1 : w.heap.size ≤ W1.heap.size := Nat.le_trans hsz b1.size
      go_wp2_with (go_at_call 30; refine (Any.Builder_WriteString { lays166 with } extra166 w.heap.size w.heap.size _ (wrS (byteAt s k).toNat 8) _ hI2 hl1 hs1).mono ?_)
      rintro e W2 ⟨rfl, h2, b2⟩
      go_wp2
      go_roundw
      case rel =>
        refine ⟨k + 1, ?_, hkl, .inr ?_, ?_⟩
        · rfl
        · have e : Lib.byteCells (unS s (k + 1)).data.toList = Lib.byteCells (unS s k).data.toList ++ Lib.strCells (wrS (byteAt s k).toNat 8) := by
            rw [Lib.strCells_eq, ← Lib.byteCells_append, unS, ByteArray.data_append, Array.toList_append]
          rw [e]
          exact h2
        · exact hbw.trans ((below_le b1 hsz).trans b2)
      case measure =>
        show s.size - ((k : Int) + 1).toNat < s.size - ((k : Int)).toNat
        omega
    · obtain rfl : k = s.size := by omega
      have d2 : decide ((s.size : Int) < s.size) = false := decide_eq_false (by omega)
      go_wp2_with (go_at_call 31; refine (Any.Builder_String_any { lays169 with } extra169 w.heap.size w.heap.size _ _ hI hsz).mono ?_)
      rintro e W1 ⟨rfl, b1⟩
      go_wp2
      go_ret2
      exact ⟨rfl, hbw.trans b1⟩
theorem f18 : E.funcs 18 = some Try.f18 := by kernel_rfl
theorem unpack_long (s : ByteArray) (w : World) (hs : ¬ s.size ≤ 4000) :
    Calls Try.prog 18 #[.string s] w fun e w' => e = .returned (.tuple #[.string ⟨#[]⟩, .int .i64 2]) ∧ Below w.heap.size w w' := by
  have d1 : decide ((s.size : Int) > 4000) = true := decide_eq_true (by omega)
  go_enter Try.func18, Try.ntmps18
  go_wp2
  go_ret2
  exact ⟨rfl, Below.refl _ _⟩
theorem plainW {E : Env} {h : Heap} {μ : Fw.Place} {H : Mem} {v : Value} (hp : baseV v = true) : WRel E h μ H v v := by
  cases v <;> first | cases hp | skip
  · exact .c (.s (.bool _))
  · exact .c (.s (.int _ _))
  · exact .c (.s (.string _))
theorem lib2 {E : Env} {f : FuncId} {fn : Func} {c : Code} {args : List Value} {u v : Value} (hf : E.funcs f = some fn) (hb : fn.body = some c) (ha : args.all baseV = true) (hu : baseV u = true) (hv : baseV v = true) (hi : iceV E Heap.none (.tuple #[u, v]) = some (.tuple #[u, v]))
    (h : ∀ w : World, Calls E.prog f args.toArray w fun e w' => e = .returned (.tuple #[u, v]) ∧ Below w.heap.size w w') : Fun E f args (.tuple #[u, v]) := by
  intro ok
  refine ⟨⟨fn, hf, by rw [hb]; rfl⟩, hi, fun base μ w args' R hbase hargs => ?_⟩
  have e : args' = args.toArray := by
    apply Array.ext'
    rw [VRel.plains hargs ha]
  rw [e]
  refine Calls.mono (h w) fun e w' he => ?_
  obtain ⟨rfl, bl⟩ := he
  have hy : ∀ k, μ.Y k → k < w.heap.size := R.ice
  refine ⟨.tuple #[u, v], μ, rfl, Rel.none μ base fun k hk => Nat.lt_of_lt_of_le (hy k hk) bl.size, ⟨bl.mono hbase, Nat.zero_le _, fun b _ => rfl, fun b x' hb => absurd hb (Nat.not_lt_zero _), fun k cs T fr hk => ?_, fun k hk => hk, fun k hk => bl.block k (hy k hk), fun k hk => .inl hk, fun k hk => hk, fun k hk => .inl hk⟩, (?_ : VRel E _ _ _ (.tuple #[u, v]) (.tuple #[u, v]))⟩
  rotate_right
  · exact .tuple (.cons (plainW hu) (.cons (plainW hv) .nil))
  have hlt : k < w.heap.size := by
    rcases Nat.lt_or_ge k w.heap.size with h | h
    · exact h
    · rw [Array.getElem?_eq_none h] at hk
      cases hk
  exact ⟨cs, fr, by rw [bl.block k hlt]; exact hk, rfl⟩
def unpackV (s : ByteArray) : Value := if s.size ≤ 4000 then .tuple #[.string (unS s s.size), .int .i64 0] else .tuple #[.string ⟨#[]⟩, .int .i64 2]
theorem unpack18 (s : ByteArray) : Fun E 18 [.string s] (unpackV s) := by
  unfold unpackV
  split
  · rename_i h
    exact lib2 f18 rfl rfl rfl rfl rfl fun w => unpack_calls s w h
  · rename_i h
    exact lib2 f18 rfl rfl rfl rfl rfl fun w => unpack_long s w h
end Go.Proofs.Ythhlfddpacmhfaa.D
