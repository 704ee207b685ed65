/- Bits: cut, Get, GetSigned. -/
import Derived.Test.YthhlfddpacmhfaaDoorFwLem
import Derived.Test.YthhlfddpacmhfaaDoorD01b
namespace Go.Proofs.YthhlfddpacmhfaaDoor.D
open Go.Fw Go.RowKit

def Ins (s : ByteArray) (at' w least : Int) : Prop := VP s ∧ 0 ≤ at' ∧ at' ≤ s.size ∧ least ≤ w ∧ w ≤ 60
instance (s : ByteArray) (a w l : Int) : Decidable (Ins s a w l) := inferInstanceAs (Decidable (_ ∧ _))
def Fit (s : ByteArray) (at' w : Int) : Prop := w ≤ s.size - at'
instance (s : ByteArray) (a w : Int) : Decidable (Fit s a w) := inferInstanceAs (Decidable (_ ≤ _))
def getN (s : ByteArray) (at' w : Int) : Nat := numN s at'.toNat w.toNat
def cutN (s : ByteArray) (at' w least : Int) : Nat := if Ins s at' w least ∧ Fit s at' w then getN s at' w else 0
def cutE (s : ByteArray) (at' w least : Int) : Int := if Ins s at' w least then (if Fit s at' w then 0 else 10) else 1
def pcs (s : ByteArray) (at' w : Int) : ByteArray := s.extract at'.toNat (IntKind.i64.wrap (at' + w)).toNat
theorem byteAt_extract (b : ByteArray) (p e i : Nat) (h : p + i < e) : byteAt (b.extract p e) i = byteAt b (p + i) := by
  unfold byteAt
  rw [ByteArray.data_extract, Array.toList_extract, List.getD_eq_getElem?_getD, List.getD_eq_getElem?_getD, List.extract_eq_take_drop, List.getElem?_take, if_pos (by omega), List.getElem?_drop]
theorem pcs_size (s : ByteArray) (at' w : Int) (h0 : 0 ≤ at') (h1 : 0 ≤ w) (h2 : at' + w ≤ s.size) (h3 : at' + w ≤ 1000000) : (pcs s at' w).size = w.toNat := by
  unfold pcs
  rw [ByteArray.size_extract, wr _ (by omega) (by omega)]
  omega
theorem pcs_at (s : ByteArray) (at' w : Int) (i : Nat) (h0 : 0 ≤ at') (h1 : 0 ≤ w) (h3 : at' + w ≤ 1000000) (hi : i < w.toNat) : byteAt (pcs s at' w) i = byteAt s (at'.toNat + i) := by
  unfold pcs
  rw [wr _ (by omega) (by omega), byteAt_extract _ _ _ _ (by omega)]
theorem bit01 (b : UInt8) (h : b = 48 ∨ b = 49) : IntKind.u64.wrap (IntKind.u8.wrap ((b.toNat : Int) - 48)) = (bitN b : Nat) := by
  rcases h with rfl | rfl <;> rfl
theorem numN_pcs (s : ByteArray) (at' w : Int) (h0 : 0 ≤ at') (h1 : 0 ≤ w) (h3 : at' + w ≤ 1000000) : ∀ k, k ≤ w.toNat → numN (pcs s at' w) 0 k = numN s at'.toNat k
  | 0, _ => rfl
  | k + 1, h => by
    rw [numN, numN, numN_pcs s at' w h0 h1 h3 k (by omega), Nat.zero_add, pcs_at s at' w k h0 h1 h3 (by omega)]
theorem wrs (z : Int) (h0 : -9223372036854775808 ≤ z) (h1 : z ≤ 9223372036854775807) : IntKind.i64.wrap z = z := by
  rw [IntKind.wrap_i64]; omega
theorem or64 (a b : Nat) (ha : 2 * a + 1 < 18446744073709551616) (hb : b ≤ 1) :
    IntKind.u64.wrap (((BitVec.ofInt 64 ((2 * a : Nat) : Int) ||| BitVec.ofInt 64 (b : Int)).toNat : Nat) : Int) = ((2 * a + b : Nat) : Int) := by
  rw [BitVec.ofInt_natCast, BitVec.ofInt_natCast, BitVec.toNat_or, BitVec.toNat_ofNat, BitVec.toNat_ofNat, Nat.mod_eq_of_lt (by omega), Nat.mod_eq_of_lt (by omega)]
  have e := Nat.two_pow_add_eq_or_of_lt (i := 1) (b := b) (by omega) a
  rw [show 2 * a = 2 ^ 1 * a from rfl, ← e]
  show ((2 ^ 1 * a + b : Nat) : Int) % 18446744073709551616 = _
  rw [Int.emod_eq_of_lt (by omega) (by omega)]
theorem f29 : E.funcs 29 = some Tryd.f29 := by kernel_rfl
theorem guard5 {b19 b25 b30 b34 : Bool} {s : ByteArray} {at' w least : Int} (hb19 : b19 = bif !decide (VP s) then true else decide (at' < 0)) (hb25 : b25 = bif b19 then true else decide (at' > ↑s.size)) (hb30 : b30 = bif b25 then true else decide (w < least)) (hb34 : b34 = bif b30 then true else decide (w > 60)) : b34 = !decide (Ins s at' w least) := by
  have hI : Ins s at' w least ↔ VP s ∧ 0 ≤ at' ∧ at' ≤ s.size ∧ least ≤ w ∧ w ≤ 60 := Iff.rfl
  rw [hb34, hb30, hb25, hb19, cond_or', cond_or', cond_or', cond_or', Bool.eq_iff_iff]
  simp only [Bool.or_eq_true, decide_eq_true_eq, Bool.not_eq_true', decide_eq_false_iff_not]
  rw [hI]
  by_cases h : VP s
  · simp only [h, true_and, not_true, false_or]
    omega
  · simp only [h, false_and, not_false_iff, true_or]
theorem cut29 (s : ByteArray) (at' w least : Int) (hs : s.size ≤ 140737488351232) (hl : 0 ≤ least) :
    Fun E 29 [.string s, .int .i64 at', .int .i64 w, .int .i64 least] (.tuple #[.int .u64 (cutN s at' w least), .int .i64 (cutE s at' w least)]) := by
  refine Fun.of f29 rfl (of_decide_eq_true (by kernel_rfl)) rfl ?_
  have c1 := valid11 s hs
  refine Wp.seq (Wp.text ?_)
  refine kp 8 (.int IntKind.u64 0) ?_
  refine kp 9 (.int IntKind.i64 0) ?_
  refine WpOps.nil (thenK_at (Wp.seq (Wp.seq (Wp.text ?_))))
  refine kp 13 (.string s) ?_
  refine fr 14 11 [Value.string s] ?_
  refine WpFun.of (c1) ?_
  refine kp 15 (.bool !decide (VP s)) ?_
  refine kp 16 (.bool !decide (VP s)) ?_
  refine WpOps.fork 3 (!decide (VP s)) [17, 18, 19] 19 (true) (decide (at' < 0)) (by kernel_rfl) (fun g19 => ?_) (fun g19 => ?_) (fun f_19 b19 hb19 => ?_)
  · refine um 17 ?_ (hw := wants_tf g19)
    refine um 18 ?_ (hw := wants_tf g19)
    refine kp 19 (.bool true) ?_ (hop := fun _ => o_pickT g19)
    refine WpOps.nil ?_
    exact ⟨rfl, (.upd rfl (.upd rfl (.upd rfl .refl))), (by kernel_rfl)⟩
  · refine kp 17 (.int IntKind.i64 at') ?_ (hw := wants_ff g19)
    refine kp 18 (.bool (decide (at' < 0))) ?_ (hw := wants_ff g19)
    refine kp 19 (.bool (decide (at' < 0))) ?_ (hop := fun _ => o_pickF g19)
    refine WpOps.nil ?_
    exact ⟨rfl, (.upd rfl (.upd rfl (.upd rfl .refl))), (by kernel_rfl)⟩
  refine kp 20 (.bool b19) ?_
  refine WpOps.fork 5 (b19) [21, 22, 23, 24, 25] 25 (true) (decide (at' > (↑(ByteArray.size s) : Int))) (by kernel_rfl) (fun g25 => ?_) (fun g25 => ?_) (fun f_25 b25 hb25 => ?_)
  · refine um 21 ?_ (hw := wants_tf g25)
    refine um 22 ?_ (hw := wants_tf g25)
    refine um 23 ?_ (hw := wants_tf g25)
    refine um 24 ?_ (hw := wants_tf g25)
    refine kp 25 (.bool true) ?_ (hop := fun _ => o_pickT g25)
    refine WpOps.nil ?_
    exact ⟨rfl, (.upd rfl (.upd rfl (.upd rfl (.upd rfl (.upd rfl .refl))))), (by kernel_rfl)⟩
  · refine kp 21 (.int IntKind.i64 at') ?_ (hw := wants_ff g25)
    refine kp 22 (.string s) ?_ (hw := wants_ff g25)
    refine kp 23 (.int IntKind.i64 (↑(ByteArray.size s) : Int)) ?_ (hw := wants_ff g25)
    refine kp 24 (.bool (decide (at' > (↑(ByteArray.size s) : Int)))) ?_ (hw := wants_ff g25)
    refine kp 25 (.bool (decide (at' > (↑(ByteArray.size s) : Int)))) ?_ (hop := fun _ => o_pickF g25)
    refine WpOps.nil ?_
    exact ⟨rfl, (.upd rfl (.upd rfl (.upd rfl (.upd rfl (.upd rfl .refl))))), (by kernel_rfl)⟩
  refine kp 26 (.bool b25) ?_
  refine WpOps.fork 4 (b25) [27, 28, 29, 30] 30 (true) (decide (w < least)) (by kernel_rfl) (fun g30 => ?_) (fun g30 => ?_) (fun f_30 b30 hb30 => ?_)
  · refine um 27 ?_ (hw := wants_tf g30)
    refine um 28 ?_ (hw := wants_tf g30)
    refine um 29 ?_ (hw := wants_tf g30)
    refine kp 30 (.bool true) ?_ (hop := fun _ => o_pickT g30)
    refine WpOps.nil ?_
    exact ⟨rfl, (.upd rfl (.upd rfl (.upd rfl (.upd rfl .refl)))), (by kernel_rfl)⟩
  · refine kp 27 (.int IntKind.i64 w) ?_ (hw := wants_ff g30)
    refine kp 28 (.int IntKind.i64 least) ?_ (hw := wants_ff g30)
    refine kp 29 (.bool (decide (w < least))) ?_ (hw := wants_ff g30)
    refine kp 30 (.bool (decide (w < least))) ?_ (hop := fun _ => o_pickF g30)
    refine WpOps.nil ?_
    exact ⟨rfl, (.upd rfl (.upd rfl (.upd rfl (.upd rfl .refl)))), (by kernel_rfl)⟩
  refine kp 31 (.bool b30) ?_
  refine WpOps.fork 3 (b30) [32, 33, 34] 34 (true) (decide (w > 60)) (by kernel_rfl) (fun g34 => ?_) (fun g34 => ?_) (fun f_34 b34 hb34 => ?_)
  · refine um 32 ?_ (hw := wants_tf g34)
    refine um 33 ?_ (hw := wants_tf g34)
    refine kp 34 (.bool true) ?_ (hop := fun _ => o_pickT g34)
    refine WpOps.nil ?_
    exact ⟨rfl, (.upd rfl (.upd rfl (.upd rfl .refl))), (by kernel_rfl)⟩
  · refine kp 32 (.int IntKind.i64 w) ?_ (hw := wants_ff g34)
    refine kp 33 (.bool (decide (w > 60))) ?_ (hw := wants_ff g34)
    refine kp 34 (.bool (decide (w > 60))) ?_ (hop := fun _ => o_pickF g34)
    refine WpOps.nil ?_
    exact ⟨rfl, (.upd rfl (.upd rfl (.upd rfl .refl))), (by kernel_rfl)⟩
  refine WpOps.nil (thenK_at ?_)
  have e : b34 = !decide (Ins s at' w least) := guard5 hb19 hb25 hb30 hb34
  clear hb34
  refine Wp.split (b34) (by kernel_rfl) (fun hd => ?_) (fun hd => ?_)
  · rw [hd] at e
    have hn : ¬ Ins s at' w least := of_decide_eq_false (by rw [← Bool.not_eq_true', ← e])
    unfold cutN cutE
    rw [if_neg hn, if_neg fun h => hn h.1]
    refine Wp.seq (Wp.text ?_)
    refine kp 8 (.int IntKind.u64 0) ?_
    refine kp 9 (.int IntKind.i64 1) ?_
    refine WpOps.nil (thenK_at (Wp.ret (thenK_ret ?_)))
    refine endK_retn [Value.int IntKind.u64 0, Value.int IntKind.i64 1] (Value.tuple #[Value.int IntKind.u64 0, Value.int IntKind.i64 1]) (by kernel_rfl) (by kernel_rfl) ?_
    rfl
  · rw [hd] at e
    have hi : Ins s at' w least := of_decide_eq_true (Eq.mp (Bool.not_eq_false' _) e.symm)
    have hi' := hi
    obtain ⟨hv0, h0, h1, h2, h3⟩ := hi'
    have hv1 := hv0.1
    have ew : IntKind.i64.wrap ((s.size : Int) - at') = s.size - at' := wr _ (by omega) (by omega)
    refine Wp.skip (thenK_at (Wp.seq (Wp.seq (Wp.text ?_))))
    refine kp 35 (.int IntKind.i64 w) ?_
    refine kp 36 (.string s) ?_
    refine kp 37 (.int IntKind.i64 (↑(ByteArray.size s) : Int)) ?_
    refine kp 38 (.int IntKind.i64 at') ?_
    refine kp 39 (.int IntKind.i64 (IntKind.wrap .i64 ((↑(ByteArray.size s) : Int) - at'))) ?_
    refine kp 40 (.bool (decide (w > IntKind.wrap .i64 ((↑(ByteArray.size s) : Int) - at')))) ?_
    refine WpOps.nil (thenK_at ?_)
    refine Wp.split (decide (w > IntKind.wrap IntKind.i64 ((↑(ByteArray.size s) : Int) - at'))) (by kernel_rfl) (fun hf => ?_) (fun hf => ?_)
    · have hn : ¬ Fit s at' w := fun h => by
        unfold Fit at h
        rw [ew] at hf
        have := of_decide_eq_true hf
        omega
      unfold cutN cutE
      rw [if_pos hi, if_neg hn, if_neg fun h => hn h.2]
      refine Wp.seq (Wp.text ?_)
      refine kp 8 (.int IntKind.u64 0) ?_
      refine kp 9 (.int IntKind.i64 10) ?_
      refine WpOps.nil (thenK_at (Wp.ret (thenK_ret ?_)))
      refine endK_retn [Value.int IntKind.u64 0, Value.int IntKind.i64 10] (Value.tuple #[Value.int IntKind.u64 0, Value.int IntKind.i64 10]) (by kernel_rfl) (by kernel_rfl) ?_
      rfl
    · have hf' : Fit s at' w := by
        unfold Fit
        rw [ew] at hf
        have := of_decide_eq_false hf
        omega
      have hf2 := hf'
      unfold Fit at hf2
      have e1 : IntKind.i64.wrap (at' + w) = at' + w := wr _ (by omega) (by omega)
      unfold cutN cutE
      rw [if_pos hi, if_pos hf', if_pos ⟨hi, hf'⟩]
      have g1 : 0 ≤ IntKind.i64.wrap (at' + w) ∧ IntKind.i64.wrap (at' + w) ≤ s.size := by omega
      have g2 : 0 ≤ at' ∧ at' ≤ (IntKind.i64.wrap (at' + w)).toNat := by omega
      refine Wp.skip (thenK_at (Wp.seq (Wp.text ?_)))
      refine kp 10 (.int IntKind.u64 0) ?_
      refine WpOps.nil (thenK_at (Wp.seq (Wp.seq (Wp.text ?_))))
      refine kp 41 (.string s) ?_
      refine kp 42 (.int IntKind.i64 at') ?_
      refine kp 43 (.int IntKind.i64 at') ?_
      refine kp 44 (.int IntKind.i64 w) ?_
      refine kp 45 (.int IntKind.i64 (IntKind.wrap .i64 (at' + w))) ?_
      refine kp 46 (.string (ByteArray.extract s (Int.toNat at') (Int.toNat (IntKind.wrap .i64 (at' + w))))) ?_ (hop := fun _ => o_cutLH g1 g2)
      refine md 47 (.slice (some ⟨0, 0, none⟩) (ByteArray.size (ByteArray.extract s (Int.toNat at') (Int.toNat (IntKind.wrap .i64 (at' + w))))) (ByteArray.size (ByteArray.extract s (Int.toNat at') (Int.toNat (IntKind.wrap .i64 (at' + w)))))) (Blk.mk 5 true (byteCells (ByteArray.extract s (Int.toNat at') (Int.toNat (IntKind.wrap .i64 (at' + w)))))) ?_
      refine kp 48 (.int IntKind.i64 (↑(ByteArray.size (ByteArray.extract s (Int.toNat at') (Int.toNat (IntKind.wrap .i64 (at' + w))))) : Int)) ?_
      refine kp 49 (.int IntKind.i64 0) ?_
      refine WpOps.nil (thenK_at (Wp.block ?_))
      have hwN : (w.toNat : Int) = w := Int.toNat_of_nonneg (by omega)
      have haN : (at'.toNat : Int) = at' := Int.toNat_of_nonneg h0
      have hz : (pcs s at' w).size = w.toNat := pcs_size s at' w h0 (by omega) (by omega) (by omega)
      refine Wp.loop (G := Nat) (fun k => layj [(10, .int .u64 (numN s at'.toNat k)), (47, .slice (some ⟨0, 0, none⟩) (pcs s at' w).size (pcs s at' w).size), (48, .int .i64 (pcs s at' w).size), (49, .int .i64 k)]) (fun _ => heapOf [⟨5, true, byteCells (pcs s at' w)⟩]) (fun k => w.toNat - k) (fun k => k ≤ w.toNat) 0
        (View.of [0] [⟨5, true, byteCells (pcs s at' w)⟩] _ (by decide) rfl ⟨⟨_, by kernel_rfl, CellsOk.eq rfl (byteCells_flat _)⟩, trivial⟩ ⟨⟨by kernel_rfl, rfl⟩, ⟨by kernel_rfl, rfl⟩, ⟨by kernel_rfl, rfl⟩, ⟨by kernel_rfl, rfl⟩, trivial⟩) (Nat.zero_le _) ?_
      intro k hk
      refine Wp.seq (Wp.text ?_)
      refine kp 50 (.bool (decide ((↑k : Int) < (↑(ByteArray.size (pcs s at' w)) : Int)))) ?_
      refine WpOps.nil (thenK_at (Wp.seq ?_))
      refine Wp.split (decide ((↑k : Int) < (↑(ByteArray.size (pcs s at' w)) : Int))) (by kernel_rfl) (fun hc => ?_) (fun hc => ?_)
      · have hlt : (k : Int) < (pcs s at' w).size := of_decide_eq_true hc
        have q0 : 0 ≤ (k : Int) ∧ (k : Int) < (pcs s at' w).size := ⟨Int.natCast_nonneg _, hlt⟩
        have hv := byteCells_at (pcs s at' w) k (by omega)
        refine Wp.skip (thenK_at (Wp.seq (Wp.block (Wp.seq (Wp.text ?_)))))
        refine kp 51 (.pointer (some (Addr.mk 0 (0 + Int.toNat (↑k : Int) * 1) none))) ?_ (hop := fun _ => o_indexAddr (a := (↑k : Int)) (bl := 0) (off := 0) (size := 1) 5 (ByteArray.size (pcs s at' w)) q0)
        refine kp 52 (.int IntKind.u8 (↑(UInt8.toNat (byteAt (pcs s at' w) k)) : Int)) ?_ (hop := fun _ => o_load1 0 (0 + Int.toNat (↑k : Int) * 1) hv)
        refine kp 12 (.int IntKind.u8 (↑(UInt8.toNat (byteAt (pcs s at' w) k)) : Int)) ?_
        refine WpOps.nil (thenK_at (Wp.text ?_))
        refine kp 53 (.int IntKind.u64 (↑(numN s (Int.toNat at') k) : Int)) ?_
        refine kp 54 (.int IntKind.u64 (IntKind.wrap .u64 ((↑(numN s (Int.toNat at') k) : Int) * 2 ^ 1))) ?_
        refine kp 55 (.int IntKind.u8 (↑(UInt8.toNat (byteAt (pcs s at' w) k)) : Int)) ?_
        refine kp 56 (.int IntKind.u8 (IntKind.wrap .u8 ((↑(UInt8.toNat (byteAt (pcs s at' w) k)) : Int) - 48))) ?_
        refine kp 57 (.int IntKind.u64 (IntKind.wrap .u64 (IntKind.wrap .u8 ((↑(UInt8.toNat (byteAt (pcs s at' w) k)) : Int) - 48)))) ?_
        refine kp 58 (.int IntKind.u64 (IntKind.wrap .u64 (↑(BitVec.toNat (BitVec.ofInt 64 (IntKind.wrap .u64 ((↑(numN s (Int.toNat at') k) : Int) * 2 ^ 1)) ||| BitVec.ofInt 64 (IntKind.wrap .u64 (IntKind.wrap .u8 ((↑(UInt8.toNat (byteAt (pcs s at' w) k)) : Int) - 48))))) : Int))) ?_
        refine kp 10 (.int IntKind.u64 (IntKind.wrap .u64 (↑(BitVec.toNat (BitVec.ofInt 64 (IntKind.wrap .u64 ((↑(numN s (Int.toNat at') k) : Int) * 2 ^ 1)) ||| BitVec.ofInt 64 (IntKind.wrap .u64 (IntKind.wrap .u8 ((↑(UInt8.toNat (byteAt (pcs s at' w) k)) : Int) - 48))))) : Int))) ?_
        refine WpOps.nil (blockK_norm (thenK_at (Wp.text ?_)))
        refine kp 59 (.int IntKind.i64 (IntKind.wrap .i64 ((↑k : Int) + 1))) ?_
        refine kp 49 (.int IntKind.i64 (IntKind.wrap .i64 ((↑k : Int) + 1))) ?_
        refine WpOps.nil (thenK_at ?_)
        refine ⟨k + 1, by omega, by omega, View.of [0] [⟨5, true, byteCells (pcs s at' w)⟩] _ (by decide) rfl ⟨⟨_, by kernel_rfl, CellsOk.eq rfl (byteCells_flat _)⟩, trivial⟩ ⟨⟨congrArg (Value.int .u64) (?_ : _ = ((numN s at'.toNat (k + 1) : Nat) : Int)), rfl⟩, ⟨by kernel_rfl, rfl⟩, ⟨by kernel_rfl, rfl⟩, ⟨congrArg (Value.int .i64) (wr _ (by omega) (by omega)), rfl⟩, trivial⟩⟩
        have hb := numN_lt s at'.toNat k
        have hp := pow_le60 (k := k) (by omega)
        have hbk : byteAt s (at'.toNat + k) = 48 ∨ byteAt s (at'.toNat + k) = 49 := hv0.2 _ (by omega)
        rw [pcs_at s at' w k h0 (by omega) (by omega) (by omega), bit01 _ hbk]
        have e2 : IntKind.u64.wrap ((numN s at'.toNat k : Int) * 2 ^ 1) = ((2 * numN s at'.toNat k : Nat) : Int) := by
          show ((numN s at'.toNat k : Int) * 2 ^ 1) % 18446744073709551616 = _
          rw [Int.emod_eq_of_lt (by omega) (by omega)]
          omega
        rw [e2, or64 _ _ (by omega) (bitN_le _)]
        rfl
      · have hle : ¬ ((k : Int) < (pcs s at' w).size) := of_decide_eq_false hc
        obtain rfl : k = w.toNat := by omega
        refine Wp.exit (thenK_exit (thenK_exit (blockK_hit (thenK_at (Wp.seq (Wp.text ?_))))))
        refine kp 60 (.int IntKind.u64 (↑(numN s (Int.toNat at') (Int.toNat w)) : Int)) ?_
        refine kp 8 (.int IntKind.u64 (↑(numN s (Int.toNat at') (Int.toNat w)) : Int)) ?_
        refine kp 9 (.int IntKind.i64 0) ?_
        refine WpOps.nil (thenK_at (Wp.ret ?_))
        refine endK_retn [Value.int IntKind.u64 (↑(numN s (Int.toNat at') (Int.toNat w)) : Int), Value.int IntKind.i64 0] (Value.tuple #[Value.int IntKind.u64 (↑(numN s (Int.toNat at') (Int.toNat w)) : Int), Value.int IntKind.i64 0]) (by kernel_rfl) (by kernel_rfl) ?_
        rfl

theorem cutN_lt (s : ByteArray) (at' w least : Int) : (cutN s at' w least : Int) < 1152921504606846976 := by
  unfold cutN
  split
  · rename_i h
    have h1 := numN_lt s at'.toNat w.toNat
    have h2 := pow_le60 (k := w.toNat) (by have := h.1.2.2.2.2; omega)
    unfold getN
    omega
  · decide
theorem f7 : E.funcs 7 = some Tryd.f7 := by kernel_rfl
theorem get7 (s : ByteArray) (at' w : Int) (hs : s.size ≤ 140737488351232) :
    Fun E 7 [.string s, .int .i64 at', .int .i64 w] (.tuple #[.int .i64 (cutN s at' w 0), .int .i64 (cutE s at' w 0)]) := by
  refine Fun.of f7 rfl (of_decide_eq_true (by kernel_rfl)) rfl ?_
  have c1 := cut29 s at' w 0 hs (by omega)
  refine Wp.seq (Wp.text ?_)
  refine kp 6 (.int IntKind.i64 0) ?_
  refine kp 7 (.int IntKind.i64 0) ?_
  refine WpOps.nil (thenK_at (Wp.seq (Wp.text ?_)))
  refine kp 11 (.string s) ?_
  refine kp 12 (.int IntKind.i64 at') ?_
  refine kp 13 (.int IntKind.i64 w) ?_
  refine fr 14 29 [Value.string s, Value.int .i64 at', Value.int .i64 w, Value.int .i64 0] ?_
  refine WpFun.of (c1) ?_
  refine kp 10 (.tuple #[Value.int .u64 (↑(cutN s at' w 0) : Int), Value.int .i64 (cutE s at' w 0)]) ?_
  refine kp 15 (.int IntKind.u64 (↑(cutN s at' w 0) : Int)) ?_
  refine kp 16 (.int IntKind.i64 (cutE s at' w 0)) ?_
  refine kp 8 (.int IntKind.u64 (↑(cutN s at' w 0) : Int)) ?_
  refine kp 9 (.int IntKind.i64 (cutE s at' w 0)) ?_
  refine WpOps.nil (thenK_at (Wp.seq (Wp.text ?_)))
  refine kp 17 (.int IntKind.u64 (↑(cutN s at' w 0) : Int)) ?_
  refine kp 18 (.int IntKind.i64 (IntKind.wrap .i64 (↑(cutN s at' w 0) : Int))) ?_
  refine kp 19 (.int IntKind.i64 (cutE s at' w 0)) ?_
  refine kp 6 (.int IntKind.i64 (IntKind.wrap .i64 (↑(cutN s at' w 0) : Int))) ?_
  refine kp 7 (.int IntKind.i64 (cutE s at' w 0)) ?_
  refine WpOps.nil (thenK_at (Wp.ret ?_))
  refine endK_retn [Value.int IntKind.i64 (IntKind.wrap IntKind.i64 (↑(cutN s at' w 0) : Int)), Value.int IntKind.i64 (cutE s at' w 0)] (Value.tuple #[Value.int IntKind.i64 (IntKind.wrap IntKind.i64 (↑(cutN s at' w 0) : Int)), Value.int IntKind.i64 (cutE s at' w 0)]) (by kernel_rfl) (by kernel_rfl) ?_
  have e : IntKind.i64.wrap (cutN s at' w 0) = (cutN s at' w 0) := wr _ (by omega) (by have := cutN_lt s at' w 0; omega)
  rw [e]
  rfl
theorem f8 : E.funcs 8 = some Tryd.f8 := by kernel_rfl
theorem get8 (s : ByteArray) (at' w : Int) (hs : s.size ≤ 140737488351232) :
    Fun E 8 [.string s, .int .i64 at', .int .i64 w] (.tuple #[.int .i64 (cutN s at' w 0), .int .i64 (cutE s at' w 0)]) := by
  refine Fun.of f8 rfl (of_decide_eq_true (by kernel_rfl)) rfl ?_
  have c1 := valid12 s hs
  refine Wp.seq (Wp.text ?_)
  refine kp 6 (.int IntKind.i64 0) ?_
  refine kp 7 (.int IntKind.i64 0) ?_
  refine WpOps.nil (thenK_at (Wp.seq (Wp.seq (Wp.text ?_))))
  refine kp 8 (.string s) ?_
  refine fr 9 12 [Value.string s] ?_
  refine WpFun.of (c1) ?_
  refine kp 10 (.bool !decide (VP s)) ?_
  refine kp 11 (.bool !decide (VP s)) ?_
  refine WpOps.fork 3 (!decide (VP s)) [12, 13, 14] 14 (true) (decide (at' < 0)) (by kernel_rfl) (fun g14 => ?_) (fun g14 => ?_) (fun f_14 b14 hb14 => ?_)
  · refine um 12 ?_ (hw := wants_tf g14)
    refine um 13 ?_ (hw := wants_tf g14)
    refine kp 14 (.bool true) ?_ (hop := fun _ => o_pickT g14)
    refine WpOps.nil ?_
    exact ⟨rfl, (.upd rfl (.upd rfl (.upd rfl .refl))), (by kernel_rfl)⟩
  · refine kp 12 (.int IntKind.i64 at') ?_ (hw := wants_ff g14)
    refine kp 13 (.bool (decide (at' < 0))) ?_ (hw := wants_ff g14)
    refine kp 14 (.bool (decide (at' < 0))) ?_ (hop := fun _ => o_pickF g14)
    refine WpOps.nil ?_
    exact ⟨rfl, (.upd rfl (.upd rfl (.upd rfl .refl))), (by kernel_rfl)⟩
  refine kp 15 (.bool b14) ?_
  refine WpOps.fork 5 (b14) [16, 17, 18, 19, 20] 20 (true) (decide (at' > (↑(ByteArray.size s) : Int))) (by kernel_rfl) (fun g20 => ?_) (fun g20 => ?_) (fun f_20 b20 hb20 => ?_)
  · refine um 16 ?_ (hw := wants_tf g20)
    refine um 17 ?_ (hw := wants_tf g20)
    refine um 18 ?_ (hw := wants_tf g20)
    refine um 19 ?_ (hw := wants_tf g20)
    refine kp 20 (.bool true) ?_ (hop := fun _ => o_pickT g20)
    refine WpOps.nil ?_
    exact ⟨rfl, (.upd rfl (.upd rfl (.upd rfl (.upd rfl (.upd rfl .refl))))), (by kernel_rfl)⟩
  · refine kp 16 (.int IntKind.i64 at') ?_ (hw := wants_ff g20)
    refine kp 17 (.string s) ?_ (hw := wants_ff g20)
    refine kp 18 (.int IntKind.i64 (↑(ByteArray.size s) : Int)) ?_ (hw := wants_ff g20)
    refine kp 19 (.bool (decide (at' > (↑(ByteArray.size s) : Int)))) ?_ (hw := wants_ff g20)
    refine kp 20 (.bool (decide (at' > (↑(ByteArray.size s) : Int)))) ?_ (hop := fun _ => o_pickF g20)
    refine WpOps.nil ?_
    exact ⟨rfl, (.upd rfl (.upd rfl (.upd rfl (.upd rfl (.upd rfl .refl))))), (by kernel_rfl)⟩
  refine kp 21 (.bool b20) ?_
  refine WpOps.fork 3 (b20) [22, 23, 24] 24 (true) (decide (w < 0)) (by kernel_rfl) (fun g24 => ?_) (fun g24 => ?_) (fun f_24 b24 hb24 => ?_)
  · refine um 22 ?_ (hw := wants_tf g24)
    refine um 23 ?_ (hw := wants_tf g24)
    refine kp 24 (.bool true) ?_ (hop := fun _ => o_pickT g24)
    refine WpOps.nil ?_
    exact ⟨rfl, (.upd rfl (.upd rfl (.upd rfl .refl))), (by kernel_rfl)⟩
  · refine kp 22 (.int IntKind.i64 w) ?_ (hw := wants_ff g24)
    refine kp 23 (.bool (decide (w < 0))) ?_ (hw := wants_ff g24)
    refine kp 24 (.bool (decide (w < 0))) ?_ (hop := fun _ => o_pickF g24)
    refine WpOps.nil ?_
    exact ⟨rfl, (.upd rfl (.upd rfl (.upd rfl .refl))), (by kernel_rfl)⟩
  refine kp 25 (.bool b24) ?_
  refine WpOps.fork 3 (b24) [26, 27, 28] 28 (true) (decide (w > 60)) (by kernel_rfl) (fun g28 => ?_) (fun g28 => ?_) (fun f_28 b28 hb28 => ?_)
  · refine um 26 ?_ (hw := wants_tf g28)
    refine um 27 ?_ (hw := wants_tf g28)
    refine kp 28 (.bool true) ?_ (hop := fun _ => o_pickT g28)
    refine WpOps.nil ?_
    exact ⟨rfl, (.upd rfl (.upd rfl (.upd rfl .refl))), (by kernel_rfl)⟩
  · refine kp 26 (.int IntKind.i64 w) ?_ (hw := wants_ff g28)
    refine kp 27 (.bool (decide (w > 60))) ?_ (hw := wants_ff g28)
    refine kp 28 (.bool (decide (w > 60))) ?_ (hop := fun _ => o_pickF g28)
    refine WpOps.nil ?_
    exact ⟨rfl, (.upd rfl (.upd rfl (.upd rfl .refl))), (by kernel_rfl)⟩
  refine WpOps.nil (thenK_at ?_)
  have e : b28 = !decide (Ins s at' w 0) := guard5 hb14 hb20 hb24 hb28
  clear hb28
  refine Wp.split (b28) (by kernel_rfl) (fun hd => ?_) (fun hd => ?_)
  · rw [hd] at e
    have hn : ¬ Ins s at' w 0 := of_decide_eq_false (by rw [← Bool.not_eq_true', ← e])
    unfold cutN cutE
    rw [if_neg hn, if_neg fun h => hn h.1]
    refine Wp.seq (Wp.text ?_)
    refine kp 6 (.int IntKind.i64 0) ?_
    refine kp 7 (.int IntKind.i64 1) ?_
    refine WpOps.nil (thenK_at (Wp.ret (thenK_ret ?_)))
    refine endK_retn [Value.int IntKind.i64 0, Value.int IntKind.i64 1] (Value.tuple #[Value.int IntKind.i64 0, Value.int IntKind.i64 1]) (by kernel_rfl) (by kernel_rfl) ?_
    rfl
  · rw [hd] at e
    have hi : Ins s at' w 0 := of_decide_eq_true (Eq.mp (Bool.not_eq_false' _) e.symm)
    have hi' := hi
    obtain ⟨hv0, h0, h1, h2, h3⟩ := hi'
    have hv1 := hv0.1
    have ew : IntKind.i64.wrap ((s.size : Int) - at') = s.size - at' := wr _ (by omega) (by omega)
    refine Wp.skip (thenK_at (Wp.seq (Wp.seq (Wp.text ?_))))
    refine kp 29 (.string s) ?_
    refine kp 30 (.int IntKind.i64 (↑(ByteArray.size s) : Int)) ?_
    refine kp 31 (.int IntKind.i64 at') ?_
    refine kp 32 (.int IntKind.i64 (IntKind.wrap .i64 ((↑(ByteArray.size s) : Int) - at'))) ?_
    refine kp 33 (.int IntKind.i64 w) ?_
    refine kp 34 (.bool (decide (IntKind.wrap .i64 ((↑(ByteArray.size s) : Int) - at') < w))) ?_
    refine WpOps.nil (thenK_at ?_)
    refine Wp.split (decide (IntKind.wrap IntKind.i64 ((↑(ByteArray.size s) : Int) - at') < w)) (by kernel_rfl) (fun hf => ?_) (fun hf => ?_)
    · have hn : ¬ Fit s at' w := fun h => by
        unfold Fit at h
        rw [ew] at hf
        have := of_decide_eq_true hf
        omega
      unfold cutN cutE
      rw [if_pos hi, if_neg hn, if_neg fun h => hn h.2]
      refine Wp.seq (Wp.text ?_)
      refine kp 6 (.int IntKind.i64 0) ?_
      refine kp 7 (.int IntKind.i64 10) ?_
      refine WpOps.nil (thenK_at (Wp.ret (thenK_ret ?_)))
      refine endK_retn [Value.int IntKind.i64 0, Value.int IntKind.i64 10] (Value.tuple #[Value.int IntKind.i64 0, Value.int IntKind.i64 10]) (by kernel_rfl) (by kernel_rfl) ?_
      rfl
    · have hf' : Fit s at' w := by
        unfold Fit
        rw [ew] at hf
        have := of_decide_eq_false hf
        omega
      have hf2 := hf'
      unfold Fit at hf2
      have e1 : IntKind.i64.wrap (at' + w) = at' + w := wr _ (by omega) (by omega)
      unfold cutN cutE
      rw [if_pos hi, if_pos hf', if_pos ⟨hi, hf'⟩]
      have g1 : 0 ≤ IntKind.i64.wrap (at' + w) ∧ IntKind.i64.wrap (at' + w) ≤ s.size := by omega
      have g2 : 0 ≤ at' ∧ at' ≤ (IntKind.i64.wrap (at' + w)).toNat := by omega
      have hz : (pcs s at' w).size = w.toNat := pcs_size s at' w h0 (by omega) (by omega) (by omega)
      have c3 := number30 (pcs s at' w) (by omega)
      have e4 : numN (pcs s at' w) 0 (pcs s at' w).size = getN s at' w := by
        rw [hz]
        exact numN_pcs s at' w h0 (by omega) (by omega) _ (Nat.le_refl _)
      rw [e4] at c3
      refine Wp.skip (thenK_at (Wp.seq (Wp.text ?_)))
      refine kp 35 (.string s) ?_
      refine kp 36 (.int IntKind.i64 at') ?_
      refine kp 37 (.int IntKind.i64 at') ?_
      refine kp 38 (.int IntKind.i64 w) ?_
      refine kp 39 (.int IntKind.i64 (IntKind.wrap .i64 (at' + w))) ?_
      refine kp 40 (.string (ByteArray.extract s (Int.toNat at') (Int.toNat (IntKind.wrap .i64 (at' + w))))) ?_ (hop := fun _ => o_cutLH g1 g2)
      refine fr 41 30 [Value.string (ByteArray.extract s (Int.toNat at') (Int.toNat (IntKind.wrap .i64 (at' + w))))] ?_
      refine WpFun.of (c3) ?_
      refine kp 6 (.int IntKind.i64 (↑(getN s at' w) : Int)) ?_
      refine kp 7 (.int IntKind.i64 0) ?_
      refine WpOps.nil (thenK_at (Wp.ret ?_))
      refine endK_retn [Value.int IntKind.i64 (↑(getN s at' w) : Int), Value.int IntKind.i64 0] (Value.tuple #[Value.int IntKind.i64 (↑(getN s at' w) : Int), Value.int IntKind.i64 0]) (by kernel_rfl) (by kernel_rfl) ?_
      rfl
def pw (k : Nat) : Nat := 2 ^ k
theorem f15 : E.funcs 15 = some Tryd.f15 := by kernel_rfl
theorem power15 (n : Int) (h0 : 0 ≤ n) (h1 : n ≤ 60) : Fun E 15 [.int .i64 n] (.int .i64 (pw n.toNat)) := by
  refine Fun.of f15 rfl (of_decide_eq_true (by kernel_rfl)) rfl ?_
  have hn : (n.toNat : Int) = n := Int.toNat_of_nonneg h0
  refine Wp.seq (Wp.text ?_)
  refine kp 2 (.int IntKind.i64 0) ?_
  refine WpOps.nil (thenK_at (Wp.seq (Wp.text ?_)))
  refine kp 3 (.int IntKind.i64 1) ?_
  refine WpOps.nil (thenK_at (Wp.seq (Wp.seq (Wp.text ?_))))
  refine kp 4 (.int IntKind.i64 0) ?_
  refine WpOps.nil (thenK_at (Wp.block ?_))
  refine Wp.loop (G := Nat) (fun k => layj [(0, .int .i64 n), (3, .int .i64 (pw k)), (4, .int .i64 k)]) (fun _ => heapOf []) (fun k => n.toNat - k) (fun k => k ≤ n.toNat) 0
    (View.of [] [] _ (by decide) rfl trivial ⟨⟨by kernel_rfl, rfl⟩, ⟨by kernel_rfl, rfl⟩, ⟨by kernel_rfl, rfl⟩, trivial⟩) (Nat.zero_le _) ?_
  intro k hk
  refine Wp.seq (Wp.seq (Wp.text ?_))
  refine kp 5 (.int IntKind.i64 (↑k : Int)) ?_
  refine kp 6 (.int IntKind.i64 n) ?_
  refine kp 7 (.bool (decide ((↑k : Int) < n))) ?_
  refine WpOps.nil (thenK_at ?_)
  refine Wp.split (decide ((↑k : Int) < n)) (by kernel_rfl) (fun hd => ?_) (fun hd => ?_)
  · have hlt : (k : Int) < n := of_decide_eq_true hd
    refine Wp.skip (thenK_at (Wp.seq (Wp.block (Wp.text ?_))))
    refine kp 10 (.int IntKind.i64 (↑(pw k) : Int)) ?_
    refine kp 11 (.int IntKind.i64 (IntKind.wrap .i64 ((↑(pw k) : Int) * 2))) ?_
    refine kp 3 (.int IntKind.i64 (IntKind.wrap .i64 ((↑(pw k) : Int) * 2))) ?_
    refine WpOps.nil (blockK_norm (thenK_at (Wp.text ?_)))
    refine kp 8 (.int IntKind.i64 (↑k : Int)) ?_
    refine kp 9 (.int IntKind.i64 (IntKind.wrap .i64 ((↑k : Int) + 1))) ?_
    refine kp 4 (.int IntKind.i64 (IntKind.wrap .i64 ((↑k : Int) + 1))) ?_
    refine WpOps.nil (thenK_at ?_)
    have hp := pow_le60 (k := k) (by omega)
    have e1 : IntKind.i64.wrap ((pw k : Int) * 2) = (pw (k + 1) : Int) := by
      unfold pw
      rw [Nat.pow_succ]
      generalize 2 ^ k = P at hp ⊢
      rw [wr _ (by omega) (by omega)]
      omega
    exact ⟨k + 1, by omega, by omega, View.of [] [] _ (by decide) rfl trivial ⟨⟨by kernel_rfl, rfl⟩, ⟨congrArg (Value.int .i64) e1, rfl⟩, ⟨congrArg (Value.int .i64) (wr _ (by omega) (by omega)), rfl⟩, trivial⟩⟩
  · have hle : ¬ ((k : Int) < n) := of_decide_eq_false hd
    obtain rfl : k = n.toNat := by omega
    refine Wp.exit (thenK_exit (thenK_exit (blockK_hit (thenK_at (Wp.seq (Wp.text ?_))))))
    refine kp 12 (.int IntKind.i64 (↑(pw (Int.toNat n)) : Int)) ?_
    refine kp 2 (.int IntKind.i64 (↑(pw (Int.toNat n)) : Int)) ?_
    refine WpOps.nil (thenK_at (Wp.ret ?_))
    refine endK_retn [Value.int IntKind.i64 (↑(pw (Int.toNat n)) : Int)] (Value.int IntKind.i64 (↑(pw (Int.toNat n)) : Int)) (by kernel_rfl) (by kernel_rfl) ?_
    rfl
def getS (s : ByteArray) (at' w : Int) : Int := if byteAt s at'.toNat = 49 then (getN s at' w : Int) - pw w.toNat else getN s at' w
def cutS (s : ByteArray) (at' w : Int) : Int := if Ins s at' w 1 ∧ Fit s at' w then getS s at' w else 0
theorem f10 : E.funcs 10 = some Tryd.f10 := by kernel_rfl
theorem getSigned10 (s : ByteArray) (at' w : Int) (hs : s.size ≤ 140737488351232) :
    Fun E 10 [.string s, .int .i64 at', .int .i64 w] (.tuple #[.int .i64 (cutS s at' w), .int .i64 (cutE s at' w 1)]) := by
  refine Fun.of f10 rfl (of_decide_eq_true (by kernel_rfl)) rfl ?_
  have c1 := valid12 s hs
  refine Wp.seq (Wp.text ?_)
  refine kp 6 (.int IntKind.i64 0) ?_
  refine kp 7 (.int IntKind.i64 0) ?_
  refine WpOps.nil (thenK_at (Wp.seq (Wp.seq (Wp.text ?_))))
  refine kp 9 (.string s) ?_
  refine fr 10 12 [Value.string s] ?_
  refine WpFun.of (c1) ?_
  refine kp 11 (.bool !decide (VP s)) ?_
  refine kp 12 (.bool !decide (VP s)) ?_
  refine WpOps.fork 3 (!decide (VP s)) [13, 14, 15] 15 (true) (decide (at' < 0)) (by kernel_rfl) (fun g15 => ?_) (fun g15 => ?_) (fun f_15 b15 hb15 => ?_)
  · refine um 13 ?_ (hw := wants_tf g15)
    refine um 14 ?_ (hw := wants_tf g15)
    refine kp 15 (.bool true) ?_ (hop := fun _ => o_pickT g15)
    refine WpOps.nil ?_
    exact ⟨rfl, (.upd rfl (.upd rfl (.upd rfl .refl))), (by kernel_rfl)⟩
  · refine kp 13 (.int IntKind.i64 at') ?_ (hw := wants_ff g15)
    refine kp 14 (.bool (decide (at' < 0))) ?_ (hw := wants_ff g15)
    refine kp 15 (.bool (decide (at' < 0))) ?_ (hop := fun _ => o_pickF g15)
    refine WpOps.nil ?_
    exact ⟨rfl, (.upd rfl (.upd rfl (.upd rfl .refl))), (by kernel_rfl)⟩
  refine kp 16 (.bool b15) ?_
  refine WpOps.fork 5 (b15) [17, 18, 19, 20, 21] 21 (true) (decide (at' > (↑(ByteArray.size s) : Int))) (by kernel_rfl) (fun g21 => ?_) (fun g21 => ?_) (fun f_21 b21 hb21 => ?_)
  · refine um 17 ?_ (hw := wants_tf g21)
    refine um 18 ?_ (hw := wants_tf g21)
    refine um 19 ?_ (hw := wants_tf g21)
    refine um 20 ?_ (hw := wants_tf g21)
    refine kp 21 (.bool true) ?_ (hop := fun _ => o_pickT g21)
    refine WpOps.nil ?_
    exact ⟨rfl, (.upd rfl (.upd rfl (.upd rfl (.upd rfl (.upd rfl .refl))))), (by kernel_rfl)⟩
  · refine kp 17 (.int IntKind.i64 at') ?_ (hw := wants_ff g21)
    refine kp 18 (.string s) ?_ (hw := wants_ff g21)
    refine kp 19 (.int IntKind.i64 (↑(ByteArray.size s) : Int)) ?_ (hw := wants_ff g21)
    refine kp 20 (.bool (decide (at' > (↑(ByteArray.size s) : Int)))) ?_ (hw := wants_ff g21)
    refine kp 21 (.bool (decide (at' > (↑(ByteArray.size s) : Int)))) ?_ (hop := fun _ => o_pickF g21)
    refine WpOps.nil ?_
    exact ⟨rfl, (.upd rfl (.upd rfl (.upd rfl (.upd rfl (.upd rfl .refl))))), (by kernel_rfl)⟩
  refine kp 22 (.bool b21) ?_
  refine WpOps.fork 3 (b21) [23, 24, 25] 25 (true) (decide (w < 1)) (by kernel_rfl) (fun g25 => ?_) (fun g25 => ?_) (fun f_25 b25 hb25 => ?_)
  · refine um 23 ?_ (hw := wants_tf g25)
    refine um 24 ?_ (hw := wants_tf g25)
    refine kp 25 (.bool true) ?_ (hop := fun _ => o_pickT g25)
    refine WpOps.nil ?_
    exact ⟨rfl, (.upd rfl (.upd rfl (.upd rfl .refl))), (by kernel_rfl)⟩
  · refine kp 23 (.int IntKind.i64 w) ?_ (hw := wants_ff g25)
    refine kp 24 (.bool (decide (w < 1))) ?_ (hw := wants_ff g25)
    refine kp 25 (.bool (decide (w < 1))) ?_ (hop := fun _ => o_pickF g25)
    refine WpOps.nil ?_
    exact ⟨rfl, (.upd rfl (.upd rfl (.upd rfl .refl))), (by kernel_rfl)⟩
  refine kp 26 (.bool b25) ?_
  refine WpOps.fork 3 (b25) [27, 28, 29] 29 (true) (decide (w > 60)) (by kernel_rfl) (fun g29 => ?_) (fun g29 => ?_) (fun f_29 b29 hb29 => ?_)
  · refine um 27 ?_ (hw := wants_tf g29)
    refine um 28 ?_ (hw := wants_tf g29)
    refine kp 29 (.bool true) ?_ (hop := fun _ => o_pickT g29)
    refine WpOps.nil ?_
    exact ⟨rfl, (.upd rfl (.upd rfl (.upd rfl .refl))), (by kernel_rfl)⟩
  · refine kp 27 (.int IntKind.i64 w) ?_ (hw := wants_ff g29)
    refine kp 28 (.bool (decide (w > 60))) ?_ (hw := wants_ff g29)
    refine kp 29 (.bool (decide (w > 60))) ?_ (hop := fun _ => o_pickF g29)
    refine WpOps.nil ?_
    exact ⟨rfl, (.upd rfl (.upd rfl (.upd rfl .refl))), (by kernel_rfl)⟩
  refine WpOps.nil (thenK_at ?_)
  have e : b29 = !decide (Ins s at' w 1) := guard5 hb15 hb21 hb25 hb29
  clear hb29
  refine Wp.split (b29) (by kernel_rfl) (fun hd => ?_) (fun hd => ?_)
  · rw [hd] at e
    have hn : ¬ Ins s at' w 1 := of_decide_eq_false (by rw [← Bool.not_eq_true', ← e])
    unfold cutS cutE
    rw [if_neg hn, if_neg fun h => hn h.1]
    refine Wp.seq (Wp.text ?_)
    refine kp 6 (.int IntKind.i64 0) ?_
    refine kp 7 (.int IntKind.i64 1) ?_
    refine WpOps.nil (thenK_at (Wp.ret (thenK_ret ?_)))
    refine endK_retn [Value.int IntKind.i64 0, Value.int IntKind.i64 1] (Value.tuple #[Value.int IntKind.i64 0, Value.int IntKind.i64 1]) (by kernel_rfl) (by kernel_rfl) ?_
    rfl
  · rw [hd] at e
    have hi : Ins s at' w 1 := of_decide_eq_true (Eq.mp (Bool.not_eq_false' _) e.symm)
    have hi' := hi
    obtain ⟨hv0, h0, h1, h2, h3⟩ := hi'
    have hv1 := hv0.1
    have ew : IntKind.i64.wrap ((s.size : Int) - at') = s.size - at' := wr _ (by omega) (by omega)
    refine Wp.skip (thenK_at (Wp.seq (Wp.seq (Wp.text ?_))))
    refine kp 30 (.string s) ?_
    refine kp 31 (.int IntKind.i64 (↑(ByteArray.size s) : Int)) ?_
    refine kp 32 (.int IntKind.i64 at') ?_
    refine kp 33 (.int IntKind.i64 (IntKind.wrap .i64 ((↑(ByteArray.size s) : Int) - at'))) ?_
    refine kp 34 (.int IntKind.i64 w) ?_
    refine kp 35 (.bool (decide (IntKind.wrap .i64 ((↑(ByteArray.size s) : Int) - at') < w))) ?_
    refine WpOps.nil (thenK_at ?_)
    refine Wp.split (decide (IntKind.wrap IntKind.i64 ((↑(ByteArray.size s) : Int) - at') < w)) (by kernel_rfl) (fun hf => ?_) (fun hf => ?_)
    · have hn : ¬ Fit s at' w := fun h => by
        unfold Fit at h
        rw [ew] at hf
        have := of_decide_eq_true hf
        omega
      unfold cutS cutE
      rw [if_pos hi, if_neg hn, if_neg fun h => hn h.2]
      refine Wp.seq (Wp.text ?_)
      refine kp 6 (.int IntKind.i64 0) ?_
      refine kp 7 (.int IntKind.i64 10) ?_
      refine WpOps.nil (thenK_at (Wp.ret (thenK_ret ?_)))
      refine endK_retn [Value.int IntKind.i64 0, Value.int IntKind.i64 10] (Value.tuple #[Value.int IntKind.i64 0, Value.int IntKind.i64 10]) (by kernel_rfl) (by kernel_rfl) ?_
      rfl
    · have hf' : Fit s at' w := by
        unfold Fit
        rw [ew] at hf
        have := of_decide_eq_false hf
        omega
      have hf2 := hf'
      unfold Fit at hf2
      have e1 : IntKind.i64.wrap (at' + w) = at' + w := wr _ (by omega) (by omega)
      unfold cutS cutE
      rw [if_pos hi, if_pos hf', if_pos ⟨hi, hf'⟩]
      have g1 : 0 ≤ IntKind.i64.wrap (at' + w) ∧ IntKind.i64.wrap (at' + w) ≤ s.size := by omega
      have g2 : 0 ≤ at' ∧ at' ≤ (IntKind.i64.wrap (at' + w)).toNat := by omega
      have hz : (pcs s at' w).size = w.toNat := pcs_size s at' w h0 (by omega) (by omega) (by omega)
      have c3 := number30 (pcs s at' w) (by omega)
      have e4 : numN (pcs s at' w) 0 (pcs s at' w).size = getN s at' w := by
        rw [hz]
        exact numN_pcs s at' w h0 (by omega) (by omega) _ (Nat.le_refl _)
      rw [e4] at c3
      have m3 : 0 ≤ at' := h0
      have n3 := byte_get s at'.toNat (by omega)
      have e49 := byte49 (byteAt s at'.toNat)
      unfold getS
      have c5 := power15 w (by omega) (by omega)
      have hb := numN_lt s at'.toNat w.toNat
      have hp := pow_le60 (k := w.toNat) (by omega)
      by_cases h1' : byteAt s at'.toNat = 49
      · rw [decide_eq_true h1'] at e49
        rw [if_pos h1']
        refine Wp.skip (thenK_at (Wp.seq (Wp.text ?_)))
        refine kp 36 (.string s) ?_
        refine kp 37 (.int IntKind.i64 at') ?_
        refine kp 38 (.int IntKind.i64 at') ?_
        refine kp 39 (.int IntKind.i64 w) ?_
        refine kp 40 (.int IntKind.i64 (IntKind.wrap .i64 (at' + w))) ?_
        refine kp 41 (.string (ByteArray.extract s (Int.toNat at') (Int.toNat (IntKind.wrap .i64 (at' + w))))) ?_ (hop := fun _ => o_cutLH g1 g2)
        refine fr 42 30 [Value.string (ByteArray.extract s (Int.toNat at') (Int.toNat (IntKind.wrap .i64 (at' + w))))] ?_
        refine WpFun.of (c3) ?_
        refine kp 8 (.int IntKind.i64 (↑(getN s at' w) : Int)) ?_
        refine WpOps.nil (thenK_at (Wp.seq (Wp.seq (Wp.text ?_))))
        refine kp 43 (.string s) ?_
        refine kp 44 (.int IntKind.i64 at') ?_
        refine kp 45 (.int IntKind.u8 (↑(UInt8.toNat (byteAt s (Int.toNat at'))) : Int)) ?_ (hop := fun _ => o_indexStr h0 n3)
        refine kp 46 (.bool true) ?_ (hop := fun _ => by_fact e49)
        refine WpOps.nil (thenK_at (on' (Wp.text ?_)))
        refine kp 47 (.int IntKind.i64 (↑(getN s at' w) : Int)) ?_
        refine kp 48 (.int IntKind.i64 w) ?_
        refine fr 49 15 [Value.int .i64 w] ?_
        refine WpFun.of (c5) ?_
        refine kp 50 (.int IntKind.i64 (IntKind.wrap .i64 ((↑(getN s at' w) : Int) - (↑(pw (Int.toNat w)) : Int)))) ?_
        refine kp 8 (.int IntKind.i64 (IntKind.wrap .i64 ((↑(getN s at' w) : Int) - (↑(pw (Int.toNat w)) : Int)))) ?_
        refine WpOps.nil (thenK_at (Wp.seq (Wp.text ?_)))
        refine kp 51 (.int IntKind.i64 (IntKind.wrap .i64 ((↑(getN s at' w) : Int) - (↑(pw (Int.toNat w)) : Int)))) ?_
        refine kp 6 (.int IntKind.i64 (IntKind.wrap .i64 ((↑(getN s at' w) : Int) - (↑(pw (Int.toNat w)) : Int)))) ?_
        refine kp 7 (.int IntKind.i64 0) ?_
        refine WpOps.nil (thenK_at (Wp.ret ?_))
        refine endK_retn [Value.int IntKind.i64 (IntKind.wrap IntKind.i64 ((↑(getN s at' w) : Int) - (↑(pw (Int.toNat w)) : Int))), Value.int IntKind.i64 0] (Value.tuple #[Value.int IntKind.i64 (IntKind.wrap IntKind.i64 ((↑(getN s at' w) : Int) - (↑(pw (Int.toNat w)) : Int))), Value.int IntKind.i64 0]) (by kernel_rfl) (by kernel_rfl) ?_
        have e5 : IntKind.i64.wrap ((getN s at' w : Int) - (pw w.toNat : Int)) = (getN s at' w : Int) - (pw w.toNat : Int) := by
          unfold getN pw
          exact wrs _ (by omega) (by omega)
        rw [e5]
        rfl
      · rw [decide_eq_false h1'] at e49
        rw [if_neg h1']
        refine Wp.skip (thenK_at (Wp.seq (Wp.text ?_)))
        refine kp 36 (.string s) ?_
        refine kp 37 (.int IntKind.i64 at') ?_
        refine kp 38 (.int IntKind.i64 at') ?_
        refine kp 39 (.int IntKind.i64 w) ?_
        refine kp 40 (.int IntKind.i64 (IntKind.wrap .i64 (at' + w))) ?_
        refine kp 41 (.string (ByteArray.extract s (Int.toNat at') (Int.toNat (IntKind.wrap .i64 (at' + w))))) ?_ (hop := fun _ => o_cutLH g1 g2)
        refine fr 42 30 [Value.string (ByteArray.extract s (Int.toNat at') (Int.toNat (IntKind.wrap .i64 (at' + w))))] ?_
        refine WpFun.of (c3) ?_
        refine kp 8 (.int IntKind.i64 (↑(getN s at' w) : Int)) ?_
        refine WpOps.nil (thenK_at (Wp.seq (Wp.seq (Wp.text ?_))))
        refine kp 43 (.string s) ?_
        refine kp 44 (.int IntKind.i64 at') ?_
        refine kp 45 (.int IntKind.u8 (↑(UInt8.toNat (byteAt s (Int.toNat at'))) : Int)) ?_ (hop := fun _ => o_indexStr h0 n3)
        refine kp 46 (.bool false) ?_ (hop := fun _ => by_fact e49)
        refine WpOps.nil (thenK_at (off' (Wp.skip (thenK_at (Wp.seq (Wp.text ?_))))))
        refine kp 51 (.int IntKind.i64 (↑(getN s at' w) : Int)) ?_
        refine kp 6 (.int IntKind.i64 (↑(getN s at' w) : Int)) ?_
        refine kp 7 (.int IntKind.i64 0) ?_
        refine WpOps.nil (thenK_at (Wp.ret ?_))
        refine endK_retn [Value.int IntKind.i64 (↑(getN s at' w) : Int), Value.int IntKind.i64 0] (Value.tuple #[Value.int IntKind.i64 (↑(getN s at' w) : Int), Value.int IntKind.i64 0]) (by kernel_rfl) (by kernel_rfl) ?_
        rfl
theorem numN_head (s : ByteArray) : ∀ (k p : Nat), numN s p (k + 1) = bitN (byteAt s p) * 2 ^ k + numN s (p + 1) k
  | 0, p => by simp [numN]
  | k + 1, p => by
    rw [numN, numN_head s k p, numN, Nat.pow_succ, show p + (k + 1) = p + 1 + k by omega, Nat.mul_add, ← Nat.mul_assoc, Nat.mul_comm 2 (bitN (byteAt s p)), Nat.mul_assoc, Nat.mul_comm 2 (2 ^ k)]
    omega
theorem signed (N m c : Nat) (hm : 1 ≤ m) (hc : m + c = 64) (hN : N < 2 ^ m) :
    (IntKind.i64.wrap (IntKind.u64.wrap ((N : Int) * 2 ^ c))).fdiv (2 ^ c) = if 2 ^ (m - 1) ≤ N then (N : Int) - (2 ^ m : Nat) else N := by
  have hA : 2 ^ m * 2 ^ c = 18446744073709551616 := by rw [← Nat.pow_add, hc]
  have hB : 2 ^ (m - 1) * 2 ^ c = 9223372036854775808 := by rw [← Nat.pow_add, show m - 1 + c = 63 by omega]
  have h0 : (2 : Int) ^ c = ((2 ^ c : Nat) : Int) := by rw [Int.natCast_pow]; rfl
  have hp : 0 < 2 ^ c := Nat.pow_pos (by decide)
  rw [h0]
  generalize 2 ^ c = A at *
  generalize 2 ^ m = B at *
  generalize 2 ^ (m - 1) = D at *
  have e0 : (N : Int) * (A : Int) = ((N * A : Nat) : Int) := by rw [Int.natCast_mul]
  have l1 : (N + 1) * A ≤ B * A := Nat.mul_le_mul_right _ hN
  rw [Nat.add_mul] at l1
  have e1 : IntKind.u64.wrap ((N : Int) * (A : Int)) = ((N * A : Nat) : Int) := by
    rw [e0]
    show ((N * A : Nat) : Int) % 18446744073709551616 = _
    rw [Int.emod_eq_of_lt (by omega) (by omega)]
  rw [e1]
  have hA0 : (A : Int) ≠ 0 := by omega
  split
  · rename_i h
    have l2 : D * A ≤ N * A := Nat.mul_le_mul_right _ h
    have e2 : IntKind.i64.wrap ((N * A : Nat) : Int) = ((N : Int) - (B : Int)) * A := by
      rw [Int.sub_mul, e0, ← Int.natCast_mul, hA, IntKind.wrap_i64]
      omega
    rw [e2, Int.mul_fdiv_cancel _ hA0]
  · rename_i h
    have l2 : (N + 1) * A ≤ D * A := Nat.mul_le_mul_right _ (by omega)
    rw [Nat.add_mul] at l2
    rw [wr _ (by omega) (by omega), ← e0, Int.mul_fdiv_cancel _ hA0]
theorem f9 : E.funcs 9 = some Tryd.f9 := by kernel_rfl
theorem getSigned9 (s : ByteArray) (at' w : Int) (hs : s.size ≤ 140737488351232) :
    Fun E 9 [.string s, .int .i64 at', .int .i64 w] (.tuple #[.int .i64 (cutS s at' w), .int .i64 (cutE s at' w 1)]) := by
  refine Fun.of f9 rfl (of_decide_eq_true (by kernel_rfl)) rfl ?_
  have c1 := cut29 s at' w 1 hs (by omega)
  by_cases h : Ins s at' w 1 ∧ Fit s at' w
  · have e0 : cutE s at' w 1 = 0 := by unfold cutE; rw [if_pos h.1, if_pos h.2]
    have e1 : cutN s at' w 1 = getN s at' w := by unfold cutN; rw [if_pos h]
    have e2 : cutS s at' w = getS s at' w := by unfold cutS; rw [if_pos h]
    rw [e0, e1] at c1
    rw [e0, e2]
    obtain ⟨⟨hv0, h0, h1, h2, h3⟩, hf⟩ := h
    have hs0 : ¬ IntKind.i64.wrap (64 - w) < 0 := by rw [wr _ (by omega) (by omega)]; omega
    refine Wp.seq (Wp.text ?_)
    refine kp 6 (.int IntKind.i64 0) ?_
    refine kp 7 (.int IntKind.i64 0) ?_
    refine WpOps.nil (thenK_at (Wp.seq (Wp.text ?_)))
    refine kp 11 (.string s) ?_
    refine kp 12 (.int IntKind.i64 at') ?_
    refine kp 13 (.int IntKind.i64 w) ?_
    refine fr 14 29 [Value.string s, Value.int .i64 at', Value.int .i64 w, Value.int .i64 1] ?_
    refine WpFun.of (c1) ?_
    refine kp 10 (.tuple #[Value.int .u64 (↑(getN s at' w) : Int), Value.int .i64 0]) ?_
    refine kp 15 (.int IntKind.u64 (↑(getN s at' w) : Int)) ?_
    refine kp 16 (.int IntKind.i64 0) ?_
    refine kp 8 (.int IntKind.u64 (↑(getN s at' w) : Int)) ?_
    refine kp 9 (.int IntKind.i64 0) ?_
    refine WpOps.nil (thenK_at (Wp.seq (Wp.seq (Wp.text ?_))))
    refine kp 17 (.int IntKind.i64 0) ?_
    refine kp 18 (.bool false) ?_
    refine WpOps.nil (thenK_at (off' (Wp.skip (thenK_at (Wp.seq (Wp.text ?_))))))
    refine kp 20 (.int IntKind.u64 (↑(getN s at' w) : Int)) ?_
    refine kp 21 (.int IntKind.i64 w) ?_
    refine kp 22 (.int IntKind.i64 (IntKind.wrap .i64 (64 - w))) ?_
    refine kp 23 (.int IntKind.u64 (IntKind.wrap .u64 ((↑(getN s at' w) : Int) * 2 ^ min (Int.toNat (IntKind.wrap .i64 (64 - w))) 64))) ?_ (hop := fun _ => o_shl hs0)
    refine kp 24 (.int IntKind.i64 (IntKind.wrap .i64 (IntKind.wrap .u64 ((↑(getN s at' w) : Int) * 2 ^ min (Int.toNat (IntKind.wrap .i64 (64 - w))) 64)))) ?_
    refine kp 25 (.int IntKind.i64 w) ?_
    refine kp 26 (.int IntKind.i64 (IntKind.wrap .i64 (64 - w))) ?_
    refine kp 27 (.int IntKind.i64 (Int.fdiv (IntKind.wrap .i64 (IntKind.wrap .u64 ((↑(getN s at' w) : Int) * 2 ^ min (Int.toNat (IntKind.wrap .i64 (64 - w))) 64))) (2 ^ min (Int.toNat (IntKind.wrap .i64 (64 - w))) 64))) ?_ (hop := fun _ => o_shr hs0)
    refine kp 6 (.int IntKind.i64 (Int.fdiv (IntKind.wrap .i64 (IntKind.wrap .u64 ((↑(getN s at' w) : Int) * 2 ^ min (Int.toNat (IntKind.wrap .i64 (64 - w))) 64))) (2 ^ min (Int.toNat (IntKind.wrap .i64 (64 - w))) 64))) ?_
    refine kp 7 (.int IntKind.i64 0) ?_
    refine WpOps.nil (thenK_at (Wp.ret ?_))
    refine endK_retn [Value.int IntKind.i64 (Int.fdiv (IntKind.wrap IntKind.i64 (IntKind.wrap IntKind.u64 ((↑(getN s at' w) : Int) * 2 ^ min (Int.toNat (IntKind.wrap IntKind.i64 (64 - w))) 64))) (2 ^ min (Int.toNat (IntKind.wrap IntKind.i64 (64 - w))) 64)), Value.int IntKind.i64 0] (Value.tuple #[Value.int IntKind.i64 (Int.fdiv (IntKind.wrap IntKind.i64 (IntKind.wrap IntKind.u64 ((↑(getN s at' w) : Int) * 2 ^ min (Int.toNat (IntKind.wrap IntKind.i64 (64 - w))) 64))) (2 ^ min (Int.toNat (IntKind.wrap IntKind.i64 (64 - w))) 64)), Value.int IntKind.i64 0]) (by kernel_rfl) (by kernel_rfl) ?_
    have e3 : (IntKind.i64.wrap (64 - w)).toNat = 64 - w.toNat := by rw [wr _ (by omega) (by omega)]; omega
    have e4 : min (64 - w.toNat) 64 = 64 - w.toNat := by omega
    have hb := numN_lt s at'.toNat w.toNat
    have e5 := signed (getN s at' w) w.toNat (64 - w.toNat) (by omega) (by omega) hb
    have e6 : (2 ^ (w.toNat - 1) ≤ getN s at' w) ↔ byteAt s at'.toNat = 49 := by
      have hh := numN_head s (w.toNat - 1) at'.toNat
      rw [show w.toNat - 1 + 1 = w.toNat by omega] at hh
      have hl := numN_lt s (at'.toNat + 1) (w.toNat - 1)
      unfold getN
      rw [hh]
      unfold bitN
      split
      · rename_i h
        exact ⟨fun _ => h, fun _ => by omega⟩
      · rename_i h
        exact ⟨fun h2 => by omega, fun h2 => absurd h2 h⟩
    have e7 : (IntKind.i64.wrap (IntKind.u64.wrap ((getN s at' w : Int) * 2 ^ min (IntKind.i64.wrap (64 - w)).toNat 64))).fdiv (2 ^ min (IntKind.i64.wrap (64 - w)).toNat 64) = getS s at' w := by
      rw [e3, e4, e5]
      unfold getS
      by_cases h9 : byteAt s at'.toNat = 49
      · rw [if_pos h9, if_pos (e6.2 h9)]
        rfl
      · rw [if_neg h9, if_neg fun h => h9 (e6.1 h)]
    rw [← e7]
    rfl
  · have e0 : cutE s at' w 1 ≠ 0 := by
      unfold cutE
      split
      · rw [if_neg fun h2 => h ⟨by assumption, h2⟩]; decide
      · decide
    have e2 : cutS s at' w = 0 := by unfold cutS; rw [if_neg h]
    rw [e2]
    have e3 : (cutE s at' w 1 != 0) = true := bne_iff_ne.2 e0
    refine Wp.seq (Wp.text ?_)
    refine kp 6 (.int IntKind.i64 0) ?_
    refine kp 7 (.int IntKind.i64 0) ?_
    refine WpOps.nil (thenK_at (Wp.seq (Wp.text ?_)))
    refine kp 11 (.string s) ?_
    refine kp 12 (.int IntKind.i64 at') ?_
    refine kp 13 (.int IntKind.i64 w) ?_
    refine fr 14 29 [Value.string s, Value.int .i64 at', Value.int .i64 w, Value.int .i64 1] ?_
    refine WpFun.of (c1) ?_
    refine kp 10 (.tuple #[Value.int .u64 (↑(cutN s at' w 1) : Int), Value.int .i64 (cutE s at' w 1)]) ?_
    refine kp 15 (.int IntKind.u64 (↑(cutN s at' w 1) : Int)) ?_
    refine kp 16 (.int IntKind.i64 (cutE s at' w 1)) ?_
    refine kp 8 (.int IntKind.u64 (↑(cutN s at' w 1) : Int)) ?_
    refine kp 9 (.int IntKind.i64 (cutE s at' w 1)) ?_
    refine WpOps.nil (thenK_at (Wp.seq (Wp.seq (Wp.text ?_))))
    refine kp 17 (.int IntKind.i64 (cutE s at' w 1)) ?_
    refine kp 18 (.bool true) ?_ (hop := fun _ => by_fact e3)
    refine WpOps.nil (thenK_at (on' (Wp.seq (Wp.text ?_))))
    refine kp 19 (.int IntKind.i64 (cutE s at' w 1)) ?_
    refine kp 6 (.int IntKind.i64 0) ?_
    refine kp 7 (.int IntKind.i64 (cutE s at' w 1)) ?_
    refine WpOps.nil (thenK_at (Wp.ret (thenK_ret ?_)))
    refine endK_retn [Value.int IntKind.i64 0, Value.int IntKind.i64 (cutE s at' w 1)] (Value.tuple #[Value.int IntKind.i64 0, Value.int IntKind.i64 (cutE s at' w 1)]) (by kernel_rfl) (by kernel_rfl) ?_
    rfl
end Go.Proofs.YthhlfddpacmhfaaDoor.D
