/- Bits: Valid, number, cut, Get, GetSigned. -/
import Derived.Test.YthhlfddpacmhfaaDoorFwLem
import Derived.Test.YthhlfddpacmhfaaDoorD01a
namespace Go.Proofs.YthhlfddpacmhfaaDoor.D
open Go.Fw Go.RowKit

theorem cond_or' (a b : Bool) : (bif a then true else b) = (a || b) := by cases a <;> rfl
theorem cond_and' (a b : Bool) : (bif a then b else false) = (a && b) := by cases a <;> rfl
theorem toList_inj' {a b : ByteArray} (h : a.toList = b.toList) : a = b := by
  apply ByteArray.ext
  apply Array.toList_inj.1
  simpa only [ByteArray.toList_eq] using h
theorem beq_str (a b : ByteArray) : (a.toList == b.toList) = decide (a = b) := by
  rw [Bool.eq_iff_iff, beq_iff_eq, decide_eq_true_eq]
  exact ⟨toList_inj', fun h => by rw [h]⟩
instance (s : ByteArray) : Decidable (Bits s) := inferInstanceAs (Decidable (∀ i, i < s.size → _))
def VP (s : ByteArray) : Prop := s.size ≤ 32000 ∧ Bits s
instance (s : ByteArray) : Decidable (VP s) := inferInstanceAs (Decidable (_ ∧ _))
theorem f11 : E.funcs 11 = some Tryd.f11 := by kernel_rfl
theorem valid11 (s : ByteArray) (hs : s.size ≤ 140737488351232) : Fun E 11 [.string s] (.bool (decide (VP s))) := by
  refine Fun.of f11 rfl (of_decide_eq_true (by kernel_rfl)) rfl ?_
  have c1 := trim31 s (by omega)
  refine Wp.seq (Wp.text ?_)
  refine kp 2 (.bool false) ?_
  refine WpOps.nil (thenK_at (Wp.seq (Wp.text ?_)))
  refine kp 3 (.string s) ?_
  refine kp 4 (.int IntKind.i64 (↑(ByteArray.size s) : Int)) ?_
  refine kp 5 (.bool (decide ((↑(ByteArray.size s) : Int) ≤ 32000))) ?_
  refine kp 6 (.bool (decide ((↑(ByteArray.size s) : Int) ≤ 32000))) ?_
  refine WpOps.fork 4 (decide ((↑(ByteArray.size s) : Int) ≤ 32000)) [7, 8, 9, 10] 10 (ByteArray.toList (trimV s) == ByteArray.toList (ByteArray.mk #[])) (false) (by kernel_rfl) (fun g10 => ?_) (fun g10 => ?_) (fun f_10 b10 hb10 => ?_)
  · refine kp 7 (.string s) ?_ (hw := wants_tt g10)
    refine fr 8 31 [Value.string s, Value.string (ByteArray.mk #[48, 49])] ?_ (hw := wants_tt g10)
    refine WpFun.of (c1) ?_
    refine kp 9 (.bool (ByteArray.toList (trimV s) == ByteArray.toList (ByteArray.mk #[]))) ?_ (hw := wants_tt g10)
    refine kp 10 (.bool (ByteArray.toList (trimV s) == ByteArray.toList (ByteArray.mk #[]))) ?_ (hop := fun _ => o_pickT g10)
    refine WpOps.nil ?_
    exact ⟨rfl, (.upd rfl (.upd rfl (.upd rfl (.upd rfl .refl)))), (by kernel_rfl)⟩
  · refine um 7 ?_ (hw := wants_ft g10)
    refine um 8 ?_ (hw := wants_ft g10)
    refine um 9 ?_ (hw := wants_ft g10)
    refine kp 10 (.bool false) ?_ (hop := fun _ => o_pickF g10)
    refine WpOps.nil ?_
    exact ⟨rfl, (.upd rfl (.upd rfl (.upd rfl (.upd rfl .refl)))), (by kernel_rfl)⟩
  refine kp 2 (.bool b10) ?_
  refine WpOps.nil (thenK_at (Wp.ret ?_))
  refine endK_retn [Value.bool b10] (Value.bool b10) (by kernel_rfl) (by kernel_rfl) ?_
  have e : b10 = decide (VP s) := by
    rw [hb10, cond_and', beq_str, Bool.eq_iff_iff]
    simp only [Bool.and_eq_true, decide_eq_true_eq]
    rw [bits_iff]
    constructor
    · exact fun h => ⟨by omega, h.2⟩
    · exact fun h => ⟨by have := h.1; omega, h.2⟩
  rw [← e]
  rfl
theorem f12 : E.funcs 12 = some Tryd.f12 := by kernel_rfl
theorem byte49 (b : UInt8) : ((b.toNat : Int) == 49) = decide (b = 49) := by
  rw [Bool.eq_iff_iff, beq_iff_eq, decide_eq_true_eq]
  constructor
  · intro h
    exact UInt8.toNat_inj.1 (by show b.toNat = 49; omega)
  · rintro rfl
    rfl
theorem byteN (b c : UInt8) : ((b.toNat : Int) != (c.toNat : Int)) = decide (b ≠ c) := by
  rw [Bool.eq_iff_iff, bne_iff_ne, decide_eq_true_eq]
  constructor
  · rintro h rfl
    exact h rfl
  · intro h e
    exact h (UInt8.toNat_inj.1 (by omega))
theorem valid12 (s : ByteArray) (hs : s.size ≤ 140737488351232) : Fun E 12 [.string s] (.bool (decide (VP s))) := by
  refine Fun.of f12 rfl (of_decide_eq_true (by kernel_rfl)) rfl ?_
  by_cases h0 : s.size ≤ 32000
  · have d0 : decide ((s.size : Int) > 32000) = false := decide_eq_false (by omega)
    refine Wp.seq (Wp.text ?_)
    refine kp 2 (.bool false) ?_
    refine WpOps.nil (thenK_at (Wp.seq (Wp.seq (Wp.text ?_))))
    refine kp 4 (.string s) ?_
    refine kp 5 (.int IntKind.i64 (↑(ByteArray.size s) : Int)) ?_
    refine kp 6 (.bool false) ?_ (hop := fun _ => by_fact d0)
    refine WpOps.nil (thenK_at (off' (Wp.skip (thenK_at (Wp.seq (Wp.seq (Wp.text ?_)))))))
    refine kp 3 (.int IntKind.i64 0) ?_
    refine WpOps.nil (thenK_at (Wp.block ?_))
    refine Wp.loop (G := Nat) (fun k => layj [(0, .string s), (3, .int .i64 k)]) (fun _ => heapOf []) (fun k => s.size - k) (fun k => k ≤ s.size ∧ ∀ p, p < k → byteAt s p = 48 ∨ byteAt s p = 49) 0
      (View.of [] [] _ (by decide) rfl trivial ⟨⟨by kernel_rfl, rfl⟩, ⟨by kernel_rfl, rfl⟩, trivial⟩) ⟨Nat.zero_le _, fun p hp => absurd hp (Nat.not_lt_zero _)⟩ ?_
    rintro k ⟨hk, hp⟩
    refine Wp.seq (Wp.seq (Wp.text ?_))
    refine kp 7 (.int IntKind.i64 (↑k : Int)) ?_
    refine kp 8 (.string s) ?_
    refine kp 9 (.int IntKind.i64 (↑(ByteArray.size s) : Int)) ?_
    refine kp 10 (.bool (decide ((↑k : Int) < (↑(ByteArray.size s) : Int)))) ?_
    refine WpOps.nil (thenK_at ?_)
    refine Wp.split (decide ((↑k : Int) < (↑(ByteArray.size s) : Int))) (by kernel_rfl) (fun hd => ?_) (fun hd => ?_)
    · have hlt : (k : Int) < s.size := of_decide_eq_true hd
      have m3 : 0 ≤ (k : Int) := by omega
      have n3 := byte_get s k (by omega)
      refine Wp.skip (thenK_at (Wp.seq (Wp.block (Wp.seq (Wp.text ?_)))))
      refine kp 13 (.string s) ?_
      refine kp 14 (.int IntKind.i64 (↑k : Int)) ?_
      refine kp 15 (.int IntKind.u8 (↑(UInt8.toNat (byteAt s k)) : Int)) ?_ (hop := fun _ => o_indexStr m3 n3)
      refine kp 16 (.bool ((↑(UInt8.toNat (byteAt s k)) : Int) != 48)) ?_
      refine kp 17 (.bool ((↑(UInt8.toNat (byteAt s k)) : Int) != 48)) ?_
      refine WpOps.fork 5 ((↑(UInt8.toNat (byteAt s k)) : Int) != 48) [18, 19, 20, 21, 22] 22 ((↑(UInt8.toNat (byteAt s k)) : Int) != 49) (false) (by kernel_rfl) (fun g22 => ?_) (fun g22 => ?_) (fun f_22 b22 hb22 => ?_)
      · refine kp 18 (.string s) ?_ (hw := wants_tt g22)
        refine kp 19 (.int IntKind.i64 (↑k : Int)) ?_ (hw := wants_tt g22)
        refine kp 20 (.int IntKind.u8 (↑(UInt8.toNat (byteAt s k)) : Int)) ?_ (hw := wants_tt g22) (hop := fun _ => o_indexStr m3 n3)
        refine kp 21 (.bool ((↑(UInt8.toNat (byteAt s k)) : Int) != 49)) ?_ (hw := wants_tt g22)
        refine kp 22 (.bool ((↑(UInt8.toNat (byteAt s k)) : Int) != 49)) ?_ (hop := fun _ => o_pickT g22)
        refine WpOps.nil ?_
        exact ⟨rfl, (.upd rfl (.upd rfl (.upd rfl (.upd rfl (.upd rfl .refl))))), (by kernel_rfl)⟩
      · refine um 18 ?_ (hw := wants_ft g22)
        refine um 19 ?_ (hw := wants_ft g22)
        refine um 20 ?_ (hw := wants_ft g22)
        refine um 21 ?_ (hw := wants_ft g22)
        refine kp 22 (.bool false) ?_ (hop := fun _ => o_pickF g22)
        refine WpOps.nil ?_
        exact ⟨rfl, (.upd rfl (.upd rfl (.upd rfl (.upd rfl (.upd rfl .refl))))), (by kernel_rfl)⟩
      refine WpOps.nil (thenK_at ?_)
      have e : b22 = !decide (byteAt s k = 48 ∨ byteAt s k = 49) := by
        have e1 := byteN (byteAt s k) 48
        have e2 := byteN (byteAt s k) 49
        rw [hb22, cond_and']
        show (((byteAt s k).toNat : Int) != ((48 : UInt8).toNat : Int) && ((byteAt s k).toNat : Int) != ((49 : UInt8).toNat : Int)) = _
        rw [e1, e2, Bool.eq_iff_iff]
        simp only [Bool.and_eq_true, decide_eq_true_eq, Bool.not_eq_true', decide_eq_false_iff_not, not_or]
      clear hb22
      refine Wp.split (b22) (by kernel_rfl) (fun hx => ?_) (fun hx => ?_)
      · have hn : ¬ VP s := fun h => by
          rw [hx, decide_eq_true (h.2 k (by omega))] at e
          cases e
        rw [decide_eq_false hn]
        refine Wp.seq (Wp.text ?_)
        refine kp 2 (.bool false) ?_
        refine WpOps.nil (thenK_at (Wp.ret (blockK_ret (thenK_ret (thenK_ret (blockK_ret (thenK_ret ?_)))))))
        refine endK_retn [Value.bool false] (Value.bool false) (by kernel_rfl) (by kernel_rfl) ?_
        rfl
      · have hb : byteAt s k = 48 ∨ byteAt s k = 49 := by
          rw [hx] at e
          exact of_decide_eq_true (Eq.mp (Bool.not_eq_false' _) e.symm)
        refine Wp.skip (blockK_norm (thenK_at (Wp.text ?_)))
        refine kp 11 (.int IntKind.i64 (↑k : Int)) ?_
        refine kp 12 (.int IntKind.i64 (IntKind.wrap .i64 ((↑k : Int) + 1))) ?_
        refine kp 3 (.int IntKind.i64 (IntKind.wrap .i64 ((↑k : Int) + 1))) ?_
        refine WpOps.nil (thenK_at ?_)
        refine ⟨k + 1, by omega, ⟨by omega, fun p hp2 => ?_⟩, View.of [] [] _ (by decide) rfl trivial ⟨⟨by kernel_rfl, rfl⟩, ⟨congrArg (Value.int .i64) (wr _ (by omega) (by omega)), rfl⟩, trivial⟩⟩
        rcases Nat.lt_or_ge p k with h | h
        · exact hp p h
        · obtain rfl : p = k := by omega
          exact hb
    · have hle : ¬ ((k : Int) < s.size) := of_decide_eq_false hd
      rw [decide_eq_true (show VP s from ⟨h0, fun p hp2 => hp p (by omega)⟩)]
      refine Wp.exit (thenK_exit (thenK_exit (blockK_hit (thenK_at (Wp.seq (Wp.text ?_))))))
      refine kp 2 (.bool true) ?_
      refine WpOps.nil (thenK_at (Wp.ret ?_))
      refine endK_retn [Value.bool true] (Value.bool true) (by kernel_rfl) (by kernel_rfl) ?_
      rfl
  · have d0 : decide ((s.size : Int) > 32000) = true := decide_eq_true (by omega)
    rw [decide_eq_false fun h => h0 h.1]
    refine Wp.seq (Wp.text ?_)
    refine kp 2 (.bool false) ?_
    refine WpOps.nil (thenK_at (Wp.seq (Wp.seq (Wp.text ?_))))
    refine kp 4 (.string s) ?_
    refine kp 5 (.int IntKind.i64 (↑(ByteArray.size s) : Int)) ?_
    refine kp 6 (.bool true) ?_ (hop := fun _ => by_fact d0)
    refine WpOps.nil (thenK_at (on' (Wp.seq (Wp.text ?_))))
    refine kp 2 (.bool false) ?_
    refine WpOps.nil (thenK_at (Wp.ret (thenK_ret ?_)))
    refine endK_retn [Value.bool false] (Value.bool false) (by kernel_rfl) (by kernel_rfl) ?_
    rfl

/-! ## numbers -/
def bitN (b : UInt8) : Nat := if b = 49 then 1 else 0
theorem bitN_le (b : UInt8) : bitN b ≤ 1 := by unfold bitN; split <;> omega
def numN (s : ByteArray) (p : Nat) : Nat → Nat
  | 0 => 0
  | k + 1 => 2 * numN s p k + bitN (byteAt s (p + k))
theorem numN_lt (s : ByteArray) (p : Nat) : ∀ k, numN s p k < 2 ^ k
  | 0 => by simp [numN]
  | k + 1 => by
    have h1 := numN_lt s p k
    have h2 := bitN_le (byteAt s (p + k))
    rw [numN, Nat.pow_succ]
    omega
theorem pow_le60 {k : Nat} (h : k ≤ 60) : 2 ^ k ≤ 1152921504606846976 := Nat.le_trans (Nat.pow_le_pow_right (by decide) h) (by decide)
theorem f30 : E.funcs 30 = some Tryd.f30 := by kernel_rfl
theorem number30 (s : ByteArray) (hs : s.size ≤ 60) : Fun E 30 [.string s] (.int .i64 (numN s 0 s.size)) := by
  refine Fun.of f30 rfl (of_decide_eq_true (by kernel_rfl)) rfl ?_
  refine Wp.seq (Wp.text ?_)
  refine kp 2 (.int IntKind.i64 0) ?_
  refine WpOps.nil (thenK_at (Wp.seq (Wp.text ?_)))
  refine kp 3 (.int IntKind.i64 0) ?_
  refine WpOps.nil (thenK_at (Wp.seq (Wp.seq (Wp.text ?_))))
  refine kp 4 (.int IntKind.i64 0) ?_
  refine WpOps.nil (thenK_at (Wp.block ?_))
  refine Wp.loop (G := Nat) (fun k => layj [(0, .string s), (3, .int .i64 (numN s 0 k)), (4, .int .i64 k)]) (fun _ => heapOf []) (fun k => s.size - k) (fun k => k ≤ s.size) 0
    (View.of [] [] _ (by decide) rfl trivial ⟨⟨by kernel_rfl, rfl⟩, ⟨by kernel_rfl, rfl⟩, ⟨by kernel_rfl, rfl⟩, trivial⟩) (Nat.zero_le _) ?_
  intro k hk
  refine Wp.seq (Wp.seq (Wp.text ?_))
  refine kp 5 (.int IntKind.i64 (↑k : Int)) ?_
  refine kp 6 (.string s) ?_
  refine kp 7 (.int IntKind.i64 (↑(ByteArray.size s) : Int)) ?_
  refine kp 8 (.bool (decide ((↑k : Int) < (↑(ByteArray.size s) : Int)))) ?_
  refine WpOps.nil (thenK_at ?_)
  refine Wp.split (decide ((↑k : Int) < (↑(ByteArray.size s) : Int))) (by kernel_rfl) (fun hd => ?_) (fun hd => ?_)
  · have hlt : (k : Int) < s.size := of_decide_eq_true hd
    have m3 : 0 ≤ (k : Int) := by omega
    have n3 := byte_get s k (by omega)
    have hb := numN_lt s 0 k
    have hp := pow_le60 (k := k) (by omega)
    have e0 : IntKind.i64.wrap (2 * (numN s 0 k : Int)) = ((2 * numN s 0 k : Nat) : Int) := by rw [wr _ (by omega) (by omega)]; omega
    have e49 := byte49 (byteAt s k)
    by_cases h1 : byteAt s k = 49
    · rw [decide_eq_true h1] at e49
      have e1 : IntKind.i64.wrap (IntKind.i64.wrap (2 * (numN s 0 k : Int)) + 1) = ((numN s 0 (k + 1) : Nat) : Int) := by
        rw [e0, wr _ (by omega) (by omega), numN, Nat.zero_add, bitN, if_pos h1]
        omega
      refine Wp.skip (thenK_at (Wp.seq (Wp.block (Wp.seq (Wp.text ?_)))))
      refine kp 11 (.int IntKind.i64 (↑(numN s 0 k) : Int)) ?_
      refine kp 12 (.int IntKind.i64 (IntKind.wrap .i64 (2 * (↑(numN s 0 k) : Int)))) ?_
      refine kp 3 (.int IntKind.i64 (IntKind.wrap .i64 (2 * (↑(numN s 0 k) : Int)))) ?_
      refine WpOps.nil (thenK_at (Wp.seq (Wp.text ?_)))
      refine kp 13 (.string s) ?_
      refine kp 14 (.int IntKind.i64 (↑k : Int)) ?_
      refine kp 15 (.int IntKind.u8 (↑(UInt8.toNat (byteAt s k)) : Int)) ?_ (hop := fun _ => o_indexStr m3 n3)
      refine kp 16 (.bool true) ?_ (hop := fun _ => by_fact e49)
      refine WpOps.nil (thenK_at (on' (Wp.text ?_)))
      refine kp 17 (.int IntKind.i64 (IntKind.wrap .i64 (2 * (↑(numN s 0 k) : Int)))) ?_
      refine kp 18 (.int IntKind.i64 (IntKind.wrap .i64 (IntKind.wrap .i64 (2 * (↑(numN s 0 k) : Int)) + 1))) ?_
      refine kp 3 (.int IntKind.i64 (IntKind.wrap .i64 (IntKind.wrap .i64 (2 * (↑(numN s 0 k) : Int)) + 1))) ?_
      refine WpOps.nil (blockK_norm (thenK_at (Wp.text ?_)))
      refine kp 9 (.int IntKind.i64 (↑k : Int)) ?_
      refine kp 10 (.int IntKind.i64 (IntKind.wrap .i64 ((↑k : Int) + 1))) ?_
      refine kp 4 (.int IntKind.i64 (IntKind.wrap .i64 ((↑k : Int) + 1))) ?_
      refine WpOps.nil (thenK_at ?_)
      exact ⟨k + 1, by omega, by omega, View.of [] [] _ (by decide) rfl trivial ⟨⟨by kernel_rfl, rfl⟩, ⟨congrArg (Value.int .i64) e1, rfl⟩, ⟨congrArg (Value.int .i64) (wr _ (by omega) (by omega)), rfl⟩, trivial⟩⟩
    · rw [decide_eq_false h1] at e49
      have e1 : IntKind.i64.wrap (2 * (numN s 0 k : Int)) = ((numN s 0 (k + 1) : Nat) : Int) := by
        rw [e0, numN, Nat.zero_add, bitN, if_neg h1]
        omega
      refine Wp.skip (thenK_at (Wp.seq (Wp.block (Wp.seq (Wp.text ?_)))))
      refine kp 11 (.int IntKind.i64 (↑(numN s 0 k) : Int)) ?_
      refine kp 12 (.int IntKind.i64 (IntKind.wrap .i64 (2 * (↑(numN s 0 k) : Int)))) ?_
      refine kp 3 (.int IntKind.i64 (IntKind.wrap .i64 (2 * (↑(numN s 0 k) : Int)))) ?_
      refine WpOps.nil (thenK_at (Wp.seq (Wp.text ?_)))
      refine kp 13 (.string s) ?_
      refine kp 14 (.int IntKind.i64 (↑k : Int)) ?_
      refine kp 15 (.int IntKind.u8 (↑(UInt8.toNat (byteAt s k)) : Int)) ?_ (hop := fun _ => o_indexStr m3 n3)
      refine kp 16 (.bool false) ?_ (hop := fun _ => by_fact e49)
      refine WpOps.nil (thenK_at (off' (Wp.skip (blockK_norm (thenK_at (Wp.text ?_))))))
      refine kp 9 (.int IntKind.i64 (↑k : Int)) ?_
      refine kp 10 (.int IntKind.i64 (IntKind.wrap .i64 ((↑k : Int) + 1))) ?_
      refine kp 4 (.int IntKind.i64 (IntKind.wrap .i64 ((↑k : Int) + 1))) ?_
      refine WpOps.nil (thenK_at ?_)
      exact ⟨k + 1, by omega, by omega, View.of [] [] _ (by decide) rfl trivial ⟨⟨by kernel_rfl, rfl⟩, ⟨congrArg (Value.int .i64) e1, rfl⟩, ⟨congrArg (Value.int .i64) (wr _ (by omega) (by omega)), rfl⟩, trivial⟩⟩
  · have hle : ¬ ((k : Int) < s.size) := of_decide_eq_false hd
    obtain rfl : k = s.size := by omega
    refine Wp.exit (thenK_exit (thenK_exit (blockK_hit (thenK_at (Wp.seq (Wp.text ?_))))))
    refine kp 19 (.int IntKind.i64 (↑(numN s 0 (ByteArray.size s)) : Int)) ?_
    refine kp 2 (.int IntKind.i64 (↑(numN s 0 (ByteArray.size s)) : Int)) ?_
    refine WpOps.nil (thenK_at (Wp.ret ?_))
    refine endK_retn [Value.int IntKind.i64 (↑(numN s 0 (ByteArray.size s)) : Int)] (Value.int IntKind.i64 (↑(numN s 0 (ByteArray.size s)) : Int)) (by kernel_rfl) (by kernel_rfl) ?_
    rfl
end Go.Proofs.YthhlfddpacmhfaaDoor.D
