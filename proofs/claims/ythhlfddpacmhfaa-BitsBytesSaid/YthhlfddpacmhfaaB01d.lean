/- Bits: Number of both. -/
import Derived.Test.YthhlfddpacmhfaaFwLem
import Derived.Test.YthhlfddpacmhfaaB01c
namespace Go.Proofs.Ythhlfddpacmhfaa.D
open Go.Fw Go.RowKit

def nv (s : ByteArray) : Nat → Int
  | 0 => if (byteAt s 0).toNat < 128 then ((byteAt s 0).toNat : Int) else ((byteAt s 0).toNat : Int) - 256
  | k + 1 => nv s k * 256 + (byteAt s (k + 1)).toNat
theorem nv_in (s : ByteArray) : ∀ k, -((128 * 256 ^ k : Nat) : Int) ≤ nv s k ∧ nv s k < ((128 * 256 ^ k : Nat) : Int)
  | 0 => by
    have h := UInt8.toNat_lt (byteAt s 0)
    unfold nv
    rw [Nat.pow_zero]
    split <;> omega
  | k + 1 => by
    have h := UInt8.toNat_lt (byteAt s (k + 1))
    have ih := nv_in s k
    rw [nv, Nat.pow_succ]
    generalize 256 ^ k = P at ih
    omega
theorem pow256 {k : Nat} (h : k ≤ 6) : 256 ^ k ≤ 281474976710656 := Nat.le_trans (Nat.pow_le_pow_right (by decide) h) (by decide)
theorem or8 (x : Int) (b : Nat) (hx : -36028797018963968 ≤ x ∧ x < 36028797018963968) (hb : b < 256) :
    IntKind.i64.wrap (((BitVec.ofInt 64 (x * 256) ||| BitVec.ofInt 64 (b : Int)).toNat : Nat) : Int) = x * 256 + b := by
  have e1 : (BitVec.ofInt 64 (x * 256)).toNat = 2 ^ 8 * (x % 72057594037927936).toNat := by
    rw [BitVec.toNat_ofInt]
    omega
  have e2 : (BitVec.ofInt 64 (b : Int)).toNat = b := by
    rw [BitVec.ofInt_natCast, BitVec.toNat_ofNat]
    omega
  rw [BitVec.toNat_or, e1, e2, ← Nat.two_pow_add_eq_or_of_lt (i := 8) hb, IntKind.wrap_i64]
  omega
theorem i8w (b : Nat) (h : b < 256) : IntKind.i64.wrap (IntKind.i8.wrap (b : Int)) = if b < 128 then (b : Int) else (b : Int) - 256 := by
  have : ∀ b : Fin 256, IntKind.i64.wrap (IntKind.i8.wrap (b.val : Int)) = if b.val < 128 then (b.val : Int) else (b.val : Int) - 256 := by decide +kernel
  exact this ⟨b, h⟩
def In (x : Int) : Prop := -1000000000000000 ≤ x ∧ x ≤ 1000000000000000
instance (x : Int) : Decidable (In x) := inferInstanceAs (Decidable (_ ∧ _))
def numV (s : ByteArray) : Value :=
  if 1 ≤ s.size ∧ s.size ≤ 8 then (if In (nv s (s.size - 1)) then .tuple #[.int .i64 (nv s (s.size - 1)), .int .i64 0] else .tuple #[.int .i64 0, .int .i64 5]) else .tuple #[.int .i64 0, .int .i64 1]
theorem nv_far (s : ByteArray) (k : Nat) (h : ¬ In (nv s k)) : ¬ In (nv s (k + 1)) := by
  have hb := UInt8.toNat_lt (byteAt s (k + 1))
  unfold In at h ⊢
  rw [nv]
  omega
theorem nv_far' (s : ByteArray) (k : Nat) (h : ¬ In (nv s k)) : ∀ d, ¬ In (nv s (k + d))
  | 0 => h
  | d + 1 => nv_far s (k + d) (nv_far' s k h d)
theorem f20 : E.funcs 20 = some Try.f20 := by kernel_rfl
theorem number20 (s : ByteArray) (hs : s.size ≤ 140737488351232) : Fun E 20 [.string s] (numV s) := by
  unfold numV
  by_cases h : 1 ≤ s.size ∧ s.size ≤ 8
  · rw [if_pos h]
    have d1 : decide ((s.size : Int) < 1) = false := decide_eq_false (by omega)
    have d2 : decide ((s.size : Int) > 8) = false := decide_eq_false (by omega)
    have n0 := byte_get s 0 (by omega)
    have fin : ∀ r, (if In (nv s (s.size - 1)) then Value.tuple #[.int .i64 (nv s (s.size - 1)), .int .i64 0] else .tuple #[.int .i64 0, .int .i64 5]) = r → iceV E Heap.none r = some r := by
      rintro r rfl
      split <;> rfl
    refine Fun.of f20 rfl (of_decide_eq_true (by kernel_rfl)) (fin _ rfl) ?_
    refine Wp.seq (Wp.text ?_)
    refine kp 2 (.int IntKind.i64 0) ?_
    refine kp 3 (.int IntKind.i64 0) ?_
    refine WpOps.nil (thenK_at (Wp.seq (Wp.seq (Wp.text ?_))))
    refine kp 6 (.string s) ?_
    refine kp 7 (.int IntKind.i64 (↑(ByteArray.size s) : Int)) ?_
    refine kp 8 (.bool false) ?_ (hop := fun _ => by_fact d1)
    refine kp 9 (.bool false) ?_
    refine kp 10 (.string s) ?_
    refine kp 11 (.int IntKind.i64 (↑(ByteArray.size s) : Int)) ?_
    refine kp 12 (.bool false) ?_ (hop := fun _ => by_fact d2)
    refine kp 13 (.bool false) ?_
    refine WpOps.nil (thenK_at (off' (Wp.skip (thenK_at (Wp.seq (Wp.text ?_))))))
    refine kp 14 (.string s) ?_
    refine kp 15 (.int IntKind.u8 (↑(UInt8.toNat (byteAt s 0)) : Int)) ?_ (hop := fun _ => o_indexStr (of_decide_eq_true (by kernel_rfl)) n0)
    refine kp 16 (.int IntKind.i8 (IntKind.wrap .i8 (↑(UInt8.toNat (byteAt s 0)) : Int))) ?_
    refine kp 17 (.int IntKind.i64 (IntKind.wrap .i64 (IntKind.wrap .i8 (↑(UInt8.toNat (byteAt s 0)) : Int)))) ?_
    refine kp 4 (.int IntKind.i64 (IntKind.wrap .i64 (IntKind.wrap .i8 (↑(UInt8.toNat (byteAt s 0)) : Int)))) ?_
    refine WpOps.nil (thenK_at (Wp.seq (Wp.seq (Wp.text ?_))))
    refine kp 5 (.int IntKind.i64 1) ?_
    refine WpOps.nil (thenK_at (Wp.block ?_))
    refine Wp.loop (G := Nat) (fun k => layj [(0, .string s), (4, .int .i64 (nv s k)), (5, .int .i64 (k + 1 : Nat))]) (fun _ => heapOf []) (fun k => s.size - 1 - k) (fun k => k ≤ s.size - 1) 0
      (View.of [] [] _ (by decide) rfl trivial ⟨⟨by kernel_rfl, rfl⟩, ⟨congrArg (Value.int .i64) (i8w _ (UInt8.toNat_lt _) : _ = nv s 0), rfl⟩, ⟨by kernel_rfl, rfl⟩, trivial⟩) (Nat.zero_le _) ?_
    intro k hk
    refine Wp.seq (Wp.seq (Wp.text ?_))
    refine kp 18 (.int IntKind.i64 (↑(k + 1) : Int)) ?_
    refine kp 19 (.string s) ?_
    refine kp 20 (.int IntKind.i64 (↑(ByteArray.size s) : Int)) ?_
    refine kp 21 (.bool (decide ((↑(k + 1) : Int) < (↑(ByteArray.size s) : Int)))) ?_
    refine WpOps.nil (thenK_at ?_)
    refine Wp.split (decide ((↑(k + 1) : Int) < (↑(ByteArray.size s) : Int))) (by kernel_rfl) (fun hc => ?_) (fun hc => ?_)
    · have hlt := of_decide_eq_true hc
      have m3 : 0 ≤ ((k + 1 : Nat) : Int) := by omega
      have n3 := byte_get s (k + 1) (by omega)
      refine Wp.skip (thenK_at (Wp.seq (Wp.block (Wp.text ?_))))
      refine kp 24 (.int IntKind.i64 (nv s k)) ?_
      refine kp 25 (.int IntKind.i64 (IntKind.wrap .i64 (nv s k * 2 ^ 8))) ?_
      refine kp 26 (.string s) ?_
      refine kp 27 (.int IntKind.i64 (↑(k + 1) : Int)) ?_
      refine kp 28 (.int IntKind.u8 (↑(UInt8.toNat (byteAt s (k + 1))) : Int)) ?_ (hop := fun _ => o_indexStr m3 n3)
      refine kp 29 (.int IntKind.i64 (IntKind.wrap .i64 (↑(UInt8.toNat (byteAt s (k + 1))) : Int))) ?_
      refine kp 30 (.int IntKind.i64 (IntKind.wrap .i64 (↑(BitVec.toNat (BitVec.ofInt 64 (IntKind.wrap .i64 (nv s k * 2 ^ 8)) ||| BitVec.ofInt 64 (IntKind.wrap .i64 (↑(UInt8.toNat (byteAt s (k + 1))) : Int)))) : Int))) ?_
      refine kp 4 (.int IntKind.i64 (IntKind.wrap .i64 (↑(BitVec.toNat (BitVec.ofInt 64 (IntKind.wrap .i64 (nv s k * 2 ^ 8)) ||| BitVec.ofInt 64 (IntKind.wrap .i64 (↑(UInt8.toNat (byteAt s (k + 1))) : Int)))) : Int))) ?_
      refine WpOps.nil (blockK_norm (thenK_at (Wp.text ?_)))
      refine kp 22 (.int IntKind.i64 (↑(k + 1) : Int)) ?_
      refine kp 23 (.int IntKind.i64 (IntKind.wrap .i64 ((↑(k + 1) : Int) + 1))) ?_
      refine kp 5 (.int IntKind.i64 (IntKind.wrap .i64 ((↑(k + 1) : Int) + 1))) ?_
      refine WpOps.nil (thenK_at ?_)
      refine ⟨k + 1, by omega, by omega, View.of [] [] _ (by decide) rfl trivial ⟨⟨by kernel_rfl, rfl⟩, ⟨congrArg (Value.int .i64) (?_ : _ = nv s (k + 1)), rfl⟩, ⟨congrArg (Value.int .i64) (wr _ (by omega) (by omega)), rfl⟩, trivial⟩⟩
      have hb := UInt8.toNat_lt (byteAt s (k + 1))
      have hx := nv_in s k
      have hp := pow256 (k := k) (by omega)
      have e1 : IntKind.i64.wrap (nv s k * 2 ^ 8) = nv s k * 256 := wrs _ (by omega) (by omega)
      refine Eq.trans ?_ (or8 _ _ (by omega) hb)
      rw [← e1]
      congr 5
      exact wr _ (by omega) (by omega)
    · have hle := of_decide_eq_false hc
      obtain rfl : k = s.size - 1 := by omega
      by_cases hi : In (nv s (s.size - 1))
      · have d3 : decide (nv s (s.size - 1) < -1000000000000000) = false := decide_eq_false (by have := hi.1; omega)
        have d4 : decide (nv s (s.size - 1) > 1000000000000000) = false := decide_eq_false (by have := hi.2; omega)
        rw [if_pos hi]
        refine Wp.exit (thenK_exit (thenK_exit (blockK_hit (thenK_at (Wp.seq (Wp.seq (Wp.text ?_)))))))
        refine kp 31 (.int IntKind.i64 (nv s (ByteArray.size s - 1))) ?_
        refine kp 32 (.bool false) ?_ (hop := fun _ => by_fact d3)
        refine kp 33 (.bool false) ?_
        refine kp 34 (.int IntKind.i64 (nv s (ByteArray.size s - 1))) ?_
        refine kp 35 (.bool false) ?_ (hop := fun _ => by_fact d4)
        refine kp 36 (.bool false) ?_
        refine WpOps.nil (thenK_at (off' (Wp.skip (thenK_at (Wp.seq (Wp.text ?_))))))
        refine kp 37 (.int IntKind.i64 (nv s (ByteArray.size s - 1))) ?_
        refine kp 2 (.int IntKind.i64 (nv s (ByteArray.size s - 1))) ?_
        refine kp 3 (.int IntKind.i64 0) ?_
        refine WpOps.nil (thenK_at (Wp.ret ?_))
        refine endK_retn [Value.int IntKind.i64 (nv s (ByteArray.size s - 1)), Value.int IntKind.i64 0] (Value.tuple #[Value.int IntKind.i64 (nv s (ByteArray.size s - 1)), Value.int IntKind.i64 0]) (by kernel_rfl) (by kernel_rfl) ?_
        rfl
      · rw [if_neg hi]
        by_cases h3 : nv s (s.size - 1) < -1000000000000000
        · have d3 : decide (nv s (s.size - 1) < -1000000000000000) = true := decide_eq_true h3
          refine Wp.exit (thenK_exit (thenK_exit (blockK_hit (thenK_at (Wp.seq (Wp.seq (Wp.text ?_)))))))
          refine kp 31 (.int IntKind.i64 (nv s (ByteArray.size s - 1))) ?_
          refine kp 32 (.bool true) ?_ (hop := fun _ => by_fact d3)
          refine kp 33 (.bool true) ?_
          refine um 34 ?_
          refine um 35 ?_
          refine kp 36 (.bool true) ?_
          refine WpOps.nil (thenK_at (on' (Wp.seq (Wp.text ?_))))
          refine kp 2 (.int IntKind.i64 0) ?_
          refine kp 3 (.int IntKind.i64 5) ?_
          refine WpOps.nil (thenK_at (Wp.ret (thenK_ret ?_)))
          refine endK_retn [Value.int IntKind.i64 0, Value.int IntKind.i64 5] (Value.tuple #[Value.int IntKind.i64 0, Value.int IntKind.i64 5]) (by kernel_rfl) (by kernel_rfl) ?_
          rfl
        · have d3 : decide (nv s (s.size - 1) < -1000000000000000) = false := decide_eq_false h3
          have d4 : decide (nv s (s.size - 1) > 1000000000000000) = true := decide_eq_true (by unfold In at hi; omega)
          refine Wp.exit (thenK_exit (thenK_exit (blockK_hit (thenK_at (Wp.seq (Wp.seq (Wp.text ?_)))))))
          refine kp 31 (.int IntKind.i64 (nv s (ByteArray.size s - 1))) ?_
          refine kp 32 (.bool false) ?_ (hop := fun _ => by_fact d3)
          refine kp 33 (.bool false) ?_
          refine kp 34 (.int IntKind.i64 (nv s (ByteArray.size s - 1))) ?_
          refine kp 35 (.bool true) ?_ (hop := fun _ => by_fact d4)
          refine kp 36 (.bool true) ?_
          refine WpOps.nil (thenK_at (on' (Wp.seq (Wp.text ?_))))
          refine kp 2 (.int IntKind.i64 0) ?_
          refine kp 3 (.int IntKind.i64 5) ?_
          refine WpOps.nil (thenK_at (Wp.ret (thenK_ret ?_)))
          refine endK_retn [Value.int IntKind.i64 0, Value.int IntKind.i64 5] (Value.tuple #[Value.int IntKind.i64 0, Value.int IntKind.i64 5]) (by kernel_rfl) (by kernel_rfl) ?_
          rfl
  · rw [if_neg h]
    refine Fun.of f20 rfl (of_decide_eq_true (by kernel_rfl)) rfl ?_
    by_cases h1 : s.size < 1
    · have d1 : decide ((s.size : Int) < 1) = true := decide_eq_true (by omega)
      refine Wp.seq (Wp.text ?_)
      refine kp 2 (.int IntKind.i64 0) ?_
      refine kp 3 (.int IntKind.i64 0) ?_
      refine WpOps.nil (thenK_at (Wp.seq (Wp.seq (Wp.text ?_))))
      refine kp 6 (.string s) ?_
      refine kp 7 (.int IntKind.i64 (↑(ByteArray.size s) : Int)) ?_
      refine kp 8 (.bool true) ?_ (hop := fun _ => by_fact d1)
      refine kp 9 (.bool true) ?_
      refine um 10 ?_
      refine um 11 ?_
      refine um 12 ?_
      refine kp 13 (.bool true) ?_
      refine WpOps.nil (thenK_at (on' (Wp.seq (Wp.text ?_))))
      refine kp 2 (.int IntKind.i64 0) ?_
      refine kp 3 (.int IntKind.i64 1) ?_
      refine WpOps.nil (thenK_at (Wp.ret (thenK_ret ?_)))
      refine endK_retn [Value.int IntKind.i64 0, Value.int IntKind.i64 1] (Value.tuple #[Value.int IntKind.i64 0, Value.int IntKind.i64 1]) (by kernel_rfl) (by kernel_rfl) ?_
      rfl
    · have d1 : decide ((s.size : Int) < 1) = false := decide_eq_false (by omega)
      have d2 : decide ((s.size : Int) > 8) = true := decide_eq_true (by omega)
      refine Wp.seq (Wp.text ?_)
      refine kp 2 (.int IntKind.i64 0) ?_
      refine kp 3 (.int IntKind.i64 0) ?_
      refine WpOps.nil (thenK_at (Wp.seq (Wp.seq (Wp.text ?_))))
      refine kp 6 (.string s) ?_
      refine kp 7 (.int IntKind.i64 (↑(ByteArray.size s) : Int)) ?_
      refine kp 8 (.bool false) ?_ (hop := fun _ => by_fact d1)
      refine kp 9 (.bool false) ?_
      refine kp 10 (.string s) ?_
      refine kp 11 (.int IntKind.i64 (↑(ByteArray.size s) : Int)) ?_
      refine kp 12 (.bool true) ?_ (hop := fun _ => by_fact d2)
      refine kp 13 (.bool true) ?_
      refine WpOps.nil (thenK_at (on' (Wp.seq (Wp.text ?_))))
      refine kp 2 (.int IntKind.i64 0) ?_
      refine kp 3 (.int IntKind.i64 1) ?_
      refine WpOps.nil (thenK_at (Wp.ret (thenK_ret ?_)))
      refine endK_retn [Value.int IntKind.i64 0, Value.int IntKind.i64 1] (Value.tuple #[Value.int IntKind.i64 0, Value.int IntKind.i64 1]) (by kernel_rfl) (by kernel_rfl) ?_
      rfl
theorem f21 : E.funcs 21 = some Try.f21 := by kernel_rfl
theorem number21lo (s : ByteArray) (h : 1 ≤ s.size ∧ s.size ≤ 8) (h128 : (byteAt s 0).toNat < 128) : Fun E 21 [.string s] (if In (nv s (s.size - 1)) then .tuple #[.int .i64 (nv s (s.size - 1)), .int .i64 0] else .tuple #[.int .i64 0, .int .i64 5]) := by
  have d1 : decide ((s.size : Int) < 1) = false := decide_eq_false (by omega)
  have d2 : decide ((s.size : Int) > 8) = false := decide_eq_false (by omega)
  have n0 := byte_get s 0 (by omega)
  have fin : ∀ r, (if In (nv s (s.size - 1)) then Value.tuple #[.int .i64 (nv s (s.size - 1)), .int .i64 0] else .tuple #[.int .i64 0, .int .i64 5]) = r → iceV E Heap.none r = some r := by
    rintro r rfl
    split <;> rfl
  have hb0 := UInt8.toNat_lt (byteAt s 0)
  have w0 : IntKind.i64.wrap ((byteAt s 0).toNat : Int) = ((byteAt s 0).toNat : Int) := wr _ (by omega) (by omega)
  have d3 : decide (IntKind.i64.wrap ((byteAt s 0).toNat : Int) > 127) = false := by rw [w0]; exact decide_eq_false (by omega)
  refine Fun.of f21 rfl (of_decide_eq_true (by kernel_rfl)) (fin _ rfl) ?_
  refine Wp.seq (Wp.text ?_)
  refine kp 2 (.int IntKind.i64 0) ?_
  refine kp 3 (.int IntKind.i64 0) ?_
  refine WpOps.nil (thenK_at (Wp.seq (Wp.seq (Wp.text ?_))))
  refine kp 6 (.string s) ?_
  refine kp 7 (.int IntKind.i64 (↑(ByteArray.size s) : Int)) ?_
  refine kp 8 (.bool false) ?_ (hop := fun _ => by_fact d1)
  refine kp 9 (.bool false) ?_
  refine kp 10 (.string s) ?_
  refine kp 11 (.int IntKind.i64 (↑(ByteArray.size s) : Int)) ?_
  refine kp 12 (.bool false) ?_ (hop := fun _ => by_fact d2)
  refine kp 13 (.bool false) ?_
  refine WpOps.nil (thenK_at (off' (Wp.skip (thenK_at (Wp.seq (Wp.text ?_))))))
  refine kp 14 (.string s) ?_
  refine kp 15 (.int IntKind.u8 (↑(UInt8.toNat (byteAt s 0)) : Int)) ?_ (hop := fun _ => o_indexStr (of_decide_eq_true (by kernel_rfl)) n0)
  refine kp 16 (.int IntKind.i64 (IntKind.wrap .i64 (↑(UInt8.toNat (byteAt s 0)) : Int))) ?_
  refine kp 4 (.int IntKind.i64 (IntKind.wrap .i64 (↑(UInt8.toNat (byteAt s 0)) : Int))) ?_
  refine WpOps.nil (thenK_at (Wp.seq (Wp.seq (Wp.text ?_))))
  refine kp 17 (.int IntKind.i64 (IntKind.wrap .i64 (↑(UInt8.toNat (byteAt s 0)) : Int))) ?_
  refine kp 18 (.bool false) ?_ (hop := fun _ => by_fact d3)
  refine WpOps.nil (thenK_at (off' (Wp.skip (thenK_at (Wp.seq (Wp.seq (Wp.text ?_)))))))
  refine kp 5 (.int IntKind.i64 1) ?_
  refine WpOps.nil (thenK_at (Wp.block ?_))
  refine Wp.loop (G := Nat) (fun k => layj [(0, .string s), (4, .int .i64 (nv s k)), (5, .int .i64 (k + 1 : Nat))]) (fun _ => heapOf []) (fun k => s.size - 1 - k) (fun k => k ≤ s.size - 1) 0
    (View.of [] [] _ (by decide) rfl trivial ⟨⟨by kernel_rfl, rfl⟩, ⟨congrArg (Value.int .i64) (?_ : _ = nv s 0), rfl⟩, ⟨by kernel_rfl, rfl⟩, trivial⟩) (Nat.zero_le _) ?_
  · rw [w0, nv, if_pos h128]
  intro k hk
  by_cases hlt : k + 1 < s.size
  · have d4 : decide (((k + 1 : Nat) : Int) < s.size) = true := decide_eq_true (by omega)
    have m3 : 0 ≤ ((k + 1 : Nat) : Int) := by omega
    have n3 := byte_get s (k + 1) hlt
    have hb := UInt8.toNat_lt (byteAt s (k + 1))
    have far : ¬ In (nv s k) → ¬ In (nv s (s.size - 1)) := fun h => by
      have := nv_far' s k h (s.size - 1 - k)
      rwa [show k + (s.size - 1 - k) = s.size - 1 by omega] at this
    by_cases h5 : nv s k < -1000000000000000
    · have d5 : decide (nv s k < -1000000000000000) = true := decide_eq_true h5
      rw [if_neg (far (fun h => by have := h.1; omega))]
      refine Wp.seq (Wp.seq (Wp.text ?_))
      refine kp 21 (.int IntKind.i64 (↑(k + 1) : Int)) ?_
      refine kp 22 (.string s) ?_
      refine kp 23 (.int IntKind.i64 (↑(ByteArray.size s) : Int)) ?_
      refine kp 24 (.bool true) ?_ (hop := fun _ => by_fact d4)
      refine WpOps.nil (thenK_at (on' (Wp.skip (thenK_at (Wp.seq (Wp.block (Wp.seq (Wp.seq (Wp.text ?_)))))))))
      refine kp 27 (.int IntKind.i64 (nv s k)) ?_
      refine kp 28 (.bool true) ?_ (hop := fun _ => by_fact d5)
      refine kp 29 (.bool true) ?_
      refine um 30 ?_
      refine um 31 ?_
      refine kp 32 (.bool true) ?_
      refine WpOps.nil (thenK_at (on' (Wp.seq (Wp.text ?_))))
      refine kp 2 (.int IntKind.i64 0) ?_
      refine kp 3 (.int IntKind.i64 5) ?_
      refine WpOps.nil (thenK_at (Wp.ret (thenK_ret (blockK_ret (thenK_ret (thenK_ret (blockK_ret (thenK_ret ?_))))))))
      refine endK_retn [Value.int IntKind.i64 0, Value.int IntKind.i64 5] (Value.tuple #[Value.int IntKind.i64 0, Value.int IntKind.i64 5]) (by kernel_rfl) (by kernel_rfl) ?_
      rfl
    · have d5 : decide (nv s k < -1000000000000000) = false := decide_eq_false h5
      by_cases h6 : nv s k > 1000000000000000
      · have d6 : decide (nv s k > 1000000000000000) = true := decide_eq_true h6
        rw [if_neg (far (fun h => by have := h.2; omega))]
        refine Wp.seq (Wp.seq (Wp.text ?_))
        refine kp 21 (.int IntKind.i64 (↑(k + 1) : Int)) ?_
        refine kp 22 (.string s) ?_
        refine kp 23 (.int IntKind.i64 (↑(ByteArray.size s) : Int)) ?_
        refine kp 24 (.bool true) ?_ (hop := fun _ => by_fact d4)
        refine WpOps.nil (thenK_at (on' (Wp.skip (thenK_at (Wp.seq (Wp.block (Wp.seq (Wp.seq (Wp.text ?_)))))))))
        refine kp 27 (.int IntKind.i64 (nv s k)) ?_
        refine kp 28 (.bool false) ?_ (hop := fun _ => by_fact d5)
        refine kp 29 (.bool false) ?_
        refine kp 30 (.int IntKind.i64 (nv s k)) ?_
        refine kp 31 (.bool true) ?_ (hop := fun _ => by_fact d6)
        refine kp 32 (.bool true) ?_
        refine WpOps.nil (thenK_at (on' (Wp.seq (Wp.text ?_))))
        refine kp 2 (.int IntKind.i64 0) ?_
        refine kp 3 (.int IntKind.i64 5) ?_
        refine WpOps.nil (thenK_at (Wp.ret (thenK_ret (blockK_ret (thenK_ret (thenK_ret (blockK_ret (thenK_ret ?_))))))))
        refine endK_retn [Value.int IntKind.i64 0, Value.int IntKind.i64 5] (Value.tuple #[Value.int IntKind.i64 0, Value.int IntKind.i64 5]) (by kernel_rfl) (by kernel_rfl) ?_
        rfl
      · have d6 : decide (nv s k > 1000000000000000) = false := decide_eq_false h6
        have e1 : IntKind.i64.wrap (IntKind.i64.wrap (nv s k * 256) + IntKind.i64.wrap ((byteAt s (k + 1)).toNat : Int)) = nv s (k + 1) := by
          rw [wrs (nv s k * 256) (by omega) (by omega), wr ((byteAt s (k + 1)).toNat : Int) (by omega) (by omega), wrs _ (by omega) (by omega)]
          rfl
        refine Wp.seq (Wp.seq (Wp.text ?_))
        refine kp 21 (.int IntKind.i64 (↑(k + 1) : Int)) ?_
        refine kp 22 (.string s) ?_
        refine kp 23 (.int IntKind.i64 (↑(ByteArray.size s) : Int)) ?_
        refine kp 24 (.bool true) ?_ (hop := fun _ => by_fact d4)
        refine WpOps.nil (thenK_at (on' (Wp.skip (thenK_at (Wp.seq (Wp.block (Wp.seq (Wp.seq (Wp.text ?_)))))))))
        refine kp 27 (.int IntKind.i64 (nv s k)) ?_
        refine kp 28 (.bool false) ?_ (hop := fun _ => by_fact d5)
        refine kp 29 (.bool false) ?_
        refine kp 30 (.int IntKind.i64 (nv s k)) ?_
        refine kp 31 (.bool false) ?_ (hop := fun _ => by_fact d6)
        refine kp 32 (.bool false) ?_
        refine WpOps.nil (thenK_at (off' (Wp.skip (thenK_at (Wp.text ?_)))))
        refine kp 33 (.int IntKind.i64 (nv s k)) ?_
        refine kp 34 (.int IntKind.i64 (IntKind.wrap .i64 (nv s k * 256))) ?_
        refine kp 35 (.string s) ?_
        refine kp 36 (.int IntKind.i64 (↑(k + 1) : Int)) ?_
        refine kp 37 (.int IntKind.u8 (↑(UInt8.toNat (byteAt s (k + 1))) : Int)) ?_ (hop := fun _ => o_indexStr m3 n3)
        refine kp 38 (.int IntKind.i64 (IntKind.wrap .i64 (↑(UInt8.toNat (byteAt s (k + 1))) : Int))) ?_
        refine kp 39 (.int IntKind.i64 (IntKind.wrap .i64 (IntKind.wrap .i64 (nv s k * 256) + IntKind.wrap .i64 (↑(UInt8.toNat (byteAt s (k + 1))) : Int)))) ?_
        refine kp 4 (.int IntKind.i64 (IntKind.wrap .i64 (IntKind.wrap .i64 (nv s k * 256) + IntKind.wrap .i64 (↑(UInt8.toNat (byteAt s (k + 1))) : Int)))) ?_
        refine WpOps.nil (blockK_norm (thenK_at (Wp.text ?_)))
        refine kp 25 (.int IntKind.i64 (↑(k + 1) : Int)) ?_
        refine kp 26 (.int IntKind.i64 (IntKind.wrap .i64 ((↑(k + 1) : Int) + 1))) ?_
        refine kp 5 (.int IntKind.i64 (IntKind.wrap .i64 ((↑(k + 1) : Int) + 1))) ?_
        refine WpOps.nil (thenK_at ?_)
        exact ⟨k + 1, by omega, by omega, View.of [] [] _ (by decide) rfl trivial ⟨⟨by kernel_rfl, rfl⟩, ⟨congrArg (Value.int .i64) e1, rfl⟩, ⟨congrArg (Value.int .i64) (wr _ (by omega) (by omega)), rfl⟩, trivial⟩⟩
  · have d4 : decide (((k + 1 : Nat) : Int) < s.size) = false := decide_eq_false (by omega)
    obtain rfl : k = s.size - 1 := by omega
    by_cases hi : In (nv s (s.size - 1))
    · have d5 : decide (nv s (s.size - 1) < -1000000000000000) = false := decide_eq_false (by have := hi.1; omega)
      have d6 : decide (nv s (s.size - 1) > 1000000000000000) = false := decide_eq_false (by have := hi.2; omega)
      rw [if_pos hi]
      refine Wp.seq (Wp.seq (Wp.text ?_))
      refine kp 21 (.int IntKind.i64 (↑(ByteArray.size s - 1 + 1) : Int)) ?_
      refine kp 22 (.string s) ?_
      refine kp 23 (.int IntKind.i64 (↑(ByteArray.size s) : Int)) ?_
      refine kp 24 (.bool false) ?_ (hop := fun _ => by_fact d4)
      refine WpOps.nil (thenK_at (off' (Wp.exit (thenK_exit (thenK_exit (blockK_hit (thenK_at (Wp.seq (Wp.seq (Wp.text ?_))))))))))
      refine kp 40 (.int IntKind.i64 (nv s (ByteArray.size s - 1))) ?_
      refine kp 41 (.bool false) ?_ (hop := fun _ => by_fact d5)
      refine kp 42 (.bool false) ?_
      refine kp 43 (.int IntKind.i64 (nv s (ByteArray.size s - 1))) ?_
      refine kp 44 (.bool false) ?_ (hop := fun _ => by_fact d6)
      refine kp 45 (.bool false) ?_
      refine WpOps.nil (thenK_at (off' (Wp.skip (thenK_at (Wp.seq (Wp.text ?_))))))
      refine kp 46 (.int IntKind.i64 (nv s (ByteArray.size s - 1))) ?_
      refine kp 2 (.int IntKind.i64 (nv s (ByteArray.size s - 1))) ?_
      refine kp 3 (.int IntKind.i64 0) ?_
      refine WpOps.nil (thenK_at (Wp.ret ?_))
      refine endK_retn [Value.int IntKind.i64 (nv s (ByteArray.size s - 1)), Value.int IntKind.i64 0] (Value.tuple #[Value.int IntKind.i64 (nv s (ByteArray.size s - 1)), Value.int IntKind.i64 0]) (by kernel_rfl) (by kernel_rfl) ?_
      rfl
    · rw [if_neg hi]
      by_cases h3 : nv s (s.size - 1) < -1000000000000000
      · have d5 : decide (nv s (s.size - 1) < -1000000000000000) = true := decide_eq_true h3
        refine Wp.seq (Wp.seq (Wp.text ?_))
        refine kp 21 (.int IntKind.i64 (↑(ByteArray.size s - 1 + 1) : Int)) ?_
        refine kp 22 (.string s) ?_
        refine kp 23 (.int IntKind.i64 (↑(ByteArray.size s) : Int)) ?_
        refine kp 24 (.bool false) ?_ (hop := fun _ => by_fact d4)
        refine WpOps.nil (thenK_at (off' (Wp.exit (thenK_exit (thenK_exit (blockK_hit (thenK_at (Wp.seq (Wp.seq (Wp.text ?_))))))))))
        refine kp 40 (.int IntKind.i64 (nv s (ByteArray.size s - 1))) ?_
        refine kp 41 (.bool true) ?_ (hop := fun _ => by_fact d5)
        refine kp 42 (.bool true) ?_
        refine um 43 ?_
        refine um 44 ?_
        refine kp 45 (.bool true) ?_
        refine WpOps.nil (thenK_at (on' (Wp.seq (Wp.text ?_))))
        refine kp 2 (.int IntKind.i64 0) ?_
        refine kp 3 (.int IntKind.i64 5) ?_
        refine WpOps.nil (thenK_at (Wp.ret (thenK_ret ?_)))
        refine endK_retn [Value.int IntKind.i64 0, Value.int IntKind.i64 5] (Value.tuple #[Value.int IntKind.i64 0, Value.int IntKind.i64 5]) (by kernel_rfl) (by kernel_rfl) ?_
        rfl
      · have d5 : decide (nv s (s.size - 1) < -1000000000000000) = false := decide_eq_false h3
        have d6 : decide (nv s (s.size - 1) > 1000000000000000) = true := decide_eq_true (by unfold In at hi; omega)
        refine Wp.seq (Wp.seq (Wp.text ?_))
        refine kp 21 (.int IntKind.i64 (↑(ByteArray.size s - 1 + 1) : Int)) ?_
        refine kp 22 (.string s) ?_
        refine kp 23 (.int IntKind.i64 (↑(ByteArray.size s) : Int)) ?_
        refine kp 24 (.bool false) ?_ (hop := fun _ => by_fact d4)
        refine WpOps.nil (thenK_at (off' (Wp.exit (thenK_exit (thenK_exit (blockK_hit (thenK_at (Wp.seq (Wp.seq (Wp.text ?_))))))))))
        refine kp 40 (.int IntKind.i64 (nv s (ByteArray.size s - 1))) ?_
        refine kp 41 (.bool false) ?_ (hop := fun _ => by_fact d5)
        refine kp 42 (.bool false) ?_
        refine kp 43 (.int IntKind.i64 (nv s (ByteArray.size s - 1))) ?_
        refine kp 44 (.bool true) ?_ (hop := fun _ => by_fact d6)
        refine kp 45 (.bool true) ?_
        refine WpOps.nil (thenK_at (on' (Wp.seq (Wp.text ?_))))
        refine kp 2 (.int IntKind.i64 0) ?_
        refine kp 3 (.int IntKind.i64 5) ?_
        refine WpOps.nil (thenK_at (Wp.ret (thenK_ret ?_)))
        refine endK_retn [Value.int IntKind.i64 0, Value.int IntKind.i64 5] (Value.tuple #[Value.int IntKind.i64 0, Value.int IntKind.i64 5]) (by kernel_rfl) (by kernel_rfl) ?_
        rfl
theorem number21hi (s : ByteArray) (h : 1 ≤ s.size ∧ s.size ≤ 8) (h128 : ¬ (byteAt s 0).toNat < 128) : Fun E 21 [.string s] (if In (nv s (s.size - 1)) then .tuple #[.int .i64 (nv s (s.size - 1)), .int .i64 0] else .tuple #[.int .i64 0, .int .i64 5]) := by
  have d1 : decide ((s.size : Int) < 1) = false := decide_eq_false (by omega)
  have d2 : decide ((s.size : Int) > 8) = false := decide_eq_false (by omega)
  have n0 := byte_get s 0 (by omega)
  have fin : ∀ r, (if In (nv s (s.size - 1)) then Value.tuple #[.int .i64 (nv s (s.size - 1)), .int .i64 0] else .tuple #[.int .i64 0, .int .i64 5]) = r → iceV E Heap.none r = some r := by
    rintro r rfl
    split <;> rfl
  have hb0 := UInt8.toNat_lt (byteAt s 0)
  have w0 : IntKind.i64.wrap ((byteAt s 0).toNat : Int) = ((byteAt s 0).toNat : Int) := wr _ (by omega) (by omega)
  have d3 : decide (IntKind.i64.wrap ((byteAt s 0).toNat : Int) > 127) = true := by rw [w0]; exact decide_eq_true (by omega)
  refine Fun.of f21 rfl (of_decide_eq_true (by kernel_rfl)) (fin _ rfl) ?_
  refine Wp.seq (Wp.text ?_)
  refine kp 2 (.int IntKind.i64 0) ?_
  refine kp 3 (.int IntKind.i64 0) ?_
  refine WpOps.nil (thenK_at (Wp.seq (Wp.seq (Wp.text ?_))))
  refine kp 6 (.string s) ?_
  refine kp 7 (.int IntKind.i64 (↑(ByteArray.size s) : Int)) ?_
  refine kp 8 (.bool false) ?_ (hop := fun _ => by_fact d1)
  refine kp 9 (.bool false) ?_
  refine kp 10 (.string s) ?_
  refine kp 11 (.int IntKind.i64 (↑(ByteArray.size s) : Int)) ?_
  refine kp 12 (.bool false) ?_ (hop := fun _ => by_fact d2)
  refine kp 13 (.bool false) ?_
  refine WpOps.nil (thenK_at (off' (Wp.skip (thenK_at (Wp.seq (Wp.text ?_))))))
  refine kp 14 (.string s) ?_
  refine kp 15 (.int IntKind.u8 (↑(UInt8.toNat (byteAt s 0)) : Int)) ?_ (hop := fun _ => o_indexStr (of_decide_eq_true (by kernel_rfl)) n0)
  refine kp 16 (.int IntKind.i64 (IntKind.wrap .i64 (↑(UInt8.toNat (byteAt s 0)) : Int))) ?_
  refine kp 4 (.int IntKind.i64 (IntKind.wrap .i64 (↑(UInt8.toNat (byteAt s 0)) : Int))) ?_
  refine WpOps.nil (thenK_at (Wp.seq (Wp.seq (Wp.text ?_))))
  refine kp 17 (.int IntKind.i64 (IntKind.wrap .i64 (↑(UInt8.toNat (byteAt s 0)) : Int))) ?_
  refine kp 18 (.bool true) ?_ (hop := fun _ => by_fact d3)
  refine WpOps.nil (thenK_at (on' (Wp.text ?_)))
  refine kp 19 (.int IntKind.i64 (IntKind.wrap .i64 (↑(UInt8.toNat (byteAt s 0)) : Int))) ?_
  refine kp 20 (.int IntKind.i64 (IntKind.wrap .i64 (IntKind.wrap .i64 (↑(UInt8.toNat (byteAt s 0)) : Int) - 256))) ?_
  refine kp 4 (.int IntKind.i64 (IntKind.wrap .i64 (IntKind.wrap .i64 (↑(UInt8.toNat (byteAt s 0)) : Int) - 256))) ?_
  refine WpOps.nil (thenK_at (Wp.seq (Wp.seq (Wp.text ?_))))
  refine kp 5 (.int IntKind.i64 1) ?_
  refine WpOps.nil (thenK_at (Wp.block ?_))
  refine Wp.loop (G := Nat) (fun k => layj [(0, .string s), (4, .int .i64 (nv s k)), (5, .int .i64 (k + 1 : Nat))]) (fun _ => heapOf []) (fun k => s.size - 1 - k) (fun k => k ≤ s.size - 1) 0
    (View.of [] [] _ (by decide) rfl trivial ⟨⟨by kernel_rfl, rfl⟩, ⟨congrArg (Value.int .i64) (?_ : _ = nv s 0), rfl⟩, ⟨by kernel_rfl, rfl⟩, trivial⟩) (Nat.zero_le _) ?_
  · rw [w0, nv, if_neg h128, wrs _ (by omega) (by omega)]
  intro k hk
  by_cases hlt : k + 1 < s.size
  · have d4 : decide (((k + 1 : Nat) : Int) < s.size) = true := decide_eq_true (by omega)
    have m3 : 0 ≤ ((k + 1 : Nat) : Int) := by omega
    have n3 := byte_get s (k + 1) hlt
    have hb := UInt8.toNat_lt (byteAt s (k + 1))
    have far : ¬ In (nv s k) → ¬ In (nv s (s.size - 1)) := fun h => by
      have := nv_far' s k h (s.size - 1 - k)
      rwa [show k + (s.size - 1 - k) = s.size - 1 by omega] at this
    by_cases h5 : nv s k < -1000000000000000
    · have d5 : decide (nv s k < -1000000000000000) = true := decide_eq_true h5
      rw [if_neg (far (fun h => by have := h.1; omega))]
      refine Wp.seq (Wp.seq (Wp.text ?_))
      refine kp 21 (.int IntKind.i64 (↑(k + 1) : Int)) ?_
      refine kp 22 (.string s) ?_
      refine kp 23 (.int IntKind.i64 (↑(ByteArray.size s) : Int)) ?_
      refine kp 24 (.bool true) ?_ (hop := fun _ => by_fact d4)
      refine WpOps.nil (thenK_at (on' (Wp.skip (thenK_at (Wp.seq (Wp.block (Wp.seq (Wp.seq (Wp.text ?_)))))))))
      refine kp 27 (.int IntKind.i64 (nv s k)) ?_
      refine kp 28 (.bool true) ?_ (hop := fun _ => by_fact d5)
      refine kp 29 (.bool true) ?_
      refine um 30 ?_
      refine um 31 ?_
      refine kp 32 (.bool true) ?_
      refine WpOps.nil (thenK_at (on' (Wp.seq (Wp.text ?_))))
      refine kp 2 (.int IntKind.i64 0) ?_
      refine kp 3 (.int IntKind.i64 5) ?_
      refine WpOps.nil (thenK_at (Wp.ret (thenK_ret (blockK_ret (thenK_ret (thenK_ret (blockK_ret (thenK_ret ?_))))))))
      refine endK_retn [Value.int IntKind.i64 0, Value.int IntKind.i64 5] (Value.tuple #[Value.int IntKind.i64 0, Value.int IntKind.i64 5]) (by kernel_rfl) (by kernel_rfl) ?_
      rfl
    · have d5 : decide (nv s k < -1000000000000000) = false := decide_eq_false h5
      by_cases h6 : nv s k > 1000000000000000
      · have d6 : decide (nv s k > 1000000000000000) = true := decide_eq_true h6
        rw [if_neg (far (fun h => by have := h.2; omega))]
        refine Wp.seq (Wp.seq (Wp.text ?_))
        refine kp 21 (.int IntKind.i64 (↑(k + 1) : Int)) ?_
        refine kp 22 (.string s) ?_
        refine kp 23 (.int IntKind.i64 (↑(ByteArray.size s) : Int)) ?_
        refine kp 24 (.bool true) ?_ (hop := fun _ => by_fact d4)
        refine WpOps.nil (thenK_at (on' (Wp.skip (thenK_at (Wp.seq (Wp.block (Wp.seq (Wp.seq (Wp.text ?_)))))))))
        refine kp 27 (.int IntKind.i64 (nv s k)) ?_
        refine kp 28 (.bool false) ?_ (hop := fun _ => by_fact d5)
        refine kp 29 (.bool false) ?_
        refine kp 30 (.int IntKind.i64 (nv s k)) ?_
        refine kp 31 (.bool true) ?_ (hop := fun _ => by_fact d6)
        refine kp 32 (.bool true) ?_
        refine WpOps.nil (thenK_at (on' (Wp.seq (Wp.text ?_))))
        refine kp 2 (.int IntKind.i64 0) ?_
        refine kp 3 (.int IntKind.i64 5) ?_
        refine WpOps.nil (thenK_at (Wp.ret (thenK_ret (blockK_ret (thenK_ret (thenK_ret (blockK_ret (thenK_ret ?_))))))))
        refine endK_retn [Value.int IntKind.i64 0, Value.int IntKind.i64 5] (Value.tuple #[Value.int IntKind.i64 0, Value.int IntKind.i64 5]) (by kernel_rfl) (by kernel_rfl) ?_
        rfl
      · have d6 : decide (nv s k > 1000000000000000) = false := decide_eq_false h6
        have e1 : IntKind.i64.wrap (IntKind.i64.wrap (nv s k * 256) + IntKind.i64.wrap ((byteAt s (k + 1)).toNat : Int)) = nv s (k + 1) := by
          rw [wrs (nv s k * 256) (by omega) (by omega), wr ((byteAt s (k + 1)).toNat : Int) (by omega) (by omega), wrs _ (by omega) (by omega)]
          rfl
        refine Wp.seq (Wp.seq (Wp.text ?_))
        refine kp 21 (.int IntKind.i64 (↑(k + 1) : Int)) ?_
        refine kp 22 (.string s) ?_
        refine kp 23 (.int IntKind.i64 (↑(ByteArray.size s) : Int)) ?_
        refine kp 24 (.bool true) ?_ (hop := fun _ => by_fact d4)
        refine WpOps.nil (thenK_at (on' (Wp.skip (thenK_at (Wp.seq (Wp.block (Wp.seq (Wp.seq (Wp.text ?_)))))))))
        refine kp 27 (.int IntKind.i64 (nv s k)) ?_
        refine kp 28 (.bool false) ?_ (hop := fun _ => by_fact d5)
        refine kp 29 (.bool false) ?_
        refine kp 30 (.int IntKind.i64 (nv s k)) ?_
        refine kp 31 (.bool false) ?_ (hop := fun _ => by_fact d6)
        refine kp 32 (.bool false) ?_
        refine WpOps.nil (thenK_at (off' (Wp.skip (thenK_at (Wp.text ?_)))))
        refine kp 33 (.int IntKind.i64 (nv s k)) ?_
        refine kp 34 (.int IntKind.i64 (IntKind.wrap .i64 (nv s k * 256))) ?_
        refine kp 35 (.string s) ?_
        refine kp 36 (.int IntKind.i64 (↑(k + 1) : Int)) ?_
        refine kp 37 (.int IntKind.u8 (↑(UInt8.toNat (byteAt s (k + 1))) : Int)) ?_ (hop := fun _ => o_indexStr m3 n3)
        refine kp 38 (.int IntKind.i64 (IntKind.wrap .i64 (↑(UInt8.toNat (byteAt s (k + 1))) : Int))) ?_
        refine kp 39 (.int IntKind.i64 (IntKind.wrap .i64 (IntKind.wrap .i64 (nv s k * 256) + IntKind.wrap .i64 (↑(UInt8.toNat (byteAt s (k + 1))) : Int)))) ?_
        refine kp 4 (.int IntKind.i64 (IntKind.wrap .i64 (IntKind.wrap .i64 (nv s k * 256) + IntKind.wrap .i64 (↑(UInt8.toNat (byteAt s (k + 1))) : Int)))) ?_
        refine WpOps.nil (blockK_norm (thenK_at (Wp.text ?_)))
        refine kp 25 (.int IntKind.i64 (↑(k + 1) : Int)) ?_
        refine kp 26 (.int IntKind.i64 (IntKind.wrap .i64 ((↑(k + 1) : Int) + 1))) ?_
        refine kp 5 (.int IntKind.i64 (IntKind.wrap .i64 ((↑(k + 1) : Int) + 1))) ?_
        refine WpOps.nil (thenK_at ?_)
        exact ⟨k + 1, by omega, by omega, View.of [] [] _ (by decide) rfl trivial ⟨⟨by kernel_rfl, rfl⟩, ⟨congrArg (Value.int .i64) e1, rfl⟩, ⟨congrArg (Value.int .i64) (wr _ (by omega) (by omega)), rfl⟩, trivial⟩⟩
  · have d4 : decide (((k + 1 : Nat) : Int) < s.size) = false := decide_eq_false (by omega)
    obtain rfl : k = s.size - 1 := by omega
    by_cases hi : In (nv s (s.size - 1))
    · have d5 : decide (nv s (s.size - 1) < -1000000000000000) = false := decide_eq_false (by have := hi.1; omega)
      have d6 : decide (nv s (s.size - 1) > 1000000000000000) = false := decide_eq_false (by have := hi.2; omega)
      rw [if_pos hi]
      refine Wp.seq (Wp.seq (Wp.text ?_))
      refine kp 21 (.int IntKind.i64 (↑(ByteArray.size s - 1 + 1) : Int)) ?_
      refine kp 22 (.string s) ?_
      refine kp 23 (.int IntKind.i64 (↑(ByteArray.size s) : Int)) ?_
      refine kp 24 (.bool false) ?_ (hop := fun _ => by_fact d4)
      refine WpOps.nil (thenK_at (off' (Wp.exit (thenK_exit (thenK_exit (blockK_hit (thenK_at (Wp.seq (Wp.seq (Wp.text ?_))))))))))
      refine kp 40 (.int IntKind.i64 (nv s (ByteArray.size s - 1))) ?_
      refine kp 41 (.bool false) ?_ (hop := fun _ => by_fact d5)
      refine kp 42 (.bool false) ?_
      refine kp 43 (.int IntKind.i64 (nv s (ByteArray.size s - 1))) ?_
      refine kp 44 (.bool false) ?_ (hop := fun _ => by_fact d6)
      refine kp 45 (.bool false) ?_
      refine WpOps.nil (thenK_at (off' (Wp.skip (thenK_at (Wp.seq (Wp.text ?_))))))
      refine kp 46 (.int IntKind.i64 (nv s (ByteArray.size s - 1))) ?_
      refine kp 2 (.int IntKind.i64 (nv s (ByteArray.size s - 1))) ?_
      refine kp 3 (.int IntKind.i64 0) ?_
      refine WpOps.nil (thenK_at (Wp.ret ?_))
      refine endK_retn [Value.int IntKind.i64 (nv s (ByteArray.size s - 1)), Value.int IntKind.i64 0] (Value.tuple #[Value.int IntKind.i64 (nv s (ByteArray.size s - 1)), Value.int IntKind.i64 0]) (by kernel_rfl) (by kernel_rfl) ?_
      rfl
    · rw [if_neg hi]
      by_cases h3 : nv s (s.size - 1) < -1000000000000000
      · have d5 : decide (nv s (s.size - 1) < -1000000000000000) = true := decide_eq_true h3
        refine Wp.seq (Wp.seq (Wp.text ?_))
        refine kp 21 (.int IntKind.i64 (↑(ByteArray.size s - 1 + 1) : Int)) ?_
        refine kp 22 (.string s) ?_
        refine kp 23 (.int IntKind.i64 (↑(ByteArray.size s) : Int)) ?_
        refine kp 24 (.bool false) ?_ (hop := fun _ => by_fact d4)
        refine WpOps.nil (thenK_at (off' (Wp.exit (thenK_exit (thenK_exit (blockK_hit (thenK_at (Wp.seq (Wp.seq (Wp.text ?_))))))))))
        refine kp 40 (.int IntKind.i64 (nv s (ByteArray.size s - 1))) ?_
        refine kp 41 (.bool true) ?_ (hop := fun _ => by_fact d5)
        refine kp 42 (.bool true) ?_
        refine um 43 ?_
        refine um 44 ?_
        refine kp 45 (.bool true) ?_
        refine WpOps.nil (thenK_at (on' (Wp.seq (Wp.text ?_))))
        refine kp 2 (.int IntKind.i64 0) ?_
        refine kp 3 (.int IntKind.i64 5) ?_
        refine WpOps.nil (thenK_at (Wp.ret (thenK_ret ?_)))
        refine endK_retn [Value.int IntKind.i64 0, Value.int IntKind.i64 5] (Value.tuple #[Value.int IntKind.i64 0, Value.int IntKind.i64 5]) (by kernel_rfl) (by kernel_rfl) ?_
        rfl
      · have d5 : decide (nv s (s.size - 1) < -1000000000000000) = false := decide_eq_false h3
        have d6 : decide (nv s (s.size - 1) > 1000000000000000) = true := decide_eq_true (by unfold In at hi; omega)
        refine Wp.seq (Wp.seq (Wp.text ?_))
        refine kp 21 (.int IntKind.i64 (↑(ByteArray.size s - 1 + 1) : Int)) ?_
        refine kp 22 (.string s) ?_
        refine kp 23 (.int IntKind.i64 (↑(ByteArray.size s) : Int)) ?_
        refine kp 24 (.bool false) ?_ (hop := fun _ => by_fact d4)
        refine WpOps.nil (thenK_at (off' (Wp.exit (thenK_exit (thenK_exit (blockK_hit (thenK_at (Wp.seq (Wp.seq (Wp.text ?_))))))))))
        refine kp 40 (.int IntKind.i64 (nv s (ByteArray.size s - 1))) ?_
        refine kp 41 (.bool false) ?_ (hop := fun _ => by_fact d5)
        refine kp 42 (.bool false) ?_
        refine kp 43 (.int IntKind.i64 (nv s (ByteArray.size s - 1))) ?_
        refine kp 44 (.bool true) ?_ (hop := fun _ => by_fact d6)
        refine kp 45 (.bool true) ?_
        refine WpOps.nil (thenK_at (on' (Wp.seq (Wp.text ?_))))
        refine kp 2 (.int IntKind.i64 0) ?_
        refine kp 3 (.int IntKind.i64 5) ?_
        refine WpOps.nil (thenK_at (Wp.ret (thenK_ret ?_)))
        refine endK_retn [Value.int IntKind.i64 0, Value.int IntKind.i64 5] (Value.tuple #[Value.int IntKind.i64 0, Value.int IntKind.i64 5]) (by kernel_rfl) (by kernel_rfl) ?_
        rfl
theorem number21 (s : ByteArray) (hs : s.size ≤ 140737488351232) : Fun E 21 [.string s] (numV s) := by
  unfold numV
  by_cases h : 1 ≤ s.size ∧ s.size ≤ 8
  · rw [if_pos h]
    by_cases h128 : (byteAt s 0).toNat < 128
    · exact number21lo s h h128
    · exact number21hi s h h128
  · rw [if_neg h]
    refine Fun.of f21 rfl (of_decide_eq_true (by kernel_rfl)) rfl ?_
    by_cases h1 : s.size < 1
    · have d1 : decide ((s.size : Int) < 1) = true := decide_eq_true (by omega)
      refine Wp.seq (Wp.text ?_)
      refine kp 2 (.int IntKind.i64 0) ?_
      refine kp 3 (.int IntKind.i64 0) ?_
      refine WpOps.nil (thenK_at (Wp.seq (Wp.seq (Wp.text ?_))))
      refine kp 6 (.string s) ?_
      refine kp 7 (.int IntKind.i64 (↑(ByteArray.size s) : Int)) ?_
      refine kp 8 (.bool true) ?_ (hop := fun _ => by_fact d1)
      refine kp 9 (.bool true) ?_
      refine um 10 ?_
      refine um 11 ?_
      refine um 12 ?_
      refine kp 13 (.bool true) ?_
      refine WpOps.nil (thenK_at (on' (Wp.seq (Wp.text ?_))))
      refine kp 2 (.int IntKind.i64 0) ?_
      refine kp 3 (.int IntKind.i64 1) ?_
      refine WpOps.nil (thenK_at (Wp.ret (thenK_ret ?_)))
      refine endK_retn [Value.int IntKind.i64 0, Value.int IntKind.i64 1] (Value.tuple #[Value.int IntKind.i64 0, Value.int IntKind.i64 1]) (by kernel_rfl) (by kernel_rfl) ?_
      rfl
    · have d1 : decide ((s.size : Int) < 1) = false := decide_eq_false (by omega)
      have d2 : decide ((s.size : Int) > 8) = true := decide_eq_true (by omega)
      refine Wp.seq (Wp.text ?_)
      refine kp 2 (.int IntKind.i64 0) ?_
      refine kp 3 (.int IntKind.i64 0) ?_
      refine WpOps.nil (thenK_at (Wp.seq (Wp.seq (Wp.text ?_))))
      refine kp 6 (.string s) ?_
      refine kp 7 (.int IntKind.i64 (↑(ByteArray.size s) : Int)) ?_
      refine kp 8 (.bool false) ?_ (hop := fun _ => by_fact d1)
      refine kp 9 (.bool false) ?_
      refine kp 10 (.string s) ?_
      refine kp 11 (.int IntKind.i64 (↑(ByteArray.size s) : Int)) ?_
      refine kp 12 (.bool true) ?_ (hop := fun _ => by_fact d2)
      refine kp 13 (.bool true) ?_
      refine WpOps.nil (thenK_at (on' (Wp.seq (Wp.text ?_))))
      refine kp 2 (.int IntKind.i64 0) ?_
      refine kp 3 (.int IntKind.i64 1) ?_
      refine WpOps.nil (thenK_at (Wp.ret (thenK_ret ?_)))
      refine endK_retn [Value.int IntKind.i64 0, Value.int IntKind.i64 1] (Value.tuple #[Value.int IntKind.i64 0, Value.int IntKind.i64 1]) (by kernel_rfl) (by kernel_rfl) ?_
      rfl
end Go.Proofs.Ythhlfddpacmhfaa.D
