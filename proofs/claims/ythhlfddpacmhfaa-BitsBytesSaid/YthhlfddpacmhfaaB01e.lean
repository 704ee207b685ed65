/- Bits: Sum, Spoil of both; the law BitsBytes. -/
import Derived.Test.YthhlfddpacmhfaaFwLem
import Derived.Test.YthhlfddpacmhfaaB01d
namespace Go.Proofs.Ythhlfddpacmhfaa.D
open Go.Fw Go.RowKit

def sumV (b : ByteArray) : Value := if b.size ≤ 4000 then .tuple #[.string (sumS b), .int .i64 0] else .tuple #[.string ⟨#[]⟩, .int .i64 2]
theorem f10 : E.funcs 10 = some Try.f10 := by kernel_rfl
theorem sum10 (b : ByteArray) : Fun E 10 [.string b] (sumV b) := by
  unfold sumV
  by_cases hb : b.size ≤ 4000
  · rw [if_pos hb]
    refine Fun.of f10 rfl (of_decide_eq_true (by kernel_rfl)) rfl ?_
    have c0 : decide ((b.size : Int) > 4000) = false := decide_eq_false (by omega)
    refine Wp.seq (Wp.text ?_)
    refine kp 2 (.string (ByteArray.mk #[])) ?_
    refine kp 3 (.int IntKind.i64 0) ?_
    refine WpOps.nil (thenK_at (Wp.seq (Wp.seq (Wp.text ?_))))
    refine kp 7 (.string b) ?_
    refine kp 8 (.int IntKind.i64 (↑(ByteArray.size b) : Int)) ?_
    refine kp 9 (.bool false) ?_ (hop := fun _ => by_fact c0)
    refine WpOps.nil (thenK_at (off' (Wp.skip (thenK_at (Wp.seq (Wp.text ?_))))))
    refine kp 4 (.int IntKind.i64 0) ?_
    refine kp 5 (.int IntKind.i64 0) ?_
    refine WpOps.nil (thenK_at (Wp.seq (Wp.seq (Wp.text ?_))))
    refine kp 10 (.string b) ?_
    refine kp 11 (.int IntKind.i64 (↑(ByteArray.size b) : Int)) ?_
    refine kp 12 (.int IntKind.i64 0) ?_
    refine WpOps.nil (thenK_at (Wp.block ?_))
    refine Wp.loop (G := Nat) (fun i => layj [(0, .string b), (4, .int .i64 (sumAt b i).1), (5, .int .i64 (sumAt b i).2), (11, .int .i64 b.size), (12, .int .i64 i)]) (fun _ => heapOf []) (fun i => b.size - i) (fun i => i ≤ b.size) 0
      (View.of [] [] _ List.nodup_nil rfl trivial ⟨⟨by kernel_rfl, rfl⟩, ⟨by kernel_rfl, rfl⟩, ⟨by kernel_rfl, rfl⟩, ⟨by kernel_rfl, rfl⟩, ⟨by kernel_rfl, rfl⟩, trivial⟩) (Nat.zero_le _) ?_
    intro i hi
    refine Wp.seq (Wp.text ?_)
    refine kp 13 (.bool (decide ((↑i : Int) < (↑(ByteArray.size b) : Int)))) ?_
    refine WpOps.nil (thenK_at (Wp.seq ?_))
    refine Wp.split (decide ((↑i : Int) < (↑(ByteArray.size b) : Int))) (by kernel_rfl) (fun hc => ?_) (fun hc => ?_)
    · have hlt : (i : Int) < b.size := of_decide_eq_true hc
      have h0 : 0 ≤ (i : Int) ∧ (i : Int) < b.size := ⟨Int.natCast_nonneg _, hlt⟩
      have hv := byte_get b i (by omega)
      refine Wp.skip (thenK_at (Wp.seq (Wp.block (Wp.seq (Wp.text ?_)))))
      refine kp 14 (.int IntKind.i64 (↑i : Int)) ?_
      refine kp 6 (.int IntKind.i64 (↑i : Int)) ?_
      refine WpOps.nil (thenK_at (Wp.seq (Wp.text ?_)))
      refine kp 15 (.int IntKind.i64 (Prod.fst (sumAt b i))) ?_
      refine kp 16 (.string b) ?_
      refine kp 17 (.int IntKind.i64 (↑i : Int)) ?_
      refine kp 18 (.int IntKind.u8 (↑(UInt8.toNat (byteAt b i)) : Int)) ?_ (hop := fun _ => o_indexStr (of_decide_eq_true (by kernel_rfl)) hv)
      refine kp 19 (.int IntKind.i64 (IntKind.wrap .i64 (↑(UInt8.toNat (byteAt b i)) : Int))) ?_
      refine kp 20 (.int IntKind.i64 (IntKind.wrap .i64 (Prod.fst (sumAt b i) + IntKind.wrap .i64 (↑(UInt8.toNat (byteAt b i)) : Int)))) ?_
      refine kp 21 (.int IntKind.i64 (Int.tmod (IntKind.wrap .i64 (Prod.fst (sumAt b i) + IntKind.wrap .i64 (↑(UInt8.toNat (byteAt b i)) : Int))) 255)) ?_
      refine kp 4 (.int IntKind.i64 (Int.tmod (IntKind.wrap .i64 (Prod.fst (sumAt b i) + IntKind.wrap .i64 (↑(UInt8.toNat (byteAt b i)) : Int))) 255)) ?_
      refine WpOps.nil (thenK_at (Wp.text ?_))
      refine kp 22 (.int IntKind.i64 (Prod.snd (sumAt b i))) ?_
      refine kp 23 (.int IntKind.i64 (Int.tmod (IntKind.wrap .i64 (Prod.fst (sumAt b i) + IntKind.wrap .i64 (↑(UInt8.toNat (byteAt b i)) : Int))) 255)) ?_
      refine kp 24 (.int IntKind.i64 (IntKind.wrap .i64 (Prod.snd (sumAt b i) + Int.tmod (IntKind.wrap .i64 (Prod.fst (sumAt b i) + IntKind.wrap .i64 (↑(UInt8.toNat (byteAt b i)) : Int))) 255))) ?_
      refine kp 25 (.int IntKind.i64 (Int.tmod (IntKind.wrap .i64 (Prod.snd (sumAt b i) + Int.tmod (IntKind.wrap .i64 (Prod.fst (sumAt b i) + IntKind.wrap .i64 (↑(UInt8.toNat (byteAt b i)) : Int))) 255)) 255)) ?_
      refine kp 5 (.int IntKind.i64 (Int.tmod (IntKind.wrap .i64 (Prod.snd (sumAt b i) + Int.tmod (IntKind.wrap .i64 (Prod.fst (sumAt b i) + IntKind.wrap .i64 (↑(UInt8.toNat (byteAt b i)) : Int))) 255)) 255)) ?_
      refine WpOps.nil (blockK_norm (thenK_at (Wp.text ?_)))
      refine kp 26 (.int IntKind.i64 (IntKind.wrap .i64 ((↑i : Int) + 1))) ?_
      refine kp 12 (.int IntKind.i64 (IntKind.wrap .i64 ((↑i : Int) + 1))) ?_
      refine WpOps.nil (thenK_at ?_)
      exact ⟨i + 1, by omega, by omega, View.of [] [] _ List.nodup_nil rfl trivial ⟨⟨by kernel_rfl, rfl⟩, ⟨by kernel_rfl, rfl⟩, ⟨by kernel_rfl, rfl⟩, ⟨by kernel_rfl, rfl⟩, ⟨congrArg (Value.int .i64) (wr _ (by omega) (by omega)), rfl⟩, trivial⟩⟩
    · refine Wp.exit (thenK_exit (thenK_exit (blockK_hit (thenK_at (Wp.seq (Wp.text ?_))))))
      refine kp 27 (.int IntKind.i64 (Prod.fst (sumAt b i))) ?_
      refine kp 28 (.int IntKind.u8 (IntKind.wrap .u8 (Prod.fst (sumAt b i)))) ?_
      refine kp 29 (.int IntKind.i64 (Prod.snd (sumAt b i))) ?_
      refine kp 30 (.int IntKind.u8 (IntKind.wrap .u8 (Prod.snd (sumAt b i)))) ?_
      refine md 31 (.slice (some ⟨0, 0, none⟩) 2 2) (Blk.mk 5 true [Value.int .u8 (IntKind.wrap .u8 (Prod.fst (sumAt b i))), Value.int .u8 (IntKind.wrap .u8 (Prod.snd (sumAt b i)))]) ?_
      refine kp 32 (.string (ByteArray.mk #[UInt8.ofNat (Int.toNat (IntKind.wrap .u8 (Prod.fst (sumAt b i)))), UInt8.ofNat (Int.toNat (IntKind.wrap .u8 (Prod.snd (sumAt b i))))])) ?_
      refine kp 2 (.string (ByteArray.mk #[UInt8.ofNat (Int.toNat (IntKind.wrap .u8 (Prod.fst (sumAt b i)))), UInt8.ofNat (Int.toNat (IntKind.wrap .u8 (Prod.snd (sumAt b i))))])) ?_
      refine kp 3 (.int IntKind.i64 0) ?_
      refine WpOps.nil (thenK_at (Wp.ret ?_))
      refine endK_retn [Value.string (ByteArray.mk #[UInt8.ofNat (Int.toNat (IntKind.wrap IntKind.u8 (Prod.fst (sumAt b i)))), UInt8.ofNat (Int.toNat (IntKind.wrap IntKind.u8 (Prod.snd (sumAt b i))))]), Value.int IntKind.i64 0] (Value.tuple #[Value.string (ByteArray.mk #[UInt8.ofNat (Int.toNat (IntKind.wrap IntKind.u8 (Prod.fst (sumAt b i)))), UInt8.ofNat (Int.toNat (IntKind.wrap IntKind.u8 (Prod.snd (sumAt b i))))]), Value.int IntKind.i64 0]) (by kernel_rfl) (by kernel_rfl) ?_
      obtain rfl : i = b.size := by have := of_decide_eq_false hc; omega
      rfl
  · rw [if_neg hb]
    refine Fun.of f10 rfl (of_decide_eq_true (by kernel_rfl)) rfl ?_
    have c0 : decide ((b.size : Int) > 4000) = true := decide_eq_true (by omega)
    refine Wp.seq (Wp.text ?_)
    refine kp 2 (.string (ByteArray.mk #[])) ?_
    refine kp 3 (.int IntKind.i64 0) ?_
    refine WpOps.nil (thenK_at (Wp.seq (Wp.seq (Wp.text ?_))))
    refine kp 7 (.string b) ?_
    refine kp 8 (.int IntKind.i64 (↑(ByteArray.size b) : Int)) ?_
    refine kp 9 (.bool true) ?_ (hop := fun _ => by_fact c0)
    refine WpOps.nil (thenK_at (on' (Wp.seq (Wp.text ?_))))
    refine kp 2 (.string (ByteArray.mk #[])) ?_
    refine kp 3 (.int IntKind.i64 2) ?_
    refine WpOps.nil (thenK_at (Wp.ret (thenK_ret ?_)))
    refine endK_retn [Value.string (ByteArray.mk #[]), Value.int IntKind.i64 2] (Value.tuple #[Value.string (ByteArray.mk #[]), Value.int IntKind.i64 2]) (by kernel_rfl) (by kernel_rfl) ?_
    rfl
theorem f22 : E.funcs 22 = some Try.f22 := by kernel_rfl
theorem sum22 (b : ByteArray) : Fun E 22 [.string b] (sumV b) := by
  unfold sumV
  by_cases hb : b.size ≤ 4000
  · rw [if_pos hb]
    refine Fun.of f22 rfl (of_decide_eq_true (by kernel_rfl)) rfl ?_
    have c0 : decide ((b.size : Int) > 4000) = false := decide_eq_false (by omega)
    refine Wp.seq (Wp.text ?_)
    refine kp 2 (.string (ByteArray.mk #[])) ?_
    refine kp 3 (.int IntKind.i64 0) ?_
    refine WpOps.nil (thenK_at (Wp.seq (Wp.seq (Wp.text ?_))))
    refine kp 7 (.string b) ?_
    refine kp 8 (.int IntKind.i64 (↑(ByteArray.size b) : Int)) ?_
    refine kp 9 (.bool false) ?_ (hop := fun _ => by_fact c0)
    refine WpOps.nil (thenK_at (off' (Wp.skip (thenK_at (Wp.seq (Wp.text ?_))))))
    refine kp 4 (.int IntKind.i64 0) ?_
    refine WpOps.nil (thenK_at (Wp.seq (Wp.text ?_)))
    refine kp 5 (.int IntKind.i64 0) ?_
    refine WpOps.nil (thenK_at (Wp.seq (Wp.seq (Wp.text ?_))))
    refine kp 6 (.int IntKind.i64 0) ?_
    refine WpOps.nil (thenK_at (Wp.block ?_))
    refine Wp.loop (G := Nat) (fun i => layj [(0, .string b), (4, .int .i64 (sumAt b i).1), (5, .int .i64 (sumAt b i).2), (6, .int .i64 i)]) (fun _ => heapOf []) (fun i => b.size - i) (fun i => i ≤ b.size) 0
      (View.of [] [] _ List.nodup_nil rfl trivial ⟨⟨by kernel_rfl, rfl⟩, ⟨by kernel_rfl, rfl⟩, ⟨by kernel_rfl, rfl⟩, ⟨by kernel_rfl, rfl⟩, trivial⟩) (Nat.zero_le _) ?_
    intro i hi
    refine Wp.seq (Wp.seq (Wp.text ?_))
    refine kp 10 (.int IntKind.i64 (↑i : Int)) ?_
    refine kp 11 (.string b) ?_
    refine kp 12 (.int IntKind.i64 (↑(ByteArray.size b) : Int)) ?_
    refine kp 13 (.bool (decide ((↑i : Int) < (↑(ByteArray.size b) : Int)))) ?_
    refine WpOps.nil (thenK_at ?_)
    refine Wp.split (decide ((↑i : Int) < (↑(ByteArray.size b) : Int))) (by kernel_rfl) (fun hc => ?_) (fun hc => ?_)
    · have hlt : (i : Int) < b.size := of_decide_eq_true hc
      have h0 : 0 ≤ (i : Int) ∧ (i : Int) < b.size := ⟨Int.natCast_nonneg _, hlt⟩
      have hv := byte_get b i (by omega)
      refine Wp.skip (thenK_at (Wp.seq (Wp.block (Wp.seq (Wp.text ?_)))))
      refine kp 16 (.int IntKind.i64 (Prod.fst (sumAt b i))) ?_
      refine kp 17 (.string b) ?_
      refine kp 18 (.int IntKind.i64 (↑i : Int)) ?_
      refine kp 19 (.int IntKind.u8 (↑(UInt8.toNat (byteAt b i)) : Int)) ?_ (hop := fun _ => o_indexStr (of_decide_eq_true (by kernel_rfl)) hv)
      refine kp 20 (.int IntKind.i64 (IntKind.wrap .i64 (↑(UInt8.toNat (byteAt b i)) : Int))) ?_
      refine kp 21 (.int IntKind.i64 (IntKind.wrap .i64 (Prod.fst (sumAt b i) + IntKind.wrap .i64 (↑(UInt8.toNat (byteAt b i)) : Int)))) ?_
      refine kp 22 (.int IntKind.i64 (Int.tmod (IntKind.wrap .i64 (Prod.fst (sumAt b i) + IntKind.wrap .i64 (↑(UInt8.toNat (byteAt b i)) : Int))) 255)) ?_
      refine kp 4 (.int IntKind.i64 (Int.tmod (IntKind.wrap .i64 (Prod.fst (sumAt b i) + IntKind.wrap .i64 (↑(UInt8.toNat (byteAt b i)) : Int))) 255)) ?_
      refine WpOps.nil (thenK_at (Wp.text ?_))
      refine kp 23 (.int IntKind.i64 (Prod.snd (sumAt b i))) ?_
      refine kp 24 (.int IntKind.i64 (Int.tmod (IntKind.wrap .i64 (Prod.fst (sumAt b i) + IntKind.wrap .i64 (↑(UInt8.toNat (byteAt b i)) : Int))) 255)) ?_
      refine kp 25 (.int IntKind.i64 (IntKind.wrap .i64 (Prod.snd (sumAt b i) + Int.tmod (IntKind.wrap .i64 (Prod.fst (sumAt b i) + IntKind.wrap .i64 (↑(UInt8.toNat (byteAt b i)) : Int))) 255))) ?_
      refine kp 26 (.int IntKind.i64 (Int.tmod (IntKind.wrap .i64 (Prod.snd (sumAt b i) + Int.tmod (IntKind.wrap .i64 (Prod.fst (sumAt b i) + IntKind.wrap .i64 (↑(UInt8.toNat (byteAt b i)) : Int))) 255)) 255)) ?_
      refine kp 5 (.int IntKind.i64 (Int.tmod (IntKind.wrap .i64 (Prod.snd (sumAt b i) + Int.tmod (IntKind.wrap .i64 (Prod.fst (sumAt b i) + IntKind.wrap .i64 (↑(UInt8.toNat (byteAt b i)) : Int))) 255)) 255)) ?_
      refine WpOps.nil (blockK_norm (thenK_at (Wp.text ?_)))
      refine kp 14 (.int IntKind.i64 (↑i : Int)) ?_
      refine kp 15 (.int IntKind.i64 (IntKind.wrap .i64 ((↑i : Int) + 1))) ?_
      refine kp 6 (.int IntKind.i64 (IntKind.wrap .i64 ((↑i : Int) + 1))) ?_
      refine WpOps.nil (thenK_at ?_)
      exact ⟨i + 1, by omega, by omega, View.of [] [] _ List.nodup_nil rfl trivial ⟨⟨by kernel_rfl, rfl⟩, ⟨by kernel_rfl, rfl⟩, ⟨by kernel_rfl, rfl⟩, ⟨congrArg (Value.int .i64) (wr _ (by omega) (by omega)), rfl⟩, trivial⟩⟩
    · refine Wp.exit (thenK_exit (thenK_exit (blockK_hit (thenK_at (Wp.seq (Wp.text ?_))))))
      refine kp 27 (.int IntKind.i64 (Prod.fst (sumAt b i))) ?_
      refine kp 28 (.int IntKind.u8 (IntKind.wrap .u8 (Prod.fst (sumAt b i)))) ?_
      refine kp 29 (.int IntKind.i64 (Prod.snd (sumAt b i))) ?_
      refine kp 30 (.int IntKind.u8 (IntKind.wrap .u8 (Prod.snd (sumAt b i)))) ?_
      refine md 31 (.slice (some ⟨0, 0, none⟩) 2 2) (Blk.mk 5 true [Value.int .u8 (IntKind.wrap .u8 (Prod.fst (sumAt b i))), Value.int .u8 (IntKind.wrap .u8 (Prod.snd (sumAt b i)))]) ?_
      refine kp 32 (.string (ByteArray.mk #[UInt8.ofNat (Int.toNat (IntKind.wrap .u8 (Prod.fst (sumAt b i)))), UInt8.ofNat (Int.toNat (IntKind.wrap .u8 (Prod.snd (sumAt b i))))])) ?_
      refine kp 2 (.string (ByteArray.mk #[UInt8.ofNat (Int.toNat (IntKind.wrap .u8 (Prod.fst (sumAt b i)))), UInt8.ofNat (Int.toNat (IntKind.wrap .u8 (Prod.snd (sumAt b i))))])) ?_
      refine kp 3 (.int IntKind.i64 0) ?_
      refine WpOps.nil (thenK_at (Wp.ret ?_))
      refine endK_retn [Value.string (ByteArray.mk #[UInt8.ofNat (Int.toNat (IntKind.wrap IntKind.u8 (Prod.fst (sumAt b i)))), UInt8.ofNat (Int.toNat (IntKind.wrap IntKind.u8 (Prod.snd (sumAt b i))))]), Value.int IntKind.i64 0] (Value.tuple #[Value.string (ByteArray.mk #[UInt8.ofNat (Int.toNat (IntKind.wrap IntKind.u8 (Prod.fst (sumAt b i)))), UInt8.ofNat (Int.toNat (IntKind.wrap IntKind.u8 (Prod.snd (sumAt b i))))]), Value.int IntKind.i64 0]) (by kernel_rfl) (by kernel_rfl) ?_
      obtain rfl : i = b.size := by have := of_decide_eq_false hc; omega
      rfl
  · rw [if_neg hb]
    refine Fun.of f22 rfl (of_decide_eq_true (by kernel_rfl)) rfl ?_
    have c0 : decide ((b.size : Int) > 4000) = true := decide_eq_true (by omega)
    refine Wp.seq (Wp.text ?_)
    refine kp 2 (.string (ByteArray.mk #[])) ?_
    refine kp 3 (.int IntKind.i64 0) ?_
    refine WpOps.nil (thenK_at (Wp.seq (Wp.seq (Wp.text ?_))))
    refine kp 7 (.string b) ?_
    refine kp 8 (.int IntKind.i64 (↑(ByteArray.size b) : Int)) ?_
    refine kp 9 (.bool true) ?_ (hop := fun _ => by_fact c0)
    refine WpOps.nil (thenK_at (on' (Wp.seq (Wp.text ?_))))
    refine kp 2 (.string (ByteArray.mk #[])) ?_
    refine kp 3 (.int IntKind.i64 2) ?_
    refine WpOps.nil (thenK_at (Wp.ret (thenK_ret ?_)))
    refine endK_retn [Value.string (ByteArray.mk #[]), Value.int IntKind.i64 2] (Value.tuple #[Value.string (ByteArray.mk #[]), Value.int IntKind.i64 2]) (by kernel_rfl) (by kernel_rfl) ?_
    rfl
theorem f32 : E.funcs 32 = some Try.f32 := by kernel_rfl
theorem mod32 (x : Int) (n : Nat) (hn : 0 < n) (h : n ≤ 140737488351232) : Fun E 32 [.int .i64 x, .int .i64 n] (.int .i64 (modN x n)) := by
  refine Fun.of f32 rfl (of_decide_eq_true (by kernel_rfl)) rfl ?_
  have c0 : decide ((n : Int) < 1) = false := decide_eq_false (by omega)
  have n0 : (n : Int) ≠ 0 := by omega
  have h1 := Int.tmod_lt_of_pos x (b := n) (by omega)
  have h2 := Int.lt_tmod_of_pos x (b := n) (by omega)
  refine Wp.seq (Wp.text ?_)
  refine kp 4 (.int IntKind.i64 0) ?_
  refine WpOps.nil (thenK_at (Wp.seq (Wp.seq (Wp.text ?_))))
  refine kp 6 (.int IntKind.i64 (↑n : Int)) ?_
  refine kp 7 (.bool false) ?_ (hop := fun _ => by_fact c0)
  refine WpOps.nil (thenK_at (off' (Wp.skip (thenK_at (Wp.seq (Wp.text ?_))))))
  refine kp 8 (.int IntKind.i64 x) ?_
  refine kp 9 (.int IntKind.i64 (↑n : Int)) ?_
  refine kp 10 (.int IntKind.i64 (Int.tmod x (↑n : Int))) ?_ (hop := fun _ => o_rem n0)
  refine kp 5 (.int IntKind.i64 (Int.tmod x (↑n : Int))) ?_
  refine WpOps.nil (thenK_at (Wp.seq (Wp.seq (Wp.text ?_))))
  refine kp 11 (.int IntKind.i64 (Int.tmod x (↑n : Int))) ?_
  refine kp 12 (.bool (decide (Int.tmod x (↑n : Int) < 0))) ?_
  refine WpOps.nil (thenK_at ?_)
  refine Wp.split (decide (Int.tmod x (↑n : Int) < 0)) (by kernel_rfl) (fun hc => ?_) (fun hc => ?_)
  · have hm : modN x n = x.tmod n + n := if_pos (of_decide_eq_true hc)
    have hw : IntKind.i64.wrap (x.tmod n + n) = modN x n := by rw [hm, wr _ (by have := of_decide_eq_true hc; omega) (by have := of_decide_eq_true hc; omega)]
    refine Wp.text ?_
    refine kp 13 (.int IntKind.i64 (Int.tmod x (↑n : Int))) ?_
    refine kp 14 (.int IntKind.i64 (↑n : Int)) ?_
    refine kp 15 (.int IntKind.i64 (IntKind.wrap .i64 (Int.tmod x (↑n : Int) + (↑n : Int)))) ?_
    refine kp 5 (.int IntKind.i64 (IntKind.wrap .i64 (Int.tmod x (↑n : Int) + (↑n : Int)))) ?_
    refine WpOps.nil (thenK_at (Wp.seq (Wp.text ?_)))
    refine kp 16 (.int IntKind.i64 (IntKind.wrap .i64 (Int.tmod x (↑n : Int) + (↑n : Int)))) ?_
    refine kp 4 (.int IntKind.i64 (IntKind.wrap .i64 (Int.tmod x (↑n : Int) + (↑n : Int)))) ?_
    refine WpOps.nil (thenK_at (Wp.ret ?_))
    refine endK_retn [Value.int IntKind.i64 (IntKind.wrap IntKind.i64 (Int.tmod x (↑n : Int) + (↑n : Int)))] (Value.int IntKind.i64 (IntKind.wrap IntKind.i64 (Int.tmod x (↑n : Int) + (↑n : Int)))) (by kernel_rfl) (by kernel_rfl) ?_
    rw [hw]
    rfl
  · have hm : modN x n = x.tmod n := if_neg (of_decide_eq_false hc)
    refine Wp.skip (thenK_at (Wp.seq (Wp.text ?_)))
    refine kp 16 (.int IntKind.i64 (Int.tmod x (↑n : Int))) ?_
    refine kp 4 (.int IntKind.i64 (Int.tmod x (↑n : Int))) ?_
    refine WpOps.nil (thenK_at (Wp.ret ?_))
    refine endK_retn [Value.int IntKind.i64 (Int.tmod x (↑n : Int))] (Value.int IntKind.i64 (Int.tmod x (↑n : Int))) (by kernel_rfl) (by kernel_rfl) ?_
    rw [hm]
    rfl
theorem place_eq (x : Int) (n : Nat) (hn : 0 < n) (h : n ≤ 140737488351232) : (IntKind.i64.wrap (x.tmod n + n)).tmod n = modN x n := by
  have h1 := Int.tmod_lt_of_pos x (b := n) (by omega)
  have h2 := Int.lt_tmod_of_pos x (b := n) (by omega)
  rw [wr _ (by omega) (by omega), Int.tmod_eq_emod_of_nonneg (by omega)]
  unfold modN
  split
  · exact Int.emod_eq_of_lt (by omega) (by omega)
  · rw [Int.add_emod_right]
    exact Int.emod_eq_of_lt (by omega) (by omega)
def spoV (b : ByteArray) (x : Int) : Value := if b.size = 0 then .tuple #[.string ⟨#[]⟩, .int .i64 0] else .tuple #[.string (spo b (modN x b.size).toNat), .int .i64 0]
theorem empty_is (b : ByteArray) (h : b.size = 0) : (b.toList == ByteArray.toList (ByteArray.mk #[])) = true := by
  rw [beq_str]
  exact decide_eq_true (ext_at h fun i hi => absurd hi (by omega))
theorem empty_not (b : ByteArray) (h : ¬ b.size = 0) : (b.toList == ByteArray.toList (ByteArray.mk #[])) = false := by
  rw [beq_str]
  exact decide_eq_false fun e => h (by rw [e]; rfl)
theorem f23 : E.funcs 23 = some Try.f23 := by kernel_rfl
theorem spoil23 (b : ByteArray) (x : Int) (hb : b.size ≤ 140737488351232) : Fun E 23 [.string b, .int .i64 x] (spoV b x) := by
  unfold spoV
  by_cases h0 : b.size = 0
  · have c0 := empty_is b h0
    rw [if_pos h0]
    refine Fun.of f23 rfl (of_decide_eq_true (by kernel_rfl)) rfl ?_
    refine Wp.seq (Wp.text ?_)
    refine kp 4 (.string (ByteArray.mk #[])) ?_
    refine kp 5 (.int IntKind.i64 0) ?_
    refine WpOps.nil (thenK_at (Wp.seq (Wp.seq (Wp.text ?_))))
    refine kp 7 (.string b) ?_
    refine kp 8 (.bool true) ?_ (hop := fun _ => by_fact c0)
    refine WpOps.nil (thenK_at (on' (Wp.seq (Wp.text ?_))))
    refine kp 4 (.string (ByteArray.mk #[])) ?_
    refine kp 5 (.int IntKind.i64 0) ?_
    refine WpOps.nil (thenK_at (Wp.ret (thenK_ret ?_)))
    refine endK_retn [Value.string (ByteArray.mk #[]), Value.int IntKind.i64 0] (Value.tuple #[Value.string (ByteArray.mk #[]), Value.int IntKind.i64 0]) (by kernel_rfl) (by kernel_rfl) ?_
    rfl
  · have c0 := empty_not b h0
    rw [if_neg h0]
    refine Fun.of f23 rfl (of_decide_eq_true (by kernel_rfl)) rfl ?_
    have c1 := mod32 x b.size (by omega) hb
    have hm := modN_in x b.size (by omega)
    obtain ⟨j, hj⟩ : ∃ j : Nat, modN x b.size = j := ⟨(modN x b.size).toNat, by omega⟩
    rw [hj] at c1 hm ⊢
    have h1 : 0 ≤ (j : Int) ∧ (j : Int) < b.size := by omega
    have h2 : 0 ≤ (j : Int) ∧ (j : Int) ≤ b.size := by omega
    have hv := byte_get b j (by omega)
    have w1 : IntKind.i64.wrap ((j : Int) + 1) = ((j + 1 : Nat) : Int) := by rw [wr _ (by omega) (by omega)]; rfl
    have s1 : (((b.extract 0 (j : Int).toNat).size + (⟨#[UInt8.ofNat (IntKind.u8.wrap (((byteAt b j).toNat : Int).tmod 255 + 1)).toNat]⟩ : ByteArray).size : Nat) : Int) ≤ 9223372036854775807 := by
      rw [ByteArray.size_extract]
      show ((_ + 1 : Nat) : Int) ≤ _
      omega
    have s2 : 0 ≤ IntKind.i64.wrap ((j : Int) + 1) ∧ IntKind.i64.wrap ((j : Int) + 1) ≤ b.size := by rw [w1]; omega
    have s3 : (((b.extract 0 (j : Int).toNat ++ (⟨#[UInt8.ofNat (IntKind.u8.wrap (((byteAt b j).toNat : Int).tmod 255 + 1)).toNat]⟩ : ByteArray)).size + (b.extract (IntKind.i64.wrap ((j : Int) + 1)).toNat b.size).size : Nat) : Int) ≤ 9223372036854775807 := by
      rw [ByteArray.size_append, ByteArray.size_extract, ByteArray.size_extract]
      show (((_ + 1) + _ : Nat) : Int) ≤ _
      omega
    refine Wp.seq (Wp.text ?_)
    refine kp 4 (.string (ByteArray.mk #[])) ?_
    refine kp 5 (.int IntKind.i64 0) ?_
    refine WpOps.nil (thenK_at (Wp.seq (Wp.seq (Wp.text ?_))))
    refine kp 7 (.string b) ?_
    refine kp 8 (.bool false) ?_ (hop := fun _ => by_fact c0)
    refine WpOps.nil (thenK_at (off' (Wp.skip (thenK_at (Wp.seq (Wp.text ?_))))))
    refine kp 9 (.int IntKind.i64 x) ?_
    refine kp 10 (.string b) ?_
    refine kp 11 (.int IntKind.i64 (↑(ByteArray.size b) : Int)) ?_
    refine fr 12 32 [Value.int .i64 x, Value.int .i64 (↑(ByteArray.size b) : Int)] ?_
    refine WpFun.of (c1) ?_
    refine kp 6 (.int IntKind.i64 (↑j : Int)) ?_
    refine WpOps.nil (thenK_at (Wp.seq ?_))
    refine Wp.region (by kernel_rfl) ?_
    refine kp 13 (.string b) ?_
    refine kp 14 (.int IntKind.i64 (↑j : Int)) ?_
    refine kp 15 (.string (ByteArray.extract b 0 (Int.toNat (↑j : Int)))) ?_ (hop := fun _ => o_cut_hi h2)
    refine kp 16 (.string b) ?_
    refine kp 17 (.int IntKind.i64 (↑j : Int)) ?_
    refine kp 18 (.int IntKind.u8 (↑(UInt8.toNat (byteAt b j)) : Int)) ?_ (hop := fun _ => o_indexStr (of_decide_eq_true (by kernel_rfl)) hv)
    refine kp 19 (.int IntKind.u8 (Int.tmod (↑(UInt8.toNat (byteAt b j)) : Int) 255)) ?_
    refine kp 20 (.int IntKind.u8 (IntKind.wrap .u8 (Int.tmod (↑(UInt8.toNat (byteAt b j)) : Int) 255 + 1))) ?_
    refine md 21 (.slice (some ⟨0, 0, none⟩) 1 1) (Blk.mk 5 true [Value.int .u8 (IntKind.wrap .u8 (Int.tmod (↑(UInt8.toNat (byteAt b j)) : Int) 255 + 1))]) ?_
    refine kp 22 (.string (ByteArray.mk #[UInt8.ofNat (Int.toNat (IntKind.wrap .u8 (Int.tmod (↑(UInt8.toNat (byteAt b j)) : Int) 255 + 1)))])) ?_
    refine kp 23 (.string (ByteArray.extract b 0 (Int.toNat (↑j : Int)) ++ ByteArray.mk #[UInt8.ofNat (Int.toNat (IntKind.wrap .u8 (Int.tmod (↑(UInt8.toNat (byteAt b j)) : Int) 255 + 1)))])) ?_ (hop := fun _ => o_add s1)
    refine kp 24 (.string b) ?_
    refine kp 25 (.int IntKind.i64 (↑j : Int)) ?_
    refine kp 26 (.int IntKind.i64 (IntKind.wrap .i64 ((↑j : Int) + 1))) ?_
    refine kp 27 (.string (ByteArray.extract b (Int.toNat (IntKind.wrap .i64 ((↑j : Int) + 1))) (ByteArray.size b))) ?_ (hop := fun _ => o_cut_lo s2)
    refine kp 28 (.string (ByteArray.extract b 0 (Int.toNat (↑j : Int)) ++ ByteArray.mk #[UInt8.ofNat (Int.toNat (IntKind.wrap .u8 (Int.tmod (↑(UInt8.toNat (byteAt b j)) : Int) 255 + 1)))] ++ ByteArray.extract b (Int.toNat (IntKind.wrap .i64 ((↑j : Int) + 1))) (ByteArray.size b))) ?_ (hop := fun _ => o_add s3)
    refine kp 4 (.string (ByteArray.extract b 0 (Int.toNat (↑j : Int)) ++ ByteArray.mk #[UInt8.ofNat (Int.toNat (IntKind.wrap .u8 (Int.tmod (↑(UInt8.toNat (byteAt b j)) : Int) 255 + 1)))] ++ ByteArray.extract b (Int.toNat (IntKind.wrap .i64 ((↑j : Int) + 1))) (ByteArray.size b))) ?_
    refine kp 5 (.int IntKind.i64 0) ?_
    refine WpOps.nil (thenK_at (Wp.ret ?_))
    refine endK_retn [Value.string (ByteArray.extract b 0 (Int.toNat (↑j : Int)) ++ ByteArray.mk #[UInt8.ofNat (Int.toNat (IntKind.wrap IntKind.u8 (Int.tmod (↑(UInt8.toNat (byteAt b j)) : Int) 255 + 1)))] ++ ByteArray.extract b (Int.toNat (IntKind.wrap IntKind.i64 ((↑j : Int) + 1))) (ByteArray.size b)), Value.int IntKind.i64 0] (Value.tuple #[Value.string (ByteArray.extract b 0 (Int.toNat (↑j : Int)) ++ ByteArray.mk #[UInt8.ofNat (Int.toNat (IntKind.wrap IntKind.u8 (Int.tmod (↑(UInt8.toNat (byteAt b j)) : Int) 255 + 1)))] ++ ByteArray.extract b (Int.toNat (IntKind.wrap IntKind.i64 ((↑j : Int) + 1))) (ByteArray.size b)), Value.int IntKind.i64 0]) (by kernel_rfl) (by kernel_rfl) ?_
    rw [w1]
    rfl
theorem spo_cells (b : ByteArray) (j : Nat) (h : j < b.size) : (byteCells b).set j (.int .u8 (nb (byteAt b j)).toNat) = byteCells (spo b j) := by
  unfold byteCells
  rw [spo_list b j h, List.map_set]
  rfl
theorem f11 : E.funcs 11 = some Try.f11 := by kernel_rfl
theorem spoil11 (b : ByteArray) (x : Int) (hb : b.size ≤ 140737488351232) : Fun E 11 [.string b, .int .i64 x] (spoV b x) := by
  unfold spoV
  by_cases h0 : b.size = 0
  · have c0 := empty_is b h0
    rw [if_pos h0]
    refine Fun.of f11 rfl (of_decide_eq_true (by kernel_rfl)) rfl ?_
    refine Wp.seq (Wp.text ?_)
    refine kp 4 (.string (ByteArray.mk #[])) ?_
    refine kp 5 (.int IntKind.i64 0) ?_
    refine WpOps.nil (thenK_at (Wp.seq (Wp.seq (Wp.text ?_))))
    refine kp 7 (.string b) ?_
    refine kp 8 (.bool true) ?_ (hop := fun _ => by_fact c0)
    refine WpOps.nil (thenK_at (on' (Wp.seq (Wp.text ?_))))
    refine kp 4 (.string (ByteArray.mk #[])) ?_
    refine kp 5 (.int IntKind.i64 0) ?_
    refine WpOps.nil (thenK_at (Wp.ret (thenK_ret ?_)))
    refine endK_retn [Value.string (ByteArray.mk #[]), Value.int IntKind.i64 0] (Value.tuple #[Value.string (ByteArray.mk #[]), Value.int IntKind.i64 0]) (by kernel_rfl) (by kernel_rfl) ?_
    rfl
  · have c0 := empty_not b h0
    rw [if_neg h0]
    refine Fun.of f11 rfl (of_decide_eq_true (by kernel_rfl)) rfl ?_
    have hm := modN_in x b.size (by omega)
    have hp := place_eq x b.size (by omega) hb
    obtain ⟨j, hj⟩ : ∃ j : Nat, modN x b.size = j := ⟨(modN x b.size).toNat, by omega⟩
    rw [hj] at hm hp ⊢
    have hpn : ((IntKind.i64.wrap (x.tmod b.size + b.size)).tmod b.size).toNat = j := by rw [hp]; rfl
    have n0 : (b.size : Int) ≠ 0 := by omega
    have n1 : ¬ (b.size : Int) = 0 := by omega
    have g1 : 0 ≤ (IntKind.i64.wrap (x.tmod b.size + b.size)).tmod b.size ∧ (IntKind.i64.wrap (x.tmod b.size + b.size)).tmod b.size < b.size := by rw [hp]; omega
    have v1 : (byteCells b)[0 + ((IntKind.i64.wrap (x.tmod b.size + b.size)).tmod b.size).toNat * 1]? = some (.int .u8 (byteAt b j).toNat) := by
      have h := byteCells_at b j (by omega)
      rw [Int.toNat_natCast] at h
      rw [hpn, h]
    have X : ∀ v : Value, true = true ∧ 0 + ((IntKind.i64.wrap (x.tmod b.size + b.size)).tmod b.size).toNat * 1 + [v].length ≤ (byteCells b).length := by
      intro v
      rw [byteCells_length, hpn]
      exact ⟨rfl, by simp only [List.length_singleton]; omega⟩
    have q4 := X (.int .u8 (IntKind.u8.wrap (((byteAt b j).toNat : Int).tmod 255 + 1)))
    have enb : IntKind.u8.wrap (((byteAt b j).toNat : Int).tmod 255 + 1) = ((nb (byteAt b j)).toNat : Int) := by
      unfold nb
      rw [UInt8.toNat_ofNat', u8w]
      omega
    have e9 : (byteCells b).set (0 + ((IntKind.i64.wrap (x.tmod b.size + b.size)).tmod b.size).toNat * 1) (.int .u8 (IntKind.u8.wrap (((byteAt b j).toNat : Int).tmod 255 + 1))) = byteCells (spo b j) := by
      rw [hpn, enb, Nat.zero_add, Nat.mul_one]
      exact spo_cells b j (by omega)
    have z : ((byteCells b).set (0 + ((IntKind.i64.wrap (x.tmod b.size + b.size)).tmod b.size).toNat * 1) (.int .u8 (IntKind.u8.wrap (((byteAt b j).toNat : Int).tmod 255 + 1)))).length = b.size := by rw [List.length_set, byteCells_length]
    have b3 := cells_whole _ b.size z
    have b4 : cellBytes ((byteCells b).set (0 + ((IntKind.i64.wrap (x.tmod b.size + b.size)).tmod b.size).toNat * 1) (.int .u8 (IntKind.u8.wrap (((byteAt b j).toNat : Int).tmod 255 + 1)))) = some (spo b j).data.toList := by
      rw [e9]
      exact cellBytes_byte _
    refine Wp.seq (Wp.text ?_)
    refine kp 4 (.string (ByteArray.mk #[])) ?_
    refine kp 5 (.int IntKind.i64 0) ?_
    refine WpOps.nil (thenK_at (Wp.seq (Wp.seq (Wp.text ?_))))
    refine kp 7 (.string b) ?_
    refine kp 8 (.bool false) ?_ (hop := fun _ => by_fact c0)
    refine WpOps.nil (thenK_at (off' (Wp.skip (thenK_at (Wp.seq (Wp.text ?_))))))
    refine kp 9 (.string b) ?_
    refine md 10 (.slice (some ⟨0, 0, none⟩) (ByteArray.size b) (ByteArray.size b)) (Blk.mk 5 true (byteCells b)) ?_
    refine kp 6 (.slice (some ⟨0, 0, none⟩) (ByteArray.size b) (ByteArray.size b)) ?_
    refine WpOps.nil (thenK_at (Wp.seq (Wp.text ?_)))
    refine kp 11 (.int IntKind.i64 x) ?_
    refine kp 12 (.slice (some ⟨0, 0, none⟩) (ByteArray.size b) (ByteArray.size b)) ?_
    refine kp 13 (.int IntKind.i64 (↑(ByteArray.size b) : Int)) ?_
    refine kp 14 (.int IntKind.i64 (Int.tmod x (↑(ByteArray.size b) : Int))) ?_ (hop := fun _ => o_rem n0)
    refine kp 15 (.slice (some ⟨0, 0, none⟩) (ByteArray.size b) (ByteArray.size b)) ?_
    refine kp 16 (.int IntKind.i64 (↑(ByteArray.size b) : Int)) ?_
    refine kp 17 (.int IntKind.i64 (IntKind.wrap .i64 (Int.tmod x (↑(ByteArray.size b) : Int) + (↑(ByteArray.size b) : Int)))) ?_
    refine kp 18 (.slice (some ⟨0, 0, none⟩) (ByteArray.size b) (ByteArray.size b)) ?_
    refine kp 19 (.int IntKind.i64 (↑(ByteArray.size b) : Int)) ?_
    refine kp 20 (.int IntKind.i64 (Int.tmod (IntKind.wrap .i64 (Int.tmod x (↑(ByteArray.size b) : Int) + (↑(ByteArray.size b) : Int))) (↑(ByteArray.size b) : Int))) ?_ (hop := fun _ => o_rem n0)
    refine kp 1 (.int IntKind.i64 (Int.tmod (IntKind.wrap .i64 (Int.tmod x (↑(ByteArray.size b) : Int) + (↑(ByteArray.size b) : Int))) (↑(ByteArray.size b) : Int))) ?_
    refine WpOps.nil (thenK_at (Wp.seq (Wp.text ?_)))
    refine kp 21 (.slice (some ⟨0, 0, none⟩) (ByteArray.size b) (ByteArray.size b)) ?_
    refine kp 22 (.int IntKind.i64 (Int.tmod (IntKind.wrap .i64 (Int.tmod x (↑(ByteArray.size b) : Int) + (↑(ByteArray.size b) : Int))) (↑(ByteArray.size b) : Int))) ?_
    refine kp 23 (.slice (some ⟨0, 0, none⟩) (ByteArray.size b) (ByteArray.size b)) ?_
    refine kp 24 (.int IntKind.i64 (Int.tmod (IntKind.wrap .i64 (Int.tmod x (↑(ByteArray.size b) : Int) + (↑(ByteArray.size b) : Int))) (↑(ByteArray.size b) : Int))) ?_
    refine kp 25 (.pointer (some (Addr.mk 0 (0 + Int.toNat (Int.tmod (IntKind.wrap .i64 (Int.tmod x (↑(ByteArray.size b) : Int) + (↑(ByteArray.size b) : Int))) (↑(ByteArray.size b) : Int)) * 1) none))) ?_ (hop := fun _ => o_indexAddr (a := Int.tmod (IntKind.wrap IntKind.i64 (Int.tmod x (↑(ByteArray.size b) : Int) + (↑(ByteArray.size b) : Int))) (↑(ByteArray.size b) : Int)) (bl := 0) (off := 0) (size := 1) 5 (ByteArray.size b) g1)
    refine kp 26 (.int IntKind.u8 (↑(UInt8.toNat (byteAt b j)) : Int)) ?_ (hop := fun _ => o_load1 0 (0 + Int.toNat (Int.tmod (IntKind.wrap IntKind.i64 (Int.tmod x (↑(ByteArray.size b) : Int) + (↑(ByteArray.size b) : Int))) (↑(ByteArray.size b) : Int)) * 1) v1)
    refine kp 27 (.int IntKind.u8 (Int.tmod (↑(UInt8.toNat (byteAt b j)) : Int) 255)) ?_
    refine kp 28 (.int IntKind.u8 (IntKind.wrap .u8 (Int.tmod (↑(UInt8.toNat (byteAt b j)) : Int) 255 + 1))) ?_
    refine kp 29 (.pointer (some (Addr.mk 0 (0 + Int.toNat (Int.tmod (IntKind.wrap .i64 (Int.tmod x (↑(ByteArray.size b) : Int) + (↑(ByteArray.size b) : Int))) (↑(ByteArray.size b) : Int)) * 1) none))) ?_ (hop := fun _ => o_indexAddr (a := Int.tmod (IntKind.wrap IntKind.i64 (Int.tmod x (↑(ByteArray.size b) : Int) + (↑(ByteArray.size b) : Int))) (↑(ByteArray.size b) : Int)) (bl := 0) (off := 0) (size := 1) 5 (ByteArray.size b) g1)
    refine ld (.tuple #[]) (0) (Blk.mk 5 true (List.set (byteCells b) (0 + Int.toNat (Int.tmod (IntKind.wrap .i64 (Int.tmod x (↑(ByteArray.size b) : Int) + (↑(ByteArray.size b) : Int))) (↑(ByteArray.size b) : Int)) * 1) (Value.int .u8 (IntKind.wrap .u8 (Int.tmod (↑(UInt8.toNat (byteAt b j)) : Int) 255 + 1))))) ?_ (hop := fun _ => o_store1 0 (0 + Int.toNat (Int.tmod (IntKind.wrap IntKind.i64 (Int.tmod x (↑(ByteArray.size b) : Int) + (↑(ByteArray.size b) : Int))) (↑(ByteArray.size b) : Int)) * 1) q4)
    refine WpOps.nil (thenK_at (Wp.seq (Wp.text ?_)))
    refine kp 30 (.slice (some ⟨0, 0, none⟩) (ByteArray.size b) (ByteArray.size b)) ?_
    refine kp 31 (.string (ByteArray.mk (List.toArray (Array.toList (ByteArray.data (spo b j)))))) ?_ (hop := fun _ => o_bytes 5 0 (0) (ByteArray.size b) b3 b4)
    refine kp 4 (.string (ByteArray.mk (List.toArray (Array.toList (ByteArray.data (spo b j)))))) ?_
    refine kp 5 (.int IntKind.i64 0) ?_
    refine WpOps.nil (thenK_at (Wp.ret ?_))
    refine endK_retn [Value.string (ByteArray.mk (List.toArray (Array.toList (ByteArray.data (spo b j))))), Value.int IntKind.i64 0] (Value.tuple #[Value.string (ByteArray.mk (List.toArray (Array.toList (ByteArray.data (spo b j))))), Value.int IntKind.i64 0]) (by kernel_rfl) (by kernel_rfl) ?_
    rfl
/-! ## the law -/
theorem f7 : E.funcs 7 = some Try.f7 := by kernel_rfl
theorem sane7 : Fun E 7 [] (.bool true) := Fun.closed 300 (.bool true) (by kernel_rfl)
theorem unpackV_is (s : ByteArray) : ∃ b e, unpackV s = .tuple #[.string b, .int .i64 e] := by
  unfold unpackV
  split
  · exact ⟨_, _, rfl⟩
  · exact ⟨_, _, rfl⟩
theorem numV_is (s : ByteArray) : ∃ b e, numV s = .tuple #[.int .i64 b, .int .i64 e] := by
  unfold numV
  split
  · split
    · exact ⟨_, _, rfl⟩
    · exact ⟨_, _, rfl⟩
  · exact ⟨_, _, rfl⟩
theorem sumV_is (s : ByteArray) : ∃ b e, sumV s = .tuple #[.string b, .int .i64 e] := by
  unfold sumV
  split
  · exact ⟨_, _, rfl⟩
  · exact ⟨_, _, rfl⟩
theorem spoV_is (s : ByteArray) (x : Int) : ∃ b e, spoV s x = .tuple #[.string b, .int .i64 e] := by
  unfold spoV
  split
  · exact ⟨_, _, rfl⟩
  · exact ⟨_, _, rfl⟩
theorem f6 : E.funcs 6 = some Try.f6 := by kernel_rfl
theorem law6 (s : ByteArray) (x : Int) (hs : s.size ≤ 140737488351232) : Fun E 6 [.string s, .int .i64 x] (.bool true) := by
  refine Fun.of f6 rfl (of_decide_eq_true (by kernel_rfl)) rfl ?_
  have c1 := unpack18 s
  have c2 := unpack19 s
  have c3 := number20 s hs
  have c4 := number21 s hs
  have c5 := sum10 s
  have c6 := sum22 s
  have c7 := spoil11 s x hs
  have c8 := spoil23 s x hs
  have c9 := sane7
  obtain ⟨pb, pe, hp⟩ := unpackV_is s
  obtain ⟨ob, oe, ho⟩ := numV_is s
  obtain ⟨lb, le, hl⟩ := sumV_is s
  obtain ⟨xb, xe, hx⟩ := spoV_is s x
  rw [hp] at c1 c2
  rw [ho] at c3 c4
  rw [hl] at c5 c6
  rw [hx] at c7 c8
  have d1 : (!(pb.toList == pb.toList)) = false := by rw [beq_self_eq_true]; rfl
  have d2 : (!(lb.toList == lb.toList)) = false := by rw [beq_self_eq_true]; rfl
  have d3 : (xb.toList == xb.toList) = true := beq_self_eq_true _
  have d4 : (pe != pe) = false := bne_self_eq_false _
  have d5 : (le != le) = false := bne_self_eq_false _
  have d6 : (xe == xe) = true := BEq.rfl
  have d7 : (oe != oe) = false := bne_self_eq_false _
  have d8 : (ob != ob) = false := bne_self_eq_false _
  refine Wp.seq (Wp.text ?_)
  refine kp 4 (.bool false) ?_
  refine WpOps.nil (thenK_at (Wp.seq (Wp.text ?_)))
  refine kp 12 (.string s) ?_
  refine fr 13 18 [Value.string s] ?_
  refine WpFun.of (c1) ?_
  refine kp 11 (.tuple #[Value.string pb, Value.int .i64 pe]) ?_
  refine kp 14 (.string pb) ?_
  refine kp 15 (.int IntKind.i64 pe) ?_
  refine kp 5 (.string pb) ?_
  refine kp 6 (.int IntKind.i64 pe) ?_
  refine WpOps.nil (thenK_at (Wp.seq (Wp.text ?_)))
  refine kp 17 (.string s) ?_
  refine fr 18 19 [Value.string s] ?_
  refine WpFun.of (c2) ?_
  refine kp 16 (.tuple #[Value.string pb, Value.int .i64 pe]) ?_
  refine kp 19 (.string pb) ?_
  refine kp 20 (.int IntKind.i64 pe) ?_
  refine kp 7 (.string pb) ?_
  refine kp 8 (.int IntKind.i64 pe) ?_
  refine WpOps.nil (thenK_at (Wp.seq (Wp.seq (Wp.text ?_))))
  refine kp 21 (.string pb) ?_
  refine kp 22 (.string pb) ?_
  refine kp 23 (.bool false) ?_ (hop := fun _ => by_fact d1)
  refine kp 24 (.bool false) ?_
  refine kp 25 (.int IntKind.i64 pe) ?_
  refine kp 26 (.int IntKind.i64 pe) ?_
  refine kp 27 (.bool false) ?_ (hop := fun _ => by_fact d4)
  refine kp 28 (.bool false) ?_
  refine WpOps.nil (thenK_at (off' (Wp.skip (thenK_at (Wp.seq (Wp.text ?_))))))
  refine kp 30 (.string s) ?_
  refine fr 31 20 [Value.string s] ?_
  refine WpFun.of (c3) ?_
  refine kp 29 (.tuple #[Value.int .i64 ob, Value.int .i64 oe]) ?_
  refine kp 32 (.int IntKind.i64 ob) ?_
  refine kp 33 (.int IntKind.i64 oe) ?_
  refine kp 9 (.int IntKind.i64 ob) ?_
  refine kp 6 (.int IntKind.i64 oe) ?_
  refine WpOps.nil (thenK_at (Wp.seq (Wp.text ?_)))
  refine kp 35 (.string s) ?_
  refine fr 36 21 [Value.string s] ?_
  refine WpFun.of (c4) ?_
  refine kp 34 (.tuple #[Value.int .i64 ob, Value.int .i64 oe]) ?_
  refine kp 37 (.int IntKind.i64 ob) ?_
  refine kp 38 (.int IntKind.i64 oe) ?_
  refine kp 10 (.int IntKind.i64 ob) ?_
  refine kp 8 (.int IntKind.i64 oe) ?_
  refine WpOps.nil (thenK_at (Wp.seq (Wp.seq (Wp.text ?_))))
  refine kp 39 (.int IntKind.i64 ob) ?_
  refine kp 40 (.int IntKind.i64 ob) ?_
  refine kp 41 (.bool false) ?_ (hop := fun _ => by_fact d8)
  refine kp 42 (.bool false) ?_
  refine kp 43 (.int IntKind.i64 oe) ?_
  refine kp 44 (.int IntKind.i64 oe) ?_
  refine kp 45 (.bool false) ?_ (hop := fun _ => by_fact d7)
  refine kp 46 (.bool false) ?_
  refine WpOps.nil (thenK_at (off' (Wp.skip (thenK_at (Wp.seq (Wp.text ?_))))))
  refine kp 48 (.string s) ?_
  refine fr 49 10 [Value.string s] ?_
  refine WpFun.of (c5) ?_
  refine kp 47 (.tuple #[Value.string lb, Value.int .i64 le]) ?_
  refine kp 50 (.string lb) ?_
  refine kp 51 (.int IntKind.i64 le) ?_
  refine kp 5 (.string lb) ?_
  refine kp 6 (.int IntKind.i64 le) ?_
  refine WpOps.nil (thenK_at (Wp.seq (Wp.text ?_)))
  refine kp 53 (.string s) ?_
  refine fr 54 22 [Value.string s] ?_
  refine WpFun.of (c6) ?_
  refine kp 52 (.tuple #[Value.string lb, Value.int .i64 le]) ?_
  refine kp 55 (.string lb) ?_
  refine kp 56 (.int IntKind.i64 le) ?_
  refine kp 7 (.string lb) ?_
  refine kp 8 (.int IntKind.i64 le) ?_
  refine WpOps.nil (thenK_at (Wp.seq (Wp.seq (Wp.text ?_))))
  refine kp 57 (.string lb) ?_
  refine kp 58 (.string lb) ?_
  refine kp 59 (.bool false) ?_ (hop := fun _ => by_fact d2)
  refine kp 60 (.bool false) ?_
  refine kp 61 (.int IntKind.i64 le) ?_
  refine kp 62 (.int IntKind.i64 le) ?_
  refine kp 63 (.bool false) ?_ (hop := fun _ => by_fact d5)
  refine kp 64 (.bool false) ?_
  refine WpOps.nil (thenK_at (off' (Wp.skip (thenK_at (Wp.seq (Wp.text ?_))))))
  refine kp 66 (.string s) ?_
  refine kp 67 (.int IntKind.i64 x) ?_
  refine fr 68 11 [Value.string s, Value.int .i64 x] ?_
  refine WpFun.of (c7) ?_
  refine kp 65 (.tuple #[Value.string xb, Value.int .i64 xe]) ?_
  refine kp 69 (.string xb) ?_
  refine kp 70 (.int IntKind.i64 xe) ?_
  refine kp 5 (.string xb) ?_
  refine kp 6 (.int IntKind.i64 xe) ?_
  refine WpOps.nil (thenK_at (Wp.seq (Wp.text ?_)))
  refine kp 72 (.string s) ?_
  refine kp 73 (.int IntKind.i64 x) ?_
  refine fr 74 23 [Value.string s, Value.int .i64 x] ?_
  refine WpFun.of (c8) ?_
  refine kp 71 (.tuple #[Value.string xb, Value.int .i64 xe]) ?_
  refine kp 75 (.string xb) ?_
  refine kp 76 (.int IntKind.i64 xe) ?_
  refine kp 7 (.string xb) ?_
  refine kp 8 (.int IntKind.i64 xe) ?_
  refine WpOps.nil (thenK_at (Wp.seq (Wp.text ?_)))
  refine kp 77 (.string xb) ?_
  refine kp 78 (.string xb) ?_
  refine kp 79 (.bool true) ?_ (hop := fun _ => by_fact d3)
  refine kp 80 (.bool true) ?_
  refine kp 81 (.int IntKind.i64 xe) ?_
  refine kp 82 (.int IntKind.i64 xe) ?_
  refine kp 83 (.bool true) ?_ (hop := fun _ => by_fact d6)
  refine kp 84 (.bool true) ?_
  refine kp 85 (.bool true) ?_
  refine fr 86 7 [] ?_
  refine WpFun.of (c9) ?_
  refine kp 87 (.bool true) ?_
  refine kp 4 (.bool true) ?_
  refine WpOps.nil (thenK_at (Wp.ret ?_))
  refine endK_retn [Value.bool true] (Value.bool true) (by kernel_rfl) (by kernel_rfl) ?_
  rfl
end Go.Proofs.Ythhlfddpacmhfaa.D
