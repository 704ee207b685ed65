/- Spoilt units: the program's, and the document's. -/
import Derived.Test.YtdkmdpklojeepaaFwLem
import Derived.Test.YtdkmdpklojeepaaFwBytes
import Derived.Test.YtdkmdpklojeepaaR09a
import Derived.Test.YtdkmdpklojeepaaN09d
namespace Go.Proofs.Ytdkmdpklojeepaa.D
open Go.Fw Go.RowKit

/-- A unit with a spoilt byte; an empty one stays. -/
def spu (b : ByteArray) (s : Int) : ByteArray := if b.size = 0 then b else spo b (modN s b.size).toNat
theorem mod9c (x : Int) (n : Nat) (hn : 0 < n) (h : n ≤ 5000) : Fun E 9 [.int .i64 x, .int .i64 n] (.int .i64 (modN x n)) := by
  refine Fun.of f9 rfl (of_decide_eq_true (by kernel_rfl)) rfl ?_
  have c0 : decide ((n : Int) < 1) = false := decide_eq_false (by omega)
  have n0 : ¬ (n : Int) = 0 := by omega
  have h1 := Int.tmod_lt_of_pos x (b := n) (by omega)
  have h2 := Int.lt_tmod_of_pos x (b := n) (by omega)
  refine Wp.seq (Wp.text ?_)
  refine kp 4 (.int IntKind.i64 0) ?_
  refine WpOps.nil (thenK_at (Wp.seq (Wp.seq (Wp.text ?_))))
  refine kp 6 (.int IntKind.i64 (↑n : Int)) ?_
  refine kp 7 (.bool false) ?_ (hop := fun _ => by_fact c0)
  refine WpOps.nil (thenK_at (off' (Wp.skip (thenK_at (Wp.seq (Wp.text ?_))))))
  refine kp 8 (.int IntKind.i64 x) ?_
  refine kp 9 (.int IntKind.i64 (↑n : Int)) ?_
  refine kp 10 (.int IntKind.i64 (Int.tmod x (↑n : Int))) ?_ (hop := fun _ => o_rem n0)
  refine kp 5 (.int IntKind.i64 (Int.tmod x (↑n : Int))) ?_
  refine WpOps.nil (thenK_at (Wp.seq (Wp.seq (Wp.text ?_))))
  refine kp 11 (.int IntKind.i64 (Int.tmod x (↑n : Int))) ?_
  refine kp 12 (.bool (decide (Int.tmod x (↑n : Int) < 0))) ?_
  refine WpOps.nil (thenK_at ?_)
  refine Wp.split (decide (Int.tmod x (↑n : Int) < 0)) (by kernel_rfl) (fun hc => ?_) (fun hc => ?_)
  · have hl := of_decide_eq_true hc
    have hm : modN x n = x.tmod n + n := if_pos hl
    have hw : IntKind.i64.wrap (x.tmod n + n) = modN x n := by rw [hm, wr _ (by omega) (by omega)]
    refine Wp.text ?_
    refine kp 13 (.int IntKind.i64 (Int.tmod x (↑n : Int))) ?_
    refine kp 14 (.int IntKind.i64 (↑n : Int)) ?_
    refine kp 15 (.int IntKind.i64 (IntKind.wrap .i64 (Int.tmod x (↑n : Int) + (↑n : Int)))) ?_
    refine kp 5 (.int IntKind.i64 (IntKind.wrap .i64 (Int.tmod x (↑n : Int) + (↑n : Int)))) ?_
    refine WpOps.nil (thenK_at (Wp.seq (Wp.text ?_)))
    refine kp 16 (.int IntKind.i64 (IntKind.wrap .i64 (Int.tmod x (↑n : Int) + (↑n : Int)))) ?_
    refine kp 4 (.int IntKind.i64 (IntKind.wrap .i64 (Int.tmod x (↑n : Int) + (↑n : Int)))) ?_
    refine WpOps.nil (thenK_at (Wp.ret ?_))
    refine endK_retn [Value.int IntKind.i64 (IntKind.wrap IntKind.i64 (Int.tmod x (↑n : Int) + (↑n : Int)))] (Value.int IntKind.i64 (IntKind.wrap IntKind.i64 (Int.tmod x (↑n : Int) + (↑n : Int)))) (by kernel_rfl) (by kernel_rfl) ?_
    rw [hw]
    rfl
  · have hm : modN x n = x.tmod n := if_neg (of_decide_eq_false hc)
    refine Wp.skip (thenK_at (Wp.seq (Wp.text ?_)))
    refine kp 16 (.int IntKind.i64 (Int.tmod x (↑n : Int))) ?_
    refine kp 4 (.int IntKind.i64 (Int.tmod x (↑n : Int))) ?_
    refine WpOps.nil (thenK_at (Wp.ret ?_))
    refine endK_retn [Value.int IntKind.i64 (Int.tmod x (↑n : Int))] (Value.int IntKind.i64 (Int.tmod x (↑n : Int))) (by kernel_rfl) (by kernel_rfl) ?_
    rw [hm]
    rfl
theorem f17 : E.funcs 17 = some Try.f17 := by kernel_rfl
theorem spoil17 (b : ByteArray) (s : Int) (hb : b.size ≤ 5000) : Fun E 17 [.string b, .int .i64 s] (.tuple #[.string (spu b s), .int .i64 0]) := by
  rcases Nat.eq_zero_or_pos b.size with h0 | h0
  · obtain rfl : b = ⟨#[]⟩ := ByteArray.ext (Array.eq_empty_of_size_eq_zero h0)
    have e : spu ⟨#[]⟩ s = ⟨#[]⟩ := rfl
    rw [e]
    refine Fun.of f17 rfl (of_decide_eq_true (by kernel_rfl)) rfl ?_
    refine Wp.seq (Wp.text ?_)
    refine kp 4 (.string (ByteArray.mk #[])) ?_
    refine kp 5 (.int IntKind.i64 0) ?_
    refine WpOps.nil (thenK_at (Wp.seq (Wp.seq (Wp.text ?_))))
    refine kp 7 (.string (ByteArray.mk #[])) ?_
    refine kp 8 (.bool true) ?_
    refine WpOps.nil (thenK_at (on' (Wp.seq (Wp.text ?_))))
    refine kp 4 (.string (ByteArray.mk #[])) ?_
    refine kp 5 (.int IntKind.i64 0) ?_
    refine WpOps.nil (thenK_at (Wp.ret (thenK_ret ?_)))
    refine endK_retn [Value.string (ByteArray.mk #[]), Value.int IntKind.i64 0] (Value.tuple #[Value.string (ByteArray.mk #[]), Value.int IntKind.i64 0]) (by kernel_rfl) (by kernel_rfl) ?_
    rfl
  have e : spu b s = spo b (modN s b.size).toNat := if_neg (by omega)
  rw [e]
  refine Fun.of f17 rfl (of_decide_eq_true (by kernel_rfl)) rfl ?_
  have c0 : (b.toList == ByteArray.toList (ByteArray.mk #[])) = false := str_ne fun h => by rw [h] at h0; exact absurd h0 (Nat.not_lt_zero _)
  have c1 := mod9c s b.size (by omega) hb
  obtain ⟨m1, m2⟩ := modN_in s b.size h0
  obtain ⟨j, hj⟩ : ∃ j : Nat, modN s b.size = j := ⟨(modN s b.size).toNat, by omega⟩
  rw [hj] at c1 ⊢
  have hjb : j < b.size := by omega
  have h0 : 0 ≤ (j : Int) ∧ (j : Int) < b.size := by omega
  have h1 : 0 ≤ (j : Int) ∧ (j : Int) ≤ b.size := by omega
  have hv := byte_get b j hjb
  have w1 : IntKind.i64.wrap ((j : Int) + 1) = ((j + 1 : Nat) : Int) := by rw [wr _ (by omega) (by omega)]; rfl
  have s1 : (((b.extract 0 (j : Int).toNat).size + (⟨#[UInt8.ofNat (IntKind.u8.wrap (((byteAt b j).toNat : Int).tmod 255 + 1)).toNat]⟩ : ByteArray).size : Nat) : Int) ≤ 9223372036854775807 := by
    rw [ByteArray.size_extract]
    show ((_ + 1 : Nat) : Int) ≤ _
    omega
  have s2 : 0 ≤ IntKind.i64.wrap ((j : Int) + 1) ∧ IntKind.i64.wrap ((j : Int) + 1) ≤ b.size := by rw [w1]; omega
  have s3 : (((b.extract 0 (j : Int).toNat ++ (⟨#[UInt8.ofNat (IntKind.u8.wrap (((byteAt b j).toNat : Int).tmod 255 + 1)).toNat]⟩ : ByteArray)).size + (b.extract (IntKind.i64.wrap ((j : Int) + 1)).toNat b.size).size : Nat) : Int) ≤ 9223372036854775807 := by
    rw [ByteArray.size_append, ByteArray.size_extract, ByteArray.size_extract]
    show (((_ + 1) + _ : Nat) : Int) ≤ _
    omega
  refine Wp.seq (Wp.text ?_)
  refine kp 4 (.string (ByteArray.mk #[])) ?_
  refine kp 5 (.int IntKind.i64 0) ?_
  refine WpOps.nil (thenK_at (Wp.seq (Wp.seq (Wp.text ?_))))
  refine kp 7 (.string b) ?_
  refine kp 8 (.bool false) ?_ (hop := fun _ => by_fact c0)
  refine WpOps.nil (thenK_at (off' (Wp.skip (thenK_at (Wp.seq (Wp.text ?_))))))
  refine kp 9 (.int IntKind.i64 s) ?_
  refine kp 10 (.string b) ?_
  refine kp 11 (.int IntKind.i64 (↑(ByteArray.size b) : Int)) ?_
  refine fr 12 9 [Value.int .i64 s, Value.int .i64 (↑(ByteArray.size b) : Int)] ?_
  refine WpFun.of (c1) ?_
  refine kp 6 (.int IntKind.i64 (↑j : Int)) ?_
  refine WpOps.nil (thenK_at (Wp.seq ?_))
  refine Wp.region (by kernel_rfl) ?_
  refine kp 13 (.string b) ?_
  refine kp 14 (.int IntKind.i64 (↑j : Int)) ?_
  refine kp 15 (.string (ByteArray.extract b 0 (Int.toNat (↑j : Int)))) ?_ (hop := fun _ => o_cut_hi h1)
  refine kp 16 (.string b) ?_
  refine kp 17 (.int IntKind.i64 (↑j : Int)) ?_
  refine kp 18 (.int IntKind.u8 (↑(UInt8.toNat (byteAt b j)) : Int)) ?_ (hop := fun _ => o_indexStr (of_decide_eq_true (by kernel_rfl)) hv)
  refine kp 19 (.int IntKind.u8 (Int.tmod (↑(UInt8.toNat (byteAt b j)) : Int) 255)) ?_
  refine kp 20 (.int IntKind.u8 (IntKind.wrap .u8 (Int.tmod (↑(UInt8.toNat (byteAt b j)) : Int) 255 + 1))) ?_
  refine md 21 (.slice (some ⟨0, 0, none⟩) 1 1) (Blk.mk 5 true [Value.int .u8 (IntKind.wrap .u8 (Int.tmod (↑(UInt8.toNat (byteAt b j)) : Int) 255 + 1))]) ?_
  refine kp 22 (.string (ByteArray.mk #[UInt8.ofNat (Int.toNat (IntKind.wrap .u8 (Int.tmod (↑(UInt8.toNat (byteAt b j)) : Int) 255 + 1)))])) ?_
  refine kp 23 (.string (ByteArray.extract b 0 (Int.toNat (↑j : Int)) ++ ByteArray.mk #[UInt8.ofNat (Int.toNat (IntKind.wrap .u8 (Int.tmod (↑(UInt8.toNat (byteAt b j)) : Int) 255 + 1)))])) ?_ (hop := fun _ => o_add s1)
  refine kp 24 (.string b) ?_
  refine kp 25 (.int IntKind.i64 (↑j : Int)) ?_
  refine kp 26 (.int IntKind.i64 (IntKind.wrap .i64 ((↑j : Int) + 1))) ?_
  refine kp 27 (.string (ByteArray.extract b (Int.toNat (IntKind.wrap .i64 ((↑j : Int) + 1))) (ByteArray.size b))) ?_ (hop := fun _ => o_cut_lo s2)
  refine kp 28 (.string (ByteArray.extract b 0 (Int.toNat (↑j : Int)) ++ ByteArray.mk #[UInt8.ofNat (Int.toNat (IntKind.wrap .u8 (Int.tmod (↑(UInt8.toNat (byteAt b j)) : Int) 255 + 1)))] ++ ByteArray.extract b (Int.toNat (IntKind.wrap .i64 ((↑j : Int) + 1))) (ByteArray.size b))) ?_ (hop := fun _ => o_add s3)
  refine kp 4 (.string (ByteArray.extract b 0 (Int.toNat (↑j : Int)) ++ ByteArray.mk #[UInt8.ofNat (Int.toNat (IntKind.wrap .u8 (Int.tmod (↑(UInt8.toNat (byteAt b j)) : Int) 255 + 1)))] ++ ByteArray.extract b (Int.toNat (IntKind.wrap .i64 ((↑j : Int) + 1))) (ByteArray.size b))) ?_
  refine kp 5 (.int IntKind.i64 0) ?_
  refine WpOps.nil (thenK_at (Wp.ret ?_))
  refine endK_retn [Value.string (ByteArray.extract b 0 (Int.toNat (↑j : Int)) ++ ByteArray.mk #[UInt8.ofNat (Int.toNat (IntKind.wrap IntKind.u8 (Int.tmod (↑(UInt8.toNat (byteAt b j)) : Int) 255 + 1)))] ++ ByteArray.extract b (Int.toNat (IntKind.wrap IntKind.i64 ((↑j : Int) + 1))) (ByteArray.size b)), Value.int IntKind.i64 0] (Value.tuple #[Value.string (ByteArray.extract b 0 (Int.toNat (↑j : Int)) ++ ByteArray.mk #[UInt8.ofNat (Int.toNat (IntKind.wrap IntKind.u8 (Int.tmod (↑(UInt8.toNat (byteAt b j)) : Int) 255 + 1)))] ++ ByteArray.extract b (Int.toNat (IntKind.wrap IntKind.i64 ((↑j : Int) + 1))) (ByteArray.size b)), Value.int IntKind.i64 0]) (by kernel_rfl) (by kernel_rfl) ?_
  rw [w1]
  rfl
theorem f41 : E.funcs 41 = some Try.f41 := by kernel_rfl
theorem spoil41 (b : ByteArray) (s : Int) (hb : b.size ≤ 5000) : Fun E 41 [.string b, .int .i64 s] (.tuple #[.string (spu b s), .int .i64 0]) := by
  rcases Nat.eq_zero_or_pos b.size with h0 | h0
  · obtain rfl : b = ⟨#[]⟩ := ByteArray.ext (Array.eq_empty_of_size_eq_zero h0)
    have e : spu ⟨#[]⟩ s = ⟨#[]⟩ := rfl
    rw [e]
    refine Fun.of f41 rfl (of_decide_eq_true (by kernel_rfl)) rfl ?_
    refine Wp.seq (Wp.text ?_)
    refine kp 4 (.string (ByteArray.mk #[])) ?_
    refine kp 5 (.int IntKind.i64 0) ?_
    refine WpOps.nil (thenK_at (Wp.seq (Wp.seq (Wp.text ?_))))
    refine kp 7 (.string (ByteArray.mk #[])) ?_
    refine kp 8 (.bool true) ?_
    refine WpOps.nil (thenK_at (on' (Wp.seq (Wp.text ?_))))
    refine kp 4 (.string (ByteArray.mk #[])) ?_
    refine kp 5 (.int IntKind.i64 0) ?_
    refine WpOps.nil (thenK_at (Wp.ret (thenK_ret ?_)))
    refine endK_retn [Value.string (ByteArray.mk #[]), Value.int IntKind.i64 0] (Value.tuple #[Value.string (ByteArray.mk #[]), Value.int IntKind.i64 0]) (by kernel_rfl) (by kernel_rfl) ?_
    rfl
  have e : spu b s = spo b (modN s b.size).toNat := if_neg (by omega)
  rw [e]
  refine Fun.of f41 rfl (of_decide_eq_true (by kernel_rfl)) rfl ?_
  have c0 : (b.toList == ByteArray.toList (ByteArray.mk #[])) = false := str_ne fun h => by rw [h] at h0; exact absurd h0 (Nat.not_lt_zero _)
  have n0 : ¬ (b.size : Int) = 0 := by omega
  have hp := place_eq s b.size h0 (by omega)
  obtain ⟨m1, m2⟩ := modN_in s b.size h0
  obtain ⟨j, hj⟩ : ∃ j : Nat, modN s b.size = j := ⟨(modN s b.size).toNat, by omega⟩
  rw [hj] at hp ⊢
  have hjb : j < b.size := by omega
  have g1 : 0 ≤ (IntKind.i64.wrap (s.tmod b.size + b.size)).tmod b.size ∧ (IntKind.i64.wrap (s.tmod b.size + b.size)).tmod b.size < b.size := by rw [hp]; omega
  have hl : (byteCells b).length = b.size := by unfold byteCells; rw [List.length_map]; exact Array.length_toList
  have hv : (byteCells b)[j]? = some (.int .u8 (byteAt b j).toNat) := by
    unfold byteCells
    rw [List.getElem?_map, byteAt_get b j hjb]
    rfl
  have g2 : (byteCells b)[0 + ((IntKind.i64.wrap (s.tmod b.size + b.size)).tmod b.size).toNat * 1]? = some (.int .u8 (byteAt b j).toNat) := by
    rw [hp, Int.toNat_natCast, Nat.mul_one, Nat.zero_add]
    exact hv
  have g3 : true = true ∧ 0 + ((IntKind.i64.wrap (s.tmod b.size + b.size)).tmod b.size).toNat * 1 + [Value.int IntKind.u8 (IntKind.u8.wrap (((byteAt b j).toNat : Int).tmod 255 + 1))].length ≤ (byteCells b).length := by
    refine ⟨rfl, ?_⟩
    rw [hp, hl]
    show 0 + j * 1 + 1 ≤ _
    omega
  have g4 : (byteCells b).set (0 + ((IntKind.i64.wrap (s.tmod b.size + b.size)).tmod b.size).toNat * 1) (Value.int IntKind.u8 (IntKind.u8.wrap (((byteAt b j).toNat : Int).tmod 255 + 1))) = byteCells (spo b j) := by
    rw [hp, Int.toNat_natCast, Nat.mul_one, Nat.zero_add]
    unfold byteCells
    rw [spo_list b j hjb, List.map_set]
    congr 1
    have hq : b.data.toList.getD j 0 = byteAt b j := rfl
    rw [hq]
    unfold nb
    have hr : IntKind.u8.wrap (((byteAt b j).toNat : Int).tmod 255 + 1) = ((UInt8.ofNat (IntKind.u8.wrap (((byteAt b j).toNat : Int).tmod 255 + 1)).toNat).toNat : Int) := by
      generalize (byteAt b j) = z
      have hz := z.toNat_lt
      have h1 : ((z.toNat : Int).tmod 255) = ((z.toNat % 255 : Nat) : Int) := by rw [Int.tmod_eq_emod_of_nonneg (by omega)]; rfl
      rw [h1]
      have h2 : IntKind.u8.wrap (((z.toNat % 255 : Nat) : Int) + 1) = ((z.toNat % 255 + 1 : Nat) : Int) := by
        show (((z.toNat % 255 : Nat) : Int) + 1) % 256 = _
        omega
      rw [h2, Int.toNat_natCast]
      have : (UInt8.ofNat (z.toNat % 255 + 1)).toNat = z.toNat % 255 + 1 := by
        rw [UInt8.toNat_ofNat']
        omega
      rw [this]
    rw [← hr]
  have hls : (byteCells (spo b j)).length = b.size := by unfold byteCells; rw [List.length_map]; exact spo_size b j hjb
  have g5 : cellsAt (byteCells (spo b j)) 0 b.size = some (byteCells (spo b j)) := by
    unfold cellsAt
    rw [if_pos (by omega), List.drop_zero, List.take_of_length_le (by omega)]
  have g6 := cellBytes_byte (spo b j)
  refine Wp.seq (Wp.text ?_)
  refine kp 4 (.string (ByteArray.mk #[])) ?_
  refine kp 5 (.int IntKind.i64 0) ?_
  refine WpOps.nil (thenK_at (Wp.seq (Wp.seq (Wp.text ?_))))
  refine kp 7 (.string b) ?_
  refine kp 8 (.bool false) ?_ (hop := fun _ => by_fact c0)
  refine WpOps.nil (thenK_at (off' (Wp.skip (thenK_at (Wp.seq (Wp.text ?_))))))
  refine kp 9 (.string b) ?_
  refine md 10 (.slice (some ⟨0, 0, none⟩) (ByteArray.size b) (ByteArray.size b)) (Blk.mk 5 true (byteCells b)) ?_
  refine kp 6 (.slice (some ⟨0, 0, none⟩) (ByteArray.size b) (ByteArray.size b)) ?_
  refine WpOps.nil (thenK_at (Wp.seq (Wp.text ?_)))
  refine kp 11 (.int IntKind.i64 s) ?_
  refine kp 12 (.slice (some ⟨0, 0, none⟩) (ByteArray.size b) (ByteArray.size b)) ?_
  refine kp 13 (.int IntKind.i64 (↑(ByteArray.size b) : Int)) ?_
  refine kp 14 (.int IntKind.i64 (Int.tmod s (↑(ByteArray.size b) : Int))) ?_ (hop := fun _ => o_rem n0)
  refine kp 15 (.slice (some ⟨0, 0, none⟩) (ByteArray.size b) (ByteArray.size b)) ?_
  refine kp 16 (.int IntKind.i64 (↑(ByteArray.size b) : Int)) ?_
  refine kp 17 (.int IntKind.i64 (IntKind.wrap .i64 (Int.tmod s (↑(ByteArray.size b) : Int) + (↑(ByteArray.size b) : Int)))) ?_
  refine kp 18 (.slice (some ⟨0, 0, none⟩) (ByteArray.size b) (ByteArray.size b)) ?_
  refine kp 19 (.int IntKind.i64 (↑(ByteArray.size b) : Int)) ?_
  refine kp 20 (.int IntKind.i64 (Int.tmod (IntKind.wrap .i64 (Int.tmod s (↑(ByteArray.size b) : Int) + (↑(ByteArray.size b) : Int))) (↑(ByteArray.size b) : Int))) ?_ (hop := fun _ => o_rem n0)
  refine kp 1 (.int IntKind.i64 (Int.tmod (IntKind.wrap .i64 (Int.tmod s (↑(ByteArray.size b) : Int) + (↑(ByteArray.size b) : Int))) (↑(ByteArray.size b) : Int))) ?_
  refine WpOps.nil (thenK_at (Wp.seq (Wp.text ?_)))
  refine kp 21 (.slice (some ⟨0, 0, none⟩) (ByteArray.size b) (ByteArray.size b)) ?_
  refine kp 22 (.int IntKind.i64 (Int.tmod (IntKind.wrap .i64 (Int.tmod s (↑(ByteArray.size b) : Int) + (↑(ByteArray.size b) : Int))) (↑(ByteArray.size b) : Int))) ?_
  refine kp 23 (.slice (some ⟨0, 0, none⟩) (ByteArray.size b) (ByteArray.size b)) ?_
  refine kp 24 (.int IntKind.i64 (Int.tmod (IntKind.wrap .i64 (Int.tmod s (↑(ByteArray.size b) : Int) + (↑(ByteArray.size b) : Int))) (↑(ByteArray.size b) : Int))) ?_
  refine kp 25 (.pointer (some (Addr.mk 0 (0 + Int.toNat (Int.tmod (IntKind.wrap .i64 (Int.tmod s (↑(ByteArray.size b) : Int) + (↑(ByteArray.size b) : Int))) (↑(ByteArray.size b) : Int)) * 1) none))) ?_ (hop := fun _ => o_indexAddr (a := Int.tmod (IntKind.wrap IntKind.i64 (Int.tmod s (↑(ByteArray.size b) : Int) + (↑(ByteArray.size b) : Int))) (↑(ByteArray.size b) : Int)) (bl := 0) (off := 0) (size := 1) 5 (ByteArray.size b) g1)
  refine kp 26 (.int IntKind.u8 (↑(UInt8.toNat (byteAt b j)) : Int)) ?_ (hop := fun _ => o_load1 (0) (0 + Int.toNat (Int.tmod (IntKind.wrap IntKind.i64 (Int.tmod s (↑(ByteArray.size b) : Int) + (↑(ByteArray.size b) : Int))) (↑(ByteArray.size b) : Int)) * 1) g2)
  refine kp 27 (.int IntKind.u8 (Int.tmod (↑(UInt8.toNat (byteAt b j)) : Int) 255)) ?_
  refine kp 28 (.int IntKind.u8 (IntKind.wrap .u8 (Int.tmod (↑(UInt8.toNat (byteAt b j)) : Int) 255 + 1))) ?_
  refine kp 29 (.pointer (some (Addr.mk 0 (0 + Int.toNat (Int.tmod (IntKind.wrap .i64 (Int.tmod s (↑(ByteArray.size b) : Int) + (↑(ByteArray.size b) : Int))) (↑(ByteArray.size b) : Int)) * 1) none))) ?_ (hop := fun _ => o_indexAddr (a := Int.tmod (IntKind.wrap IntKind.i64 (Int.tmod s (↑(ByteArray.size b) : Int) + (↑(ByteArray.size b) : Int))) (↑(ByteArray.size b) : Int)) (bl := 0) (off := 0) (size := 1) 5 (ByteArray.size b) g1)
  refine ld (.tuple #[]) (0) (Blk.mk 5 true (List.set (byteCells b) (0 + Int.toNat (Int.tmod (IntKind.wrap .i64 (Int.tmod s (↑(ByteArray.size b) : Int) + (↑(ByteArray.size b) : Int))) (↑(ByteArray.size b) : Int)) * 1) (Value.int .u8 (IntKind.wrap .u8 (Int.tmod (↑(UInt8.toNat (byteAt b j)) : Int) 255 + 1))))) ?_ (hop := fun _ => o_store1 (0) (0 + Int.toNat (Int.tmod (IntKind.wrap IntKind.i64 (Int.tmod s (↑(ByteArray.size b) : Int) + (↑(ByteArray.size b) : Int))) (↑(ByteArray.size b) : Int)) * 1) g3)
  refine WpOps.nil (thenK_at (Wp.seq (Wp.text ?_)))
  refine kp 30 (.slice (some ⟨0, 0, none⟩) (ByteArray.size b) (ByteArray.size b)) ?_
  rw [g4]
  refine kp 31 (.string (ByteArray.mk (List.toArray (Array.toList (ByteArray.data (spo b j)))))) ?_ (hop := fun _ => o_bytes 5 (0) (0) (ByteArray.size b) g5 g6)
  refine kp 4 (.string (ByteArray.mk (List.toArray (Array.toList (ByteArray.data (spo b j)))))) ?_
  refine kp 5 (.int IntKind.i64 0) ?_
  refine WpOps.nil (thenK_at (Wp.ret ?_))
  refine endK_retn [Value.string (ByteArray.mk (List.toArray (Array.toList (ByteArray.data (spo b j))))), Value.int IntKind.i64 0] (Value.tuple #[Value.string (ByteArray.mk (List.toArray (Array.toList (ByteArray.data (spo b j))))), Value.int IntKind.i64 0]) (by kernel_rfl) (by kernel_rfl) ?_
  rfl
end Go.Proofs.Ytdkmdpklojeepaa.D
