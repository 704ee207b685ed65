/- Bits: Flip, Ones. -/
import Derived.Test.YthhlfddpacmhfaaDoorFwLem
import Derived.Test.YthhlfddpacmhfaaDoorD01j
namespace Go.Proofs.YthhlfddpacmhfaaDoor.D
open Go.Fw Go.RowKit

theorem f21 : E.funcs 21 = some Tryd.f21 := by kernel_rfl
theorem pack21 (s : ByteArray) (hs : s.size ≤ 140737488351232) : Fun E 21 [.string s] (packV s) := by
  have c1 := valid12 s hs
  unfold packV
  by_cases hv : VP s
  · have c2 := pack34 s hv.1
    rw [decide_eq_true hv] at c1
    rw [if_pos hv]
    refine Fun.of f21 rfl (of_decide_eq_true (by kernel_rfl)) rfl ?_
    refine Wp.seq (Wp.text ?_)
    refine kp 2 (.string (ByteArray.mk #[])) ?_
    refine kp 3 (.int IntKind.i64 0) ?_
    refine WpOps.nil (thenK_at (Wp.seq (Wp.seq (Wp.text ?_))))
    refine kp 4 (.string s) ?_
    refine fr 5 12 [Value.string s] ?_
    refine WpFun.of (c1) ?_
    refine kp 6 (.bool false) ?_
    refine WpOps.nil (thenK_at (off' (Wp.skip (thenK_at (Wp.seq (Wp.text ?_))))))
    refine kp 7 (.string s) ?_
    refine fr 8 34 [Value.string s] ?_
    refine WpFun.of (c2) ?_
    refine kp 2 (.string (pk s)) ?_
    refine kp 3 (.int IntKind.i64 0) ?_
    refine WpOps.nil (thenK_at (Wp.ret ?_))
    refine endK_retn [Value.string (pk s), Value.int IntKind.i64 0] (Value.tuple #[Value.string (pk s), Value.int IntKind.i64 0]) (by kernel_rfl) (by kernel_rfl) ?_
    rfl
  · rw [decide_eq_false hv] at c1
    rw [if_neg hv]
    refine Fun.of f21 rfl (of_decide_eq_true (by kernel_rfl)) rfl ?_
    refine Wp.seq (Wp.text ?_)
    refine kp 2 (.string (ByteArray.mk #[])) ?_
    refine kp 3 (.int IntKind.i64 0) ?_
    refine WpOps.nil (thenK_at (Wp.seq (Wp.seq (Wp.text ?_))))
    refine kp 4 (.string s) ?_
    refine fr 5 12 [Value.string s] ?_
    refine WpFun.of (c1) ?_
    refine kp 6 (.bool true) ?_
    refine WpOps.nil (thenK_at (on' (Wp.seq (Wp.text ?_))))
    refine kp 2 (.string (ByteArray.mk #[])) ?_
    refine kp 3 (.int IntKind.i64 1) ?_
    refine WpOps.nil (thenK_at (Wp.ret (thenK_ret ?_)))
    refine endK_retn [Value.string (ByteArray.mk #[]), Value.int IntKind.i64 1] (Value.tuple #[Value.string (ByteArray.mk #[]), Value.int IntKind.i64 1]) (by kernel_rfl) (by kernel_rfl) ?_
    rfl
/-! ## Flip -/
def flB (b : UInt8) : UInt8 := if b = 49 then 48 else 49
def flS (s : ByteArray) (k : Nat) : ByteArray := mkB s.size fun i => if i = k then flB (byteAt s i) else byteAt s i
def AtOk (s : ByteArray) (a : Int) : Prop := VP s ∧ 0 ≤ a ∧ a < s.size
instance (s : ByteArray) (a : Int) : Decidable (AtOk s a) := inferInstanceAs (Decidable (_ ∧ _))
def flipV (s : ByteArray) (a : Int) : Value := if AtOk s a then .tuple #[.string (flS s a.toNat), .int .i64 0] else .tuple #[.string ⟨#[]⟩, .int .i64 1]
theorem guard3 {b1 b2 : Bool} {s : ByteArray} {a : Int} (h1 : b1 = bif !decide (VP s) then true else decide (a < 0)) (h2 : b2 = bif b1 then true else decide (a ≥ (s.size : Int))) : b2 = !decide (AtOk s a) := by
  have hI : AtOk s a ↔ VP s ∧ 0 ≤ a ∧ a < s.size := Iff.rfl
  rw [h2, h1, cond_or', cond_or', Bool.eq_iff_iff]
  simp only [Bool.or_eq_true, decide_eq_true_eq, Bool.not_eq_true', decide_eq_false_iff_not]
  rw [hI]
  by_cases h : VP s
  · simp only [h, true_and, not_true, false_or]
    omega
  · simp only [h, false_and, not_false_iff, true_or]
theorem self_mkB (s : ByteArray) : byteCells s = byteCells (mkB s.size (byteAt s)) := by
  congr 1
  exact ext_at (mkB_size _ _).symm fun i hi => (mkB_at _ _ i hi).symm
theorem xor1 (b : UInt8) (h : b = 48 ∨ b = 49) : IntKind.u8.wrap (((BitVec.ofInt 8 (b.toNat : Int) ^^^ BitVec.ofInt 8 1).toNat : Nat) : Int) = ((flB b).toNat : Int) := by
  rcases h with rfl | rfl <;> rfl
theorem f24 : E.funcs 24 = some Tryd.f24 := by kernel_rfl
theorem flip24 (s : ByteArray) (a : Int) (hs : s.size ≤ 140737488351232) : Fun E 24 [.string s, .int .i64 a] (flipV s a) := by
  have c1 := valid11 s hs
  unfold flipV
  by_cases hv : AtOk s a
  · rw [if_pos hv]
    refine Fun.of f24 rfl (of_decide_eq_true (by kernel_rfl)) rfl ?_
    obtain ⟨hv1, h0, h1⟩ := hv
    rw [decide_eq_true hv1] at c1
    have hv2 := hv1.1
    have d1 : decide (a < 0) = false := decide_eq_false (by omega)
    have d2 : decide (a ≥ (s.size : Int)) = false := decide_eq_false (by omega)
    obtain ⟨k, rfl⟩ : ∃ k : Nat, a = k := ⟨a.toNat, by omega⟩
    have g1 : 0 ≤ (k : Int) ∧ (k : Int) < s.size := ⟨h0, h1⟩
    have v1 := byteCells_at s k (by omega)
    have X : ∀ v : Value, true = true ∧ 0 + (k : Int).toNat * 1 + [v].length ≤ (byteCells s).length := by
      intro v
      rw [byteCells_length, Int.toNat_natCast]
      exact ⟨rfl, by simp only [List.length_singleton]; omega⟩
    have q4 := X (.int .u8 (IntKind.u8.wrap (BitVec.ofInt 8 ((byteAt s k).toNat : Int) ^^^ BitVec.ofInt 8 1).toNat))
    have e9 : (byteCells s).set (0 + (k : Int).toNat * 1) (.int .u8 (IntKind.u8.wrap (BitVec.ofInt 8 ((byteAt s k).toNat : Int) ^^^ BitVec.ofInt 8 1).toNat)) = byteCells (flS s k) := by
      rw [xor1 _ (hv1.2 k (by omega)), self_mkB, Int.toNat_natCast, Nat.zero_add, Nat.mul_one, mkB_set]
      congr 1
      apply mkB_congr
      intro i hi
      by_cases e : i = k
      · rw [if_pos e, if_pos e, e]
      · rw [if_neg e, if_neg e]
    have z : ((byteCells s).set (0 + (k : Int).toNat * 1) (.int .u8 (IntKind.u8.wrap (BitVec.ofInt 8 ((byteAt s k).toNat : Int) ^^^ BitVec.ofInt 8 1).toNat))).length = s.size := by rw [List.length_set, byteCells_length]
    have b3 := cells_whole _ s.size z
    have b4 : cellBytes ((byteCells s).set (0 + (k : Int).toNat * 1) (.int .u8 (IntKind.u8.wrap (BitVec.ofInt 8 ((byteAt s k).toNat : Int) ^^^ BitVec.ofInt 8 1).toNat))) = some (flS s k).data.toList := by
      rw [e9]
      exact cellBytes_byte _
    refine Wp.seq (Wp.text ?_)
    refine kp 4 (.string (ByteArray.mk #[])) ?_
    refine kp 5 (.int IntKind.i64 0) ?_
    refine WpOps.nil (thenK_at (Wp.seq (Wp.seq (Wp.text ?_))))
    refine kp 7 (.string s) ?_
    refine fr 8 11 [Value.string s] ?_
    refine WpFun.of (c1) ?_
    refine kp 9 (.bool false) ?_
    refine kp 10 (.bool false) ?_
    refine kp 11 (.int IntKind.i64 (↑k : Int)) ?_
    refine kp 12 (.bool (decide ((↑k : Int) < 0))) ?_
    refine kp 13 (.bool (decide ((↑k : Int) < 0))) ?_
    refine kp 14 (.bool (decide ((↑k : Int) < 0))) ?_
    refine kp 15 (.int IntKind.i64 (↑k : Int)) ?_
    refine kp 16 (.string s) ?_
    refine kp 17 (.int IntKind.i64 (↑(ByteArray.size s) : Int)) ?_
    refine kp 18 (.bool false) ?_ (hop := fun _ => by_fact d2)
    refine kp 19 (.bool false) ?_ (hop := fun _ => o_pickF d1)
    refine WpOps.nil (thenK_at (off' (Wp.skip (thenK_at (Wp.seq (Wp.text ?_))))))
    refine kp 20 (.string s) ?_
    refine md 21 (.slice (some ⟨0, 0, none⟩) (ByteArray.size s) (ByteArray.size s)) (Blk.mk 5 true (byteCells s)) ?_
    refine kp 6 (.slice (some ⟨0, 0, none⟩) (ByteArray.size s) (ByteArray.size s)) ?_
    refine WpOps.nil (thenK_at (Wp.seq (Wp.text ?_)))
    refine kp 22 (.slice (some ⟨0, 0, none⟩) (ByteArray.size s) (ByteArray.size s)) ?_
    refine kp 23 (.int IntKind.i64 (↑k : Int)) ?_
    refine kp 24 (.pointer (some (Addr.mk 0 (0 + Int.toNat (↑k : Int) * 1) none))) ?_ (hop := fun _ => o_indexAddr (a := (↑k : Int)) (bl := 0) (off := 0) (size := 1) 5 (ByteArray.size s) g1)
    refine kp 25 (.int IntKind.u8 (↑(UInt8.toNat (byteAt s k)) : Int)) ?_ (hop := fun _ => o_load1 0 (0 + Int.toNat (↑k : Int) * 1) v1)
    refine kp 26 (.int IntKind.u8 (IntKind.wrap .u8 (↑(BitVec.toNat (BitVec.ofInt 8 (↑(UInt8.toNat (byteAt s k)) : Int) ^^^ BitVec.ofInt 8 1)) : Int))) ?_
    refine kp 27 (.pointer (some (Addr.mk 0 (0 + Int.toNat (↑k : Int) * 1) none))) ?_ (hop := fun _ => o_indexAddr (a := (↑k : Int)) (bl := 0) (off := 0) (size := 1) 5 (ByteArray.size s) g1)
    refine ld (.tuple #[]) (0) (Blk.mk 5 true (List.set (byteCells s) (0 + Int.toNat (↑k : Int) * 1) (Value.int .u8 (IntKind.wrap .u8 (↑(BitVec.toNat (BitVec.ofInt 8 (↑(UInt8.toNat (byteAt s k)) : Int) ^^^ BitVec.ofInt 8 1)) : Int))))) ?_ (hop := fun _ => o_store1 0 (0 + Int.toNat (↑k : Int) * 1) q4)
    refine WpOps.nil (thenK_at (Wp.seq (Wp.text ?_)))
    refine kp 28 (.slice (some ⟨0, 0, none⟩) (ByteArray.size s) (ByteArray.size s)) ?_
    refine kp 29 (.string (ByteArray.mk (List.toArray (Array.toList (ByteArray.data (flS s k)))))) ?_ (hop := fun _ => o_bytes 5 0 (0) (ByteArray.size s) b3 b4)
    refine kp 4 (.string (ByteArray.mk (List.toArray (Array.toList (ByteArray.data (flS s k)))))) ?_
    refine kp 5 (.int IntKind.i64 0) ?_
    refine WpOps.nil (thenK_at (Wp.ret ?_))
    refine endK_retn [Value.string (ByteArray.mk (List.toArray (Array.toList (ByteArray.data (flS s k))))), Value.int IntKind.i64 0] (Value.tuple #[Value.string (ByteArray.mk (List.toArray (Array.toList (ByteArray.data (flS s k))))), Value.int IntKind.i64 0]) (by kernel_rfl) (by kernel_rfl) ?_
    rfl
  · rw [if_neg hv]
    refine Fun.of f24 rfl (of_decide_eq_true (by kernel_rfl)) rfl ?_
    refine Wp.seq (Wp.text ?_)
    refine kp 4 (.string (ByteArray.mk #[])) ?_
    refine kp 5 (.int IntKind.i64 0) ?_
    refine WpOps.nil (thenK_at (Wp.seq (Wp.seq (Wp.text ?_))))
    refine kp 7 (.string s) ?_
    refine fr 8 11 [Value.string s] ?_
    refine WpFun.of (c1) ?_
    refine kp 9 (.bool !decide (VP s)) ?_
    refine kp 10 (.bool !decide (VP s)) ?_
    refine WpOps.fork 3 (!decide (VP s)) [11, 12, 13] 13 (true) (decide (a < 0)) (by kernel_rfl) (fun g13 => ?_) (fun g13 => ?_) (fun f_13 b13 hb13 => ?_)
    · refine um 11 ?_ (hw := wants_tf g13)
      refine um 12 ?_ (hw := wants_tf g13)
      refine kp 13 (.bool true) ?_ (hop := fun _ => o_pickT g13)
      refine WpOps.nil ?_
      exact ⟨rfl, (.upd rfl (.upd rfl (.upd rfl .refl))), (by kernel_rfl)⟩
    · refine kp 11 (.int IntKind.i64 a) ?_ (hw := wants_ff g13)
      refine kp 12 (.bool (decide (a < 0))) ?_ (hw := wants_ff g13)
      refine kp 13 (.bool (decide (a < 0))) ?_ (hop := fun _ => o_pickF g13)
      refine WpOps.nil ?_
      exact ⟨rfl, (.upd rfl (.upd rfl (.upd rfl .refl))), (by kernel_rfl)⟩
    refine kp 14 (.bool b13) ?_
    refine WpOps.fork 5 (b13) [15, 16, 17, 18, 19] 19 (true) (decide (a ≥ (↑(ByteArray.size s) : Int))) (by kernel_rfl) (fun g19 => ?_) (fun g19 => ?_) (fun f_19 b19 hb19 => ?_)
    · refine um 15 ?_ (hw := wants_tf g19)
      refine um 16 ?_ (hw := wants_tf g19)
      refine um 17 ?_ (hw := wants_tf g19)
      refine um 18 ?_ (hw := wants_tf g19)
      refine kp 19 (.bool true) ?_ (hop := fun _ => o_pickT g19)
      refine WpOps.nil ?_
      exact ⟨rfl, (.upd rfl (.upd rfl (.upd rfl (.upd rfl (.upd rfl .refl))))), (by kernel_rfl)⟩
    · refine kp 15 (.int IntKind.i64 a) ?_ (hw := wants_ff g19)
      refine kp 16 (.string s) ?_ (hw := wants_ff g19)
      refine kp 17 (.int IntKind.i64 (↑(ByteArray.size s) : Int)) ?_ (hw := wants_ff g19)
      refine kp 18 (.bool (decide (a ≥ (↑(ByteArray.size s) : Int)))) ?_ (hw := wants_ff g19)
      refine kp 19 (.bool (decide (a ≥ (↑(ByteArray.size s) : Int)))) ?_ (hop := fun _ => o_pickF g19)
      refine WpOps.nil ?_
      exact ⟨rfl, (.upd rfl (.upd rfl (.upd rfl (.upd rfl (.upd rfl .refl))))), (by kernel_rfl)⟩
    refine WpOps.nil (thenK_at ?_)
    have e : b19 = !decide (AtOk s a) := guard3 hb13 hb19
    rw [decide_eq_false hv] at e
    have e2 : b19 = true := e
    refine on' ?_ (hc := ev_fact e2)
    refine Wp.seq (Wp.text ?_)
    refine kp 4 (.string (ByteArray.mk #[])) ?_
    refine kp 5 (.int IntKind.i64 1) ?_
    refine WpOps.nil (thenK_at (Wp.ret (thenK_ret ?_)))
    refine endK_retn [Value.string (ByteArray.mk #[]), Value.int IntKind.i64 1] (Value.tuple #[Value.string (ByteArray.mk #[]), Value.int IntKind.i64 1]) (by kernel_rfl) (by kernel_rfl) ?_
    rfl
theorem f25 : E.funcs 25 = some Tryd.f25 := by kernel_rfl
theorem cut3 (s : ByteArray) (k : Nat) (b : UInt8) (hk : k < s.size) (hb : b = flB (byteAt s k)) : s.extract 0 k ++ ⟨#[b]⟩ ++ s.extract (k + 1) s.size = flS s k := by
  have hz : (s.extract 0 k).size = k := by rw [ByteArray.size_extract]; omega
  have hz2 : (⟨#[b]⟩ : ByteArray).size = 1 := rfl
  have hz3 : (s.extract (k + 1) s.size).size = s.size - (k + 1) := by rw [ByteArray.size_extract]; omega
  refine ext_at ?_ fun i hi => ?_
  · rw [ByteArray.size_append, ByteArray.size_append, hz, hz2, hz3]
    unfold flS
    rw [mkB_size]
    omega
  · rw [ByteArray.size_append, ByteArray.size_append, hz, hz2, hz3] at hi
    unfold flS
    rw [mkB_at _ _ _ (by omega)]
    rcases Nat.lt_trichotomy i k with h | h | h
    · rw [byteAt_left _ _ _ (by rw [ByteArray.size_append, hz, hz2]; omega), byteAt_left _ _ _ (by omega), byteAt_extract _ _ _ _ (by omega), Nat.zero_add, if_neg (by omega)]
    · rw [byteAt_left _ _ _ (by rw [ByteArray.size_append, hz, hz2]; omega), if_pos h, h, ← hb]
      have h2 := byteAt_right (s.extract 0 k) ⟨#[b]⟩ 0
      rw [hz, Nat.add_zero] at h2
      rw [h2]
      rfl
    · have h2 := byteAt_right (s.extract 0 k ++ ⟨#[b]⟩) (s.extract (k + 1) s.size) (i - (k + 1))
      rw [ByteArray.size_append, hz, hz2, show k + 1 + (i - (k + 1)) = i by omega] at h2
      rw [h2, byteAt_extract _ _ _ _ (by omega), show k + 1 + (i - (k + 1)) = i by omega, if_neg (by omega)]
theorem flip25 (s : ByteArray) (a : Int) (hs : s.size ≤ 140737488351232) : Fun E 25 [.string s, .int .i64 a] (flipV s a) := by
  have c1 := valid12 s hs
  unfold flipV
  by_cases hv : AtOk s a
  · rw [if_pos hv]
    refine Fun.of f25 rfl (of_decide_eq_true (by kernel_rfl)) rfl ?_
    obtain ⟨hv1, h0, h1⟩ := hv
    rw [decide_eq_true hv1] at c1
    have hv2 := hv1.1
    have d1 : decide (a < 0) = false := decide_eq_false (by omega)
    have d2 : decide (a ≥ (s.size : Int)) = false := decide_eq_false (by omega)
    obtain ⟨k, rfl⟩ : ∃ k : Nat, a = k := ⟨a.toNat, by omega⟩
    have m3 : 0 ≤ (k : Int) := by omega
    have n3 := byte_get s k (by omega)
    have e49 := byte49 (byteAt s k)
    have e1 : IntKind.i64.wrap ((k : Int) + 1) = ((k + 1 : Nat) : Int) := by rw [wr _ (by omega) (by omega)]; omega
    have g1 : 0 ≤ (k : Int) ∧ (k : Int) ≤ s.size := by omega
    have g2 : 0 ≤ IntKind.i64.wrap ((k : Int) + 1) ∧ IntKind.i64.wrap ((k : Int) + 1) ≤ s.size := by omega
    have z1 : (s.extract 0 (k : Int).toNat).size ≤ s.size := by rw [ByteArray.size_extract]; omega
    have z2 : (s.extract (IntKind.i64.wrap ((k : Int) + 1)).toNat s.size).size ≤ s.size := by rw [ByteArray.size_extract]; omega
    have r1 : (((s.extract 0 (k : Int).toNat).size + 1 : Nat) : Int) ≤ 9223372036854775807 := by omega
    have r2 : ∀ b : UInt8, (((s.extract 0 (k : Int).toNat ++ ⟨#[b]⟩).size + (s.extract (IntKind.i64.wrap ((k : Int) + 1)).toNat s.size).size : Nat) : Int) ≤ 9223372036854775807 := by
      intro b
      have : (⟨#[b]⟩ : ByteArray).size = 1 := rfl
      rw [ByteArray.size_append, this]
      omega
    have e2 : (IntKind.i64.wrap ((k : Int) + 1)).toNat = k + 1 := by omega
    by_cases h9 : byteAt s k = 49
    · rw [decide_eq_true h9] at e49
      have r3 := r2 48
      have e5 := cut3 s k 48 (by omega) (by rw [h9]; rfl)
      refine Wp.seq (Wp.text ?_)
      refine kp 4 (.string (ByteArray.mk #[])) ?_
      refine kp 5 (.int IntKind.i64 0) ?_
      refine WpOps.nil (thenK_at (Wp.seq (Wp.seq (Wp.text ?_))))
      refine kp 6 (.string s) ?_
      refine fr 7 12 [Value.string s] ?_
      refine WpFun.of (c1) ?_
      refine kp 8 (.bool false) ?_
      refine kp 9 (.bool false) ?_
      refine kp 10 (.int IntKind.i64 (↑k : Int)) ?_
      refine kp 11 (.bool (decide ((↑k : Int) < 0))) ?_
      refine kp 12 (.bool (decide ((↑k : Int) < 0))) ?_
      refine kp 13 (.bool (decide ((↑k : Int) < 0))) ?_
      refine kp 14 (.int IntKind.i64 (↑k : Int)) ?_
      refine kp 15 (.string s) ?_
      refine kp 16 (.int IntKind.i64 (↑(ByteArray.size s) : Int)) ?_
      refine kp 17 (.bool false) ?_ (hop := fun _ => by_fact d2)
      refine kp 18 (.bool false) ?_ (hop := fun _ => o_pickF d1)
      refine WpOps.nil (thenK_at (off' (Wp.skip (thenK_at (Wp.seq (Wp.seq (Wp.text ?_)))))))
      refine kp 19 (.string s) ?_
      refine kp 20 (.int IntKind.i64 (↑k : Int)) ?_
      refine kp 21 (.int IntKind.u8 (↑(UInt8.toNat (byteAt s k)) : Int)) ?_ (hop := fun _ => o_indexStr h0 n3)
      refine kp 22 (.bool true) ?_ (hop := fun _ => by_fact e49)
      refine WpOps.nil (thenK_at (on' (Wp.seq ?_)))
      refine Wp.region (by kernel_rfl) ?_
      refine kp 23 (.string s) ?_
      refine kp 24 (.int IntKind.i64 (↑k : Int)) ?_
      refine kp 25 (.string (ByteArray.extract s 0 (Int.toNat (↑k : Int)))) ?_ (hop := fun _ => o_cut_hi g1)
      refine kp 26 (.string (ByteArray.extract s 0 (Int.toNat (↑k : Int)) ++ ByteArray.mk #[48])) ?_ (hop := fun _ => o_add r1)
      refine kp 27 (.string s) ?_
      refine kp 28 (.int IntKind.i64 (↑k : Int)) ?_
      refine kp 29 (.int IntKind.i64 (IntKind.wrap .i64 ((↑k : Int) + 1))) ?_
      refine kp 30 (.string (ByteArray.extract s (Int.toNat (IntKind.wrap .i64 ((↑k : Int) + 1))) (ByteArray.size s))) ?_ (hop := fun _ => o_cut_lo g2)
      refine kp 31 (.string (ByteArray.extract s 0 (Int.toNat (↑k : Int)) ++ ByteArray.mk #[48] ++ ByteArray.extract s (Int.toNat (IntKind.wrap .i64 ((↑k : Int) + 1))) (ByteArray.size s))) ?_ (hop := fun _ => o_add r3)
      refine kp 4 (.string (ByteArray.extract s 0 (Int.toNat (↑k : Int)) ++ ByteArray.mk #[48] ++ ByteArray.extract s (Int.toNat (IntKind.wrap .i64 ((↑k : Int) + 1))) (ByteArray.size s))) ?_
      refine kp 5 (.int IntKind.i64 0) ?_
      refine WpOps.nil (thenK_at (Wp.ret (thenK_ret ?_)))
      refine endK_retn [Value.string (ByteArray.extract s 0 (Int.toNat (↑k : Int)) ++ ByteArray.mk #[48] ++ ByteArray.extract s (Int.toNat (IntKind.wrap IntKind.i64 ((↑k : Int) + 1))) (ByteArray.size s)), Value.int IntKind.i64 0] (Value.tuple #[Value.string (ByteArray.extract s 0 (Int.toNat (↑k : Int)) ++ ByteArray.mk #[48] ++ ByteArray.extract s (Int.toNat (IntKind.wrap IntKind.i64 ((↑k : Int) + 1))) (ByteArray.size s)), Value.int IntKind.i64 0]) (by kernel_rfl) (by kernel_rfl) ?_
      rw [e2]
      show some (Value.tuple #[.string (s.extract 0 k ++ ⟨#[48]⟩ ++ s.extract (k + 1) s.size), .int .i64 0]) = _
      rw [e5]
      rfl
    · rw [decide_eq_false h9] at e49
      have r3 := r2 49
      have e5 := cut3 s k 49 (by omega) (by unfold flB; rw [if_neg h9])
      refine Wp.seq (Wp.text ?_)
      refine kp 4 (.string (ByteArray.mk #[])) ?_
      refine kp 5 (.int IntKind.i64 0) ?_
      refine WpOps.nil (thenK_at (Wp.seq (Wp.seq (Wp.text ?_))))
      refine kp 6 (.string s) ?_
      refine fr 7 12 [Value.string s] ?_
      refine WpFun.of (c1) ?_
      refine kp 8 (.bool false) ?_
      refine kp 9 (.bool false) ?_
      refine kp 10 (.int IntKind.i64 (↑k : Int)) ?_
      refine kp 11 (.bool (decide ((↑k : Int) < 0))) ?_
      refine kp 12 (.bool (decide ((↑k : Int) < 0))) ?_
      refine kp 13 (.bool (decide ((↑k : Int) < 0))) ?_
      refine kp 14 (.int IntKind.i64 (↑k : Int)) ?_
      refine kp 15 (.string s) ?_
      refine kp 16 (.int IntKind.i64 (↑(ByteArray.size s) : Int)) ?_
      refine kp 17 (.bool false) ?_ (hop := fun _ => by_fact d2)
      refine kp 18 (.bool false) ?_ (hop := fun _ => o_pickF d1)
      refine WpOps.nil (thenK_at (off' (Wp.skip (thenK_at (Wp.seq (Wp.seq (Wp.text ?_)))))))
      refine kp 19 (.string s) ?_
      refine kp 20 (.int IntKind.i64 (↑k : Int)) ?_
      refine kp 21 (.int IntKind.u8 (↑(UInt8.toNat (byteAt s k)) : Int)) ?_ (hop := fun _ => o_indexStr h0 n3)
      refine kp 22 (.bool false) ?_ (hop := fun _ => by_fact e49)
      refine WpOps.nil (thenK_at (off' (Wp.skip (thenK_at (Wp.seq ?_)))))
      refine Wp.region (by kernel_rfl) ?_
      refine kp 32 (.string s) ?_
      refine kp 33 (.int IntKind.i64 (↑k : Int)) ?_
      refine kp 34 (.string (ByteArray.extract s 0 (Int.toNat (↑k : Int)))) ?_ (hop := fun _ => o_cut_hi g1)
      refine kp 35 (.string (ByteArray.extract s 0 (Int.toNat (↑k : Int)) ++ ByteArray.mk #[49])) ?_ (hop := fun _ => o_add r1)
      refine kp 36 (.string s) ?_
      refine kp 37 (.int IntKind.i64 (↑k : Int)) ?_
      refine kp 38 (.int IntKind.i64 (IntKind.wrap .i64 ((↑k : Int) + 1))) ?_
      refine kp 39 (.string (ByteArray.extract s (Int.toNat (IntKind.wrap .i64 ((↑k : Int) + 1))) (ByteArray.size s))) ?_ (hop := fun _ => o_cut_lo g2)
      refine kp 40 (.string (ByteArray.extract s 0 (Int.toNat (↑k : Int)) ++ ByteArray.mk #[49] ++ ByteArray.extract s (Int.toNat (IntKind.wrap .i64 ((↑k : Int) + 1))) (ByteArray.size s))) ?_ (hop := fun _ => o_add r3)
      refine kp 4 (.string (ByteArray.extract s 0 (Int.toNat (↑k : Int)) ++ ByteArray.mk #[49] ++ ByteArray.extract s (Int.toNat (IntKind.wrap .i64 ((↑k : Int) + 1))) (ByteArray.size s))) ?_
      refine kp 5 (.int IntKind.i64 0) ?_
      refine WpOps.nil (thenK_at (Wp.ret ?_))
      refine endK_retn [Value.string (ByteArray.extract s 0 (Int.toNat (↑k : Int)) ++ ByteArray.mk #[49] ++ ByteArray.extract s (Int.toNat (IntKind.wrap IntKind.i64 ((↑k : Int) + 1))) (ByteArray.size s)), Value.int IntKind.i64 0] (Value.tuple #[Value.string (ByteArray.extract s 0 (Int.toNat (↑k : Int)) ++ ByteArray.mk #[49] ++ ByteArray.extract s (Int.toNat (IntKind.wrap IntKind.i64 ((↑k : Int) + 1))) (ByteArray.size s)), Value.int IntKind.i64 0]) (by kernel_rfl) (by kernel_rfl) ?_
      rw [e2]
      show some (Value.tuple #[.string (s.extract 0 k ++ ⟨#[49]⟩ ++ s.extract (k + 1) s.size), .int .i64 0]) = _
      rw [e5]
      rfl
  · rw [if_neg hv]
    refine Fun.of f25 rfl (of_decide_eq_true (by kernel_rfl)) rfl ?_
    refine Wp.seq (Wp.text ?_)
    refine kp 4 (.string (ByteArray.mk #[])) ?_
    refine kp 5 (.int IntKind.i64 0) ?_
    refine WpOps.nil (thenK_at (Wp.seq (Wp.seq (Wp.text ?_))))
    refine kp 6 (.string s) ?_
    refine fr 7 12 [Value.string s] ?_
    refine WpFun.of (c1) ?_
    refine kp 8 (.bool !decide (VP s)) ?_
    refine kp 9 (.bool !decide (VP s)) ?_
    refine WpOps.fork 3 (!decide (VP s)) [10, 11, 12] 12 (true) (decide (a < 0)) (by kernel_rfl) (fun g12 => ?_) (fun g12 => ?_) (fun f_12 b12 hb12 => ?_)
    · refine um 10 ?_ (hw := wants_tf g12)
      refine um 11 ?_ (hw := wants_tf g12)
      refine kp 12 (.bool true) ?_ (hop := fun _ => o_pickT g12)
      refine WpOps.nil ?_
      exact ⟨rfl, (.upd rfl (.upd rfl (.upd rfl .refl))), (by kernel_rfl)⟩
    · refine kp 10 (.int IntKind.i64 a) ?_ (hw := wants_ff g12)
      refine kp 11 (.bool (decide (a < 0))) ?_ (hw := wants_ff g12)
      refine kp 12 (.bool (decide (a < 0))) ?_ (hop := fun _ => o_pickF g12)
      refine WpOps.nil ?_
      exact ⟨rfl, (.upd rfl (.upd rfl (.upd rfl .refl))), (by kernel_rfl)⟩
    refine kp 13 (.bool b12) ?_
    refine WpOps.fork 5 (b12) [14, 15, 16, 17, 18] 18 (true) (decide (a ≥ (↑(ByteArray.size s) : Int))) (by kernel_rfl) (fun g18 => ?_) (fun g18 => ?_) (fun f_18 b18 hb18 => ?_)
    · refine um 14 ?_ (hw := wants_tf g18)
      refine um 15 ?_ (hw := wants_tf g18)
      refine um 16 ?_ (hw := wants_tf g18)
      refine um 17 ?_ (hw := wants_tf g18)
      refine kp 18 (.bool true) ?_ (hop := fun _ => o_pickT g18)
      refine WpOps.nil ?_
      exact ⟨rfl, (.upd rfl (.upd rfl (.upd rfl (.upd rfl (.upd rfl .refl))))), (by kernel_rfl)⟩
    · refine kp 14 (.int IntKind.i64 a) ?_ (hw := wants_ff g18)
      refine kp 15 (.string s) ?_ (hw := wants_ff g18)
      refine kp 16 (.int IntKind.i64 (↑(ByteArray.size s) : Int)) ?_ (hw := wants_ff g18)
      refine kp 17 (.bool (decide (a ≥ (↑(ByteArray.size s) : Int)))) ?_ (hw := wants_ff g18)
      refine kp 18 (.bool (decide (a ≥ (↑(ByteArray.size s) : Int)))) ?_ (hop := fun _ => o_pickF g18)
      refine WpOps.nil ?_
      exact ⟨rfl, (.upd rfl (.upd rfl (.upd rfl (.upd rfl (.upd rfl .refl))))), (by kernel_rfl)⟩
    refine WpOps.nil (thenK_at ?_)
    have e : b18 = !decide (AtOk s a) := guard3 hb12 hb18
    rw [decide_eq_false hv] at e
    have e2 : b18 = true := e
    refine on' ?_ (hc := ev_fact e2)
    refine Wp.seq (Wp.text ?_)
    refine kp 4 (.string (ByteArray.mk #[])) ?_
    refine kp 5 (.int IntKind.i64 1) ?_
    refine WpOps.nil (thenK_at (Wp.ret (thenK_ret ?_)))
    refine endK_retn [Value.string (ByteArray.mk #[]), Value.int IntKind.i64 1] (Value.tuple #[Value.string (ByteArray.mk #[]), Value.int IntKind.i64 1]) (by kernel_rfl) (by kernel_rfl) ?_
    rfl
end Go.Proofs.YthhlfddpacmhfaaDoor.D
