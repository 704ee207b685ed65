/- Frames: bits.Sum, link.Frame and the document's. -/
import Derived.Test.YtgefohjickhldaaFwLem
import Derived.Test.YtgefohjickhldaaF10a
namespace Go.Proofs.Ytgefohjickhldaa.D
open Go.Fw Go.RowKit

theorem f32 : E.funcs 32 = some Try.f32 := by kernel_rfl
theorem sum32 (b : ByteArray) (hb : b.size ≤ 4000) : Fun E 32 [.string b] (.tuple #[.string (sumS b), .int .i64 0]) := by
  refine Fun.of f32 rfl (of_decide_eq_true (by kernel_rfl)) rfl ?_
  have c0 : decide ((b.size : Int) > 4000) = false := decide_eq_false (by omega)
  refine Wp.seq (Wp.text (kp 2 (.string (ByteArray.mk #[])) (kp 3 (vI 0) (WpOps.nil (thenK_at (Wp.seq (Wp.seq (Wp.text (kp 7 (.string b) (kp 8 (vI (ByteArray.size b)) (kp 9 vF (WpOps.nil (thenK_at (off' (Wp.skip (thenK_at (Wp.seq (Wp.text (kp 4 (vI 0) (kp 5 (vI 0) (WpOps.nil (thenK_at (Wp.seq (Wp.seq (Wp.text (kp 10 (.string b) (kp 11 (vI (ByteArray.size b)) (kp 12 (vI 0) (WpOps.nil (thenK_at (Wp.block ?_)))))))))))))))))))) (hop := fun _ => by_fact c0))))))))))))
  refine Wp.loop (G := Nat) (fun i => layj [(0, .string b), (4, .int .i64 (sumAt b i).1), (5, .int .i64 (sumAt b i).2), (11, .int .i64 b.size), (12, .int .i64 i)]) (fun _ => heapOf []) (fun i => b.size - i) (fun i => i ≤ b.size) 0
    (View.of [] [] _ List.nodup_nil rfl trivial ⟨⟨by kernel_rfl, rfl⟩, ⟨by kernel_rfl, rfl⟩, ⟨by kernel_rfl, rfl⟩, ⟨by kernel_rfl, rfl⟩, ⟨by kernel_rfl, rfl⟩, trivial⟩) (Nat.zero_le _) ?_
  intro i hi
  refine Wp.seq (Wp.text (kp 13 (.bool (decide ((↑i : Int) < (↑(ByteArray.size b) : Int)))) (WpOps.nil (thenK_at (Wp.seq ?_)))))
  refine Wp.split (decide ((↑i : Int) < (↑(ByteArray.size b) : Int))) (by kernel_rfl) (fun hc => ?_) (fun hc => ?_)
  · have hlt : (i : Int) < b.size := of_decide_eq_true hc
    have h0 : 0 ≤ (i : Int) ∧ (i : Int) < b.size := ⟨Int.natCast_nonneg _, hlt⟩
    have hv := byte_get b i (by omega)
    refine Wp.skip (thenK_at (Wp.seq (Wp.block (Wp.seq (Wp.text (kp 14 (vI i) (kp 6 (vI i) (WpOps.nil (thenK_at (Wp.seq (Wp.text (kp 15 (vI (Prod.fst (sumAt b i))) (kp 16 (.string b) (kp 17 (vI i) (kp 18 (.int .u8 (↑(UInt8.toNat (byteAt b i)) : Int)) (kp 19 (vI (IntKind.wrap .i64 (↑(UInt8.toNat (byteAt b i)) : Int))) (kp 20 (vI (IntKind.wrap .i64 (Prod.fst (sumAt b i) + IntKind.wrap .i64 (↑(UInt8.toNat (byteAt b i)) : Int)))) (kp 21 (vI (Int.tmod (IntKind.wrap .i64 (Prod.fst (sumAt b i) + IntKind.wrap .i64 (↑(UInt8.toNat (byteAt b i)) : Int))) 255)) (kp 4 (vI (Int.tmod (IntKind.wrap .i64 (Prod.fst (sumAt b i) + IntKind.wrap .i64 (↑(UInt8.toNat (byteAt b i)) : Int))) 255)) (WpOps.nil (thenK_at (Wp.text (kp 22 (vI (Prod.snd (sumAt b i))) (kp 23 (vI (Int.tmod (IntKind.wrap .i64 (Prod.fst (sumAt b i) + IntKind.wrap .i64 (↑(UInt8.toNat (byteAt b i)) : Int))) 255)) (kp 24 (vI (IntKind.wrap .i64 (Prod.snd (sumAt b i) + Int.tmod (IntKind.wrap .i64 (Prod.fst (sumAt b i) + IntKind.wrap .i64 (↑(UInt8.toNat (byteAt b i)) : Int))) 255))) (kp 25 (vI (Int.tmod (IntKind.wrap .i64 (Prod.snd (sumAt b i) + Int.tmod (IntKind.wrap .i64 (Prod.fst (sumAt b i) + IntKind.wrap .i64 (↑(UInt8.toNat (byteAt b i)) : Int))) 255)) 255)) (kp 5 (vI (Int.tmod (IntKind.wrap .i64 (Prod.snd (sumAt b i) + Int.tmod (IntKind.wrap .i64 (Prod.fst (sumAt b i) + IntKind.wrap .i64 (↑(UInt8.toNat (byteAt b i)) : Int))) 255)) 255)) ?_)))))))))))) (hop := fun _ => o_indexStr (of_decide_eq_true (by kernel_rfl)) hv))))))))))))))))
    refine WpOps.nil (blockK_norm (thenK_at (Wp.text (kp 26 (vI (IntKind.wrap .i64 ((↑i : Int) + 1))) (kp 12 (vI (IntKind.wrap .i64 ((↑i : Int) + 1))) (WpOps.nil (thenK_at ?_)))))))
    exact ⟨i + 1, by omega, by omega, View.of [] [] _ List.nodup_nil rfl trivial ⟨⟨by kernel_rfl, rfl⟩, ⟨by kernel_rfl, rfl⟩, ⟨by kernel_rfl, rfl⟩, ⟨by kernel_rfl, rfl⟩, ⟨congrArg (Value.int .i64) (wr _ (by omega) (by omega)), rfl⟩, trivial⟩⟩
  · refine Wp.exit (thenK_exit (thenK_exit (blockK_hit (thenK_at (Wp.seq (Wp.text (kp 27 (vI (Prod.fst (sumAt b i))) (kp 28 (.int .u8 (IntKind.wrap .u8 (Prod.fst (sumAt b i)))) (kp 29 (vI (Prod.snd (sumAt b i))) (kp 30 (.int .u8 (IntKind.wrap .u8 (Prod.snd (sumAt b i)))) (md 31 (.slice (some ⟨0, 0, none⟩) 2 2) (Blk.mk 5 true [Value.int .u8 (IntKind.wrap .u8 (Prod.fst (sumAt b i))), Value.int .u8 (IntKind.wrap .u8 (Prod.snd (sumAt b i)))]) (kp 32 (.string (ByteArray.mk #[UInt8.ofNat (Int.toNat (IntKind.wrap .u8 (Prod.fst (sumAt b i)))), UInt8.ofNat (Int.toNat (IntKind.wrap .u8 (Prod.snd (sumAt b i))))])) (kp 2 (.string (ByteArray.mk #[UInt8.ofNat (Int.toNat (IntKind.wrap .u8 (Prod.fst (sumAt b i)))), UInt8.ofNat (Int.toNat (IntKind.wrap .u8 (Prod.snd (sumAt b i))))])) (kp 3 (vI 0) (WpOps.nil (thenK_at (Wp.ret (endK_retn [Value.string (ByteArray.mk #[UInt8.ofNat (Int.toNat (IntKind.wrap IntKind.u8 (Prod.fst (sumAt b i)))), UInt8.ofNat (Int.toNat (IntKind.wrap IntKind.u8 (Prod.snd (sumAt b i))))]), vI 0] (Value.tuple #[Value.string (ByteArray.mk #[UInt8.ofNat (Int.toNat (IntKind.wrap IntKind.u8 (Prod.fst (sumAt b i)))), UInt8.ofNat (Int.toNat (IntKind.wrap IntKind.u8 (Prod.snd (sumAt b i))))]), vI 0]) (by kernel_rfl) (by kernel_rfl) ?_))))))))))))))))))
    obtain rfl : i = b.size := by have := of_decide_eq_false hc; omega
    rfl
theorem f34 : E.funcs 34 = some Try.f34 := by kernel_rfl
theorem sum34 (b : ByteArray) (hb : b.size ≤ 4000) : Fun E 34 [.string b] (.tuple #[.string (sumS b), .int .i64 0]) := by
  refine Fun.of f34 rfl (of_decide_eq_true (by kernel_rfl)) rfl ?_
  have c0 : decide ((b.size : Int) > 4000) = false := decide_eq_false (by omega)
  refine Wp.seq (Wp.text (kp 2 (.string (ByteArray.mk #[])) (kp 3 (vI 0) (WpOps.nil (thenK_at (Wp.seq (Wp.seq (Wp.text (kp 7 (.string b) (kp 8 (vI (ByteArray.size b)) (kp 9 vF (WpOps.nil (thenK_at (off' (Wp.skip (thenK_at (Wp.seq (Wp.text (kp 4 (vI 0) (WpOps.nil (thenK_at (Wp.seq (Wp.text (kp 5 (vI 0) (WpOps.nil (thenK_at (Wp.seq (Wp.seq (Wp.text (kp 6 (vI 0) (WpOps.nil (thenK_at (Wp.block ?_)))))))))))))))))))))) (hop := fun _ => by_fact c0))))))))))))
  refine Wp.loop (G := Nat) (fun i => layj [(0, .string b), (4, .int .i64 (sumAt b i).1), (5, .int .i64 (sumAt b i).2), (6, .int .i64 i)]) (fun _ => heapOf []) (fun i => b.size - i) (fun i => i ≤ b.size) 0
    (View.of [] [] _ List.nodup_nil rfl trivial ⟨⟨by kernel_rfl, rfl⟩, ⟨by kernel_rfl, rfl⟩, ⟨by kernel_rfl, rfl⟩, ⟨by kernel_rfl, rfl⟩, trivial⟩) (Nat.zero_le _) ?_
  intro i hi
  refine Wp.seq (Wp.seq (Wp.text (kp 10 (vI i) (kp 11 (.string b) (kp 12 (vI (ByteArray.size b)) (kp 13 (.bool (decide ((↑i : Int) < (↑(ByteArray.size b) : Int)))) (WpOps.nil (thenK_at ?_))))))))
  refine Wp.split (decide ((↑i : Int) < (↑(ByteArray.size b) : Int))) (by kernel_rfl) (fun hc => ?_) (fun hc => ?_)
  · have hlt : (i : Int) < b.size := of_decide_eq_true hc
    have h0 : 0 ≤ (i : Int) ∧ (i : Int) < b.size := ⟨Int.natCast_nonneg _, hlt⟩
    have hv := byte_get b i (by omega)
    refine Wp.skip (thenK_at (Wp.seq (Wp.block (Wp.seq (Wp.text (kp 16 (vI (Prod.fst (sumAt b i))) (kp 17 (.string b) (kp 18 (vI i) (kp 19 (.int .u8 (↑(UInt8.toNat (byteAt b i)) : Int)) (kp 20 (vI (IntKind.wrap .i64 (↑(UInt8.toNat (byteAt b i)) : Int))) (kp 21 (vI (IntKind.wrap .i64 (Prod.fst (sumAt b i) + IntKind.wrap .i64 (↑(UInt8.toNat (byteAt b i)) : Int)))) (kp 22 (vI (Int.tmod (IntKind.wrap .i64 (Prod.fst (sumAt b i) + IntKind.wrap .i64 (↑(UInt8.toNat (byteAt b i)) : Int))) 255)) (kp 4 (vI (Int.tmod (IntKind.wrap .i64 (Prod.fst (sumAt b i) + IntKind.wrap .i64 (↑(UInt8.toNat (byteAt b i)) : Int))) 255)) (WpOps.nil (thenK_at (Wp.text (kp 23 (vI (Prod.snd (sumAt b i))) (kp 24 (vI (Int.tmod (IntKind.wrap .i64 (Prod.fst (sumAt b i) + IntKind.wrap .i64 (↑(UInt8.toNat (byteAt b i)) : Int))) 255)) (kp 25 (vI (IntKind.wrap .i64 (Prod.snd (sumAt b i) + Int.tmod (IntKind.wrap .i64 (Prod.fst (sumAt b i) + IntKind.wrap .i64 (↑(UInt8.toNat (byteAt b i)) : Int))) 255))) (kp 26 (vI (Int.tmod (IntKind.wrap .i64 (Prod.snd (sumAt b i) + Int.tmod (IntKind.wrap .i64 (Prod.fst (sumAt b i) + IntKind.wrap .i64 (↑(UInt8.toNat (byteAt b i)) : Int))) 255)) 255)) (kp 5 (vI (Int.tmod (IntKind.wrap .i64 (Prod.snd (sumAt b i) + Int.tmod (IntKind.wrap .i64 (Prod.fst (sumAt b i) + IntKind.wrap .i64 (↑(UInt8.toNat (byteAt b i)) : Int))) 255)) 255)) ?_)))))))))))) (hop := fun _ => o_indexStr (of_decide_eq_true (by kernel_rfl)) hv))))))))))
    refine WpOps.nil (blockK_norm (thenK_at (Wp.text (kp 14 (vI i) (kp 15 (vI (IntKind.wrap .i64 ((↑i : Int) + 1))) (kp 6 (vI (IntKind.wrap .i64 ((↑i : Int) + 1))) (WpOps.nil (thenK_at ?_))))))))
    exact ⟨i + 1, by omega, by omega, View.of [] [] _ List.nodup_nil rfl trivial ⟨⟨by kernel_rfl, rfl⟩, ⟨by kernel_rfl, rfl⟩, ⟨by kernel_rfl, rfl⟩, ⟨congrArg (Value.int .i64) (wr _ (by omega) (by omega)), rfl⟩, trivial⟩⟩
  · refine Wp.exit (thenK_exit (thenK_exit (blockK_hit (thenK_at (Wp.seq (Wp.text (kp 27 (vI (Prod.fst (sumAt b i))) (kp 28 (.int .u8 (IntKind.wrap .u8 (Prod.fst (sumAt b i)))) (kp 29 (vI (Prod.snd (sumAt b i))) (kp 30 (.int .u8 (IntKind.wrap .u8 (Prod.snd (sumAt b i)))) (md 31 (.slice (some ⟨0, 0, none⟩) 2 2) (Blk.mk 5 true [Value.int .u8 (IntKind.wrap .u8 (Prod.fst (sumAt b i))), Value.int .u8 (IntKind.wrap .u8 (Prod.snd (sumAt b i)))]) (kp 32 (.string (ByteArray.mk #[UInt8.ofNat (Int.toNat (IntKind.wrap .u8 (Prod.fst (sumAt b i)))), UInt8.ofNat (Int.toNat (IntKind.wrap .u8 (Prod.snd (sumAt b i))))])) (kp 2 (.string (ByteArray.mk #[UInt8.ofNat (Int.toNat (IntKind.wrap .u8 (Prod.fst (sumAt b i)))), UInt8.ofNat (Int.toNat (IntKind.wrap .u8 (Prod.snd (sumAt b i))))])) (kp 3 (vI 0) (WpOps.nil (thenK_at (Wp.ret (endK_retn [Value.string (ByteArray.mk #[UInt8.ofNat (Int.toNat (IntKind.wrap IntKind.u8 (Prod.fst (sumAt b i)))), UInt8.ofNat (Int.toNat (IntKind.wrap IntKind.u8 (Prod.snd (sumAt b i))))]), vI 0] (Value.tuple #[Value.string (ByteArray.mk #[UInt8.ofNat (Int.toNat (IntKind.wrap IntKind.u8 (Prod.fst (sumAt b i)))), UInt8.ofNat (Int.toNat (IntKind.wrap IntKind.u8 (Prod.snd (sumAt b i))))]), vI 0]) (by kernel_rfl) (by kernel_rfl) ?_))))))))))))))))))
    obtain rfl : i = b.size := by have := of_decide_eq_false hc; omega
    rfl

/-! ## frames -/
/-- Are these the numbers of a frame? -/
def Fit (k g s r : Int) (n : Nat) : Prop := (1 ≤ k ∧ k ≤ 8) ∧ (0 ≤ g ∧ g ≤ 255) ∧ (0 ≤ s ∧ s ≤ 7) ∧ (0 ≤ r ∧ r ≤ 7) ∧ (k = 3 ∨ (s = 0 ∧ n = 0)) ∧ (r = 0 ∨ k = 3 ∨ k = 4 ∨ k = 5) ∧ n ≤ 1000
instance (k g s r : Int) (n : Nat) : Decidable (Fit k g s r n) := inferInstanceAs (Decidable (_ ∧ _))
theorem cond_or (a b : Bool) : (bif a then true else b) = (a || b) := by cases a <;> rfl
theorem cond_and (a b : Bool) : (bif a then b else false) = (a && b) := by cases a <;> rfl
theorem empty_ne (d : ByteArray) : (!(d.toList == ByteArray.toList (ByteArray.mk #[]))) = decide (d.size ≠ 0) := by
  rw [str_beq, ← decide_not]
  refine decide_eq_decide.2 (not_congr ⟨fun h => by rw [h]; rfl, fun h => ?_⟩)
  exact ByteArray.ext (Array.eq_empty_of_size_eq_zero h)
theorem f33 : E.funcs 33 = some Try.f33 := by kernel_rfl
theorem fits33 (k g s r : Int) (d : ByteArray) : Fun E 33 [.int .i64 k, .int .i64 g, .int .i64 s, .int .i64 r, .string d] (.bool (decide (Fit k g s r d.size))) := by
  refine Fun.of f33 rfl (of_decide_eq_true (by kernel_rfl)) rfl ?_
  refine Wp.seq (Wp.text (kp 10 vF (WpOps.nil (thenK_at (Wp.seq (Wp.seq (Wp.text (kp 11 (vI k) (kp 12 (.bool (decide (k < 1))) (kp 13 (.bool (decide (k < 1))) ?_))))))))))
  refine WpOps.fork 3 (decide (k < 1)) [14, 15, 16] 16 (true) (decide (k > 8)) (by kernel_rfl) (fun g16 => ?_) (fun g16 => ?_) (fun f_16 b16 hb16 => ?_)
  · refine um 14 (um 15 (kp 16 vT (WpOps.nil ?_) (hop := fun _ => o_pickT g16)) (hw := wants_tf g16)) (hw := wants_tf g16)
    exact ⟨rfl, (.upd rfl (.upd rfl (.upd rfl .refl))), (by kernel_rfl)⟩
  · refine kp 14 (vI k) (kp 15 (.bool (decide (k > 8))) (kp 16 (.bool (decide (k > 8))) (WpOps.nil ?_) (hop := fun _ => o_pickF g16)) (hw := wants_ff g16)) (hw := wants_ff g16)
    exact ⟨rfl, (.upd rfl (.upd rfl (.upd rfl .refl))), (by kernel_rfl)⟩
  refine kp 17 (.bool b16) ?_
  refine WpOps.fork 3 (b16) [18, 19, 20] 20 (true) (decide (g < 0)) (by kernel_rfl) (fun g20 => ?_) (fun g20 => ?_) (fun f_20 b20 hb20 => ?_)
  · refine um 18 (um 19 (kp 20 vT (WpOps.nil ?_) (hop := fun _ => o_pickT g20)) (hw := wants_tf g20)) (hw := wants_tf g20)
    exact ⟨rfl, (.upd rfl (.upd rfl (.upd rfl .refl))), (by kernel_rfl)⟩
  · refine kp 18 (vI g) (kp 19 (.bool (decide (g < 0))) (kp 20 (.bool (decide (g < 0))) (WpOps.nil ?_) (hop := fun _ => o_pickF g20)) (hw := wants_ff g20)) (hw := wants_ff g20)
    exact ⟨rfl, (.upd rfl (.upd rfl (.upd rfl .refl))), (by kernel_rfl)⟩
  refine kp 21 (.bool b20) ?_
  refine WpOps.fork 3 (b20) [22, 23, 24] 24 (true) (decide (g > 255)) (by kernel_rfl) (fun g24 => ?_) (fun g24 => ?_) (fun f_24 b24 hb24 => ?_)
  · refine um 22 (um 23 (kp 24 vT (WpOps.nil ?_) (hop := fun _ => o_pickT g24)) (hw := wants_tf g24)) (hw := wants_tf g24)
    exact ⟨rfl, (.upd rfl (.upd rfl (.upd rfl .refl))), (by kernel_rfl)⟩
  · refine kp 22 (vI g) (kp 23 (.bool (decide (g > 255))) (kp 24 (.bool (decide (g > 255))) (WpOps.nil ?_) (hop := fun _ => o_pickF g24)) (hw := wants_ff g24)) (hw := wants_ff g24)
    exact ⟨rfl, (.upd rfl (.upd rfl (.upd rfl .refl))), (by kernel_rfl)⟩
  refine kp 25 (.bool b24) ?_
  refine WpOps.fork 3 (b24) [26, 27, 28] 28 (true) (decide (s < 0)) (by kernel_rfl) (fun g28 => ?_) (fun g28 => ?_) (fun f_28 b28 hb28 => ?_)
  · refine um 26 (um 27 (kp 28 vT (WpOps.nil ?_) (hop := fun _ => o_pickT g28)) (hw := wants_tf g28)) (hw := wants_tf g28)
    exact ⟨rfl, (.upd rfl (.upd rfl (.upd rfl .refl))), (by kernel_rfl)⟩
  · refine kp 26 (vI s) (kp 27 (.bool (decide (s < 0))) (kp 28 (.bool (decide (s < 0))) (WpOps.nil ?_) (hop := fun _ => o_pickF g28)) (hw := wants_ff g28)) (hw := wants_ff g28)
    exact ⟨rfl, (.upd rfl (.upd rfl (.upd rfl .refl))), (by kernel_rfl)⟩
  refine kp 29 (.bool b28) ?_
  refine WpOps.fork 3 (b28) [30, 31, 32] 32 (true) (decide (s > 7)) (by kernel_rfl) (fun g32 => ?_) (fun g32 => ?_) (fun f_32 b32 hb32 => ?_)
  · refine um 30 (um 31 (kp 32 vT (WpOps.nil ?_) (hop := fun _ => o_pickT g32)) (hw := wants_tf g32)) (hw := wants_tf g32)
    exact ⟨rfl, (.upd rfl (.upd rfl (.upd rfl .refl))), (by kernel_rfl)⟩
  · refine kp 30 (vI s) (kp 31 (.bool (decide (s > 7))) (kp 32 (.bool (decide (s > 7))) (WpOps.nil ?_) (hop := fun _ => o_pickF g32)) (hw := wants_ff g32)) (hw := wants_ff g32)
    exact ⟨rfl, (.upd rfl (.upd rfl (.upd rfl .refl))), (by kernel_rfl)⟩
  refine kp 33 (.bool b32) ?_
  refine WpOps.fork 3 (b32) [34, 35, 36] 36 (true) (decide (r < 0)) (by kernel_rfl) (fun g36 => ?_) (fun g36 => ?_) (fun f_36 b36 hb36 => ?_)
  · refine um 34 (um 35 (kp 36 vT (WpOps.nil ?_) (hop := fun _ => o_pickT g36)) (hw := wants_tf g36)) (hw := wants_tf g36)
    exact ⟨rfl, (.upd rfl (.upd rfl (.upd rfl .refl))), (by kernel_rfl)⟩
  · refine kp 34 (vI r) (kp 35 (.bool (decide (r < 0))) (kp 36 (.bool (decide (r < 0))) (WpOps.nil ?_) (hop := fun _ => o_pickF g36)) (hw := wants_ff g36)) (hw := wants_ff g36)
    exact ⟨rfl, (.upd rfl (.upd rfl (.upd rfl .refl))), (by kernel_rfl)⟩
  refine kp 37 (.bool b36) ?_
  refine WpOps.fork 3 (b36) [38, 39, 40] 40 (true) (decide (r > 7)) (by kernel_rfl) (fun g40 => ?_) (fun g40 => ?_) (fun f_40 b40 hb40 => ?_)
  · refine um 38 (um 39 (kp 40 vT (WpOps.nil ?_) (hop := fun _ => o_pickT g40)) (hw := wants_tf g40)) (hw := wants_tf g40)
    exact ⟨rfl, (.upd rfl (.upd rfl (.upd rfl .refl))), (by kernel_rfl)⟩
  · refine kp 38 (vI r) (kp 39 (.bool (decide (r > 7))) (kp 40 (.bool (decide (r > 7))) (WpOps.nil ?_) (hop := fun _ => o_pickF g40)) (hw := wants_ff g40)) (hw := wants_ff g40)
    exact ⟨rfl, (.upd rfl (.upd rfl (.upd rfl .refl))), (by kernel_rfl)⟩
  refine WpOps.nil (thenK_at ?_)
  refine Wp.split (b40) (by kernel_rfl) (fun hc => ?_) (fun hc => ?_)
  · rw [hb40, hb36, hb32, hb28, hb24, hb20, hb16] at hc
    simp only [cond_or, Bool.or_eq_true, decide_eq_true_eq] at hc
    have h : ¬ Fit k g s r d.size := by unfold Fit; omega
    refine Wp.seq (Wp.text (kp 10 vF (WpOps.nil (thenK_at (Wp.ret (thenK_ret (endK_retn [vF] vF (by kernel_rfl) (by kernel_rfl) ?_)))))))
    rw [decide_eq_false h]
    rfl
  · rw [hb40, hb36, hb32, hb28, hb24, hb20, hb16] at hc
    simp only [cond_or, Bool.or_eq_false_iff, decide_eq_false_iff_not] at hc
    refine Wp.skip (thenK_at (Wp.seq (Wp.seq (Wp.text (kp 41 (vI k) (kp 42 (.bool (k != 3)) (kp 43 (.bool (k != 3)) ?_)))))))
    refine WpOps.fork 7 (k != 3) [44, 45, 46, 47, 48, 49, 50] 50 (bif s != 0 then true else !ByteArray.toList d == ByteArray.toList (ByteArray.mk #[])) (false) (by kernel_rfl) (fun g50 => ?_) (fun g50 => ?_) (fun f_50 b50 hb50 => ?_)
    · refine kp 44 (vI s) (kp 45 (.bool (s != 0)) (kp 46 (.bool (s != 0)) ?_ (hw := wants_tt g50)) (hw := wants_tt g50)) (hw := wants_tt g50)
      refine WpOps.forkE 4 (s != 0) [47, 48, 49, 50] 50 (true) (!ByteArray.toList d == ByteArray.toList (ByteArray.mk #[])) (by kernel_rfl) (fun g50' => ?_) (fun g50' => ?_) (fun f_50 => ?_)
      · refine um 47 (um 48 (kp 49 vT (kp 50 vT (WpOps.nil ?_) (hop := fun _ => o_pickT g50)) (hw := wants_tt g50) (hop := fun _ => o_pickT g50')) (hw := wants_tf g50')) (hw := wants_tf g50')
        exact ⟨rfl, (.upd rfl (.upd rfl (.upd rfl (.upd rfl .refl)))), (by kernel_rfl)⟩
      · refine kp 47 (.string d) (kp 48 (.bool !ByteArray.toList d == ByteArray.toList (ByteArray.mk #[])) (kp 49 (.bool !ByteArray.toList d == ByteArray.toList (ByteArray.mk #[])) (kp 50 (.bool !ByteArray.toList d == ByteArray.toList (ByteArray.mk #[])) (WpOps.nil ?_) (hop := fun _ => o_pickT g50)) (hw := wants_tt g50) (hop := fun _ => o_pickF g50')) (hw := wants_ff g50')) (hw := wants_ff g50')
        exact ⟨rfl, (.upd rfl (.upd rfl (.upd rfl (.upd rfl .refl)))), (by kernel_rfl)⟩
      refine WpOps.nil ?_
      exact ⟨rfl, (.upd rfl (.mix rfl (.upd rfl (.upd rfl (.upd rfl .refl))))), (by kernel_rfl)⟩
    · refine um 44 (um 45 (um 46 (um 47 (um 48 (um 49 (kp 50 vF (WpOps.nil ?_) (hop := fun _ => o_pickF g50)) (hw := wants_ft g50)))) (hw := wants_ft g50)) (hw := wants_ft g50)) (hw := wants_ft g50)
      exact ⟨rfl, (.upd rfl (.upd rfl (.upd rfl (.upd rfl (.upd rfl (.upd rfl (.upd rfl .refl))))))), (by kernel_rfl)⟩
    refine WpOps.nil (thenK_at ?_)
    refine Wp.split (b50) (by kernel_rfl) (fun hd => ?_) (fun hd => ?_)
    · rw [hb50, empty_ne] at hd
      simp only [cond_or, cond_and, Bool.or_eq_true, Bool.and_eq_true, decide_eq_true_eq, bne_iff_ne, ne_eq] at hd
      have h : ¬ Fit k g s r d.size := by unfold Fit; omega
      refine Wp.seq (Wp.text (kp 10 vF (WpOps.nil (thenK_at (Wp.ret (thenK_ret (endK_retn [vF] vF (by kernel_rfl) (by kernel_rfl) ?_)))))))
      rw [decide_eq_false h]
      rfl
    · rw [hb50, empty_ne] at hd
      have hd2 : ¬ (k ≠ 3 ∧ (s ≠ 0 ∨ d.size ≠ 0)) := fun h => by
        have : (bif k != 3 then bif s != 0 then true else decide (d.size ≠ 0) else false) = true := by
          simp only [cond_or, cond_and, Bool.or_eq_true, Bool.and_eq_true, decide_eq_true_eq, bne_iff_ne, ne_eq]
          exact h
        rw [hd] at this
        cases this
      refine Wp.skip (thenK_at (Wp.seq (Wp.text (kp 51 (vI r) (kp 52 (.bool (r == 0)) (kp 53 (.bool (r == 0)) ?_))))))
      refine WpOps.fork 3 (r == 0) [54, 55, 56] 56 (true) (k == 3) (by kernel_rfl) (fun g56 => ?_) (fun g56 => ?_) (fun f_56 b56 hb56 => ?_)
      · refine um 54 (um 55 (kp 56 vT (WpOps.nil ?_) (hop := fun _ => o_pickT g56)) (hw := wants_tf g56)) (hw := wants_tf g56)
        exact ⟨rfl, (.upd rfl (.upd rfl (.upd rfl .refl))), (by kernel_rfl)⟩
      · refine kp 54 (vI k) (kp 55 (.bool (k == 3)) (kp 56 (.bool (k == 3)) (WpOps.nil ?_) (hop := fun _ => o_pickF g56)) (hw := wants_ff g56)) (hw := wants_ff g56)
        exact ⟨rfl, (.upd rfl (.upd rfl (.upd rfl .refl))), (by kernel_rfl)⟩
      refine kp 57 (.bool b56) ?_
      refine WpOps.fork 3 (b56) [58, 59, 60] 60 (true) (k == 4) (by kernel_rfl) (fun g60 => ?_) (fun g60 => ?_) (fun f_60 b60 hb60 => ?_)
      · refine um 58 (um 59 (kp 60 vT (WpOps.nil ?_) (hop := fun _ => o_pickT g60)) (hw := wants_tf g60)) (hw := wants_tf g60)
        exact ⟨rfl, (.upd rfl (.upd rfl (.upd rfl .refl))), (by kernel_rfl)⟩
      · refine kp 58 (vI k) (kp 59 (.bool (k == 4)) (kp 60 (.bool (k == 4)) (WpOps.nil ?_) (hop := fun _ => o_pickF g60)) (hw := wants_ff g60)) (hw := wants_ff g60)
        exact ⟨rfl, (.upd rfl (.upd rfl (.upd rfl .refl))), (by kernel_rfl)⟩
      refine kp 61 (.bool b60) ?_
      refine WpOps.fork 3 (b60) [62, 63, 64] 64 (true) (k == 5) (by kernel_rfl) (fun g64 => ?_) (fun g64 => ?_) (fun f_64 b64 hb64 => ?_)
      · refine um 62 (um 63 (kp 64 vT (WpOps.nil ?_) (hop := fun _ => o_pickT g64)) (hw := wants_tf g64)) (hw := wants_tf g64)
        exact ⟨rfl, (.upd rfl (.upd rfl (.upd rfl .refl))), (by kernel_rfl)⟩
      · refine kp 62 (vI k) (kp 63 (.bool (k == 5)) (kp 64 (.bool (k == 5)) (WpOps.nil ?_) (hop := fun _ => o_pickF g64)) (hw := wants_ff g64)) (hw := wants_ff g64)
        exact ⟨rfl, (.upd rfl (.upd rfl (.upd rfl .refl))), (by kernel_rfl)⟩
      refine kp 65 (.bool b64) ?_
      refine WpOps.fork 4 (b64) [66, 67, 68, 69] 69 (decide ((↑(ByteArray.size d) : Int) ≤ 1000)) (false) (by kernel_rfl) (fun g69 => ?_) (fun g69 => ?_) (fun f_69 b69 hb69 => ?_)
      · refine kp 66 (.string d) (kp 67 (vI (ByteArray.size d)) (kp 68 (.bool (decide ((↑(ByteArray.size d) : Int) ≤ 1000))) (kp 69 (.bool (decide ((↑(ByteArray.size d) : Int) ≤ 1000))) (WpOps.nil ?_) (hop := fun _ => o_pickT g69)) (hw := wants_tt g69)) (hw := wants_tt g69)) (hw := wants_tt g69)
        exact ⟨rfl, (.upd rfl (.upd rfl (.upd rfl (.upd rfl .refl)))), (by kernel_rfl)⟩
      · refine um 66 (um 67 (um 68 (kp 69 vF (WpOps.nil ?_) (hop := fun _ => o_pickF g69)) (hw := wants_ft g69)) (hw := wants_ft g69)) (hw := wants_ft g69)
        exact ⟨rfl, (.upd rfl (.upd rfl (.upd rfl (.upd rfl .refl)))), (by kernel_rfl)⟩
      refine kp 10 (.bool b69) (WpOps.nil (thenK_at (Wp.ret (endK_retn [Value.bool b69] (Value.bool b69) (by kernel_rfl) (by kernel_rfl) ?_))))
      have e : b69 = decide (Fit k g s r d.size) := by
        rw [hb69, Bool.eq_iff_iff]
        simp only [hb64, hb60, hb56, cond_or, cond_and, Bool.or_eq_true, Bool.and_eq_true, decide_eq_true_eq, beq_iff_eq]
        unfold Fit
        omega
      rw [← e]
      rfl
def fr3 (k g s r : Int) : ByteArray := ⟨#[UInt8.ofNat (IntKind.u8.wrap k).toNat, UInt8.ofNat (IntKind.u8.wrap g).toNat, UInt8.ofNat (IntKind.u8.wrap (IntKind.i64.wrap (IntKind.i64.wrap (8 * s) + r))).toNat]⟩
def frame (k g s r : Int) (d : ByteArray) : Value := if Fit k g s r d.size then .tuple #[.string (summed (fr3 k g s r ++ d)), .int .i64 0] else .tuple #[.string ByteArray.empty, .int .i64 1]
theorem fr3_size (k g s r : Int) : (fr3 k g s r).size = 3 := rfl
theorem fr3_le (k g s r : Int) (d : ByteArray) (hd : d.size ≤ 1000) : (((fr3 k g s r).size + d.size : Nat) : Int) ≤ 9223372036854775807 := by
  rw [fr3_size]
  omega
theorem fr3_le2 (k g s r : Int) (d : ByteArray) (hd : d.size ≤ 1000) : (((fr3 k g s r ++ d).size + (sumS (fr3 k g s r ++ d)).size : Nat) : Int) ≤ 9223372036854775807 := by
  rw [ByteArray.size_append, fr3_size]
  show ((_ + 2 : Nat) : Int) ≤ _
  omega
theorem fr3_sz (k g s r : Int) (d : ByteArray) (hd : d.size ≤ 1000) : (fr3 k g s r ++ d).size ≤ 4000 := by
  rw [ByteArray.size_append, fr3_size]
  omega
theorem cond_gen (a b c : Bool) : (bif a then b else c) = ((a && b) || (!a && c)) := by cases a <;> simp
theorem wu8 (k : Int) (h0 : 0 ≤ k) (h1 : k < 256) : IntKind.u8.wrap k = k := by
  obtain ⟨n, rfl⟩ : ∃ n : Nat, k = n := ⟨k.toNat, by omega⟩
  exact u8_all n (by omega)
theorem f10 : E.funcs 10 = some Try.f10 := by kernel_rfl
theorem frame10 (k g s r : Int) (d : ByteArray) : Fun E 10 [.int .i64 k, .int .i64 g, .int .i64 s, .int .i64 r, .string d] (frame k g s r d) := by
  refine Fun.of f10 rfl (of_decide_eq_true (by kernel_rfl)) (by unfold frame; split <;> rfl) ?_
  refine Wp.seq (Wp.text (kp 10 (.string (ByteArray.mk #[])) (kp 11 (vI 0) (WpOps.nil (thenK_at (Wp.seq (Wp.text (kp 17 (vI k) (kp 18 (.int .u8 (IntKind.wrap .u8 k)) (kp 12 (.int .u8 (IntKind.wrap .u8 k)) (WpOps.nil (thenK_at (Wp.seq (Wp.text (kp 19 (vI k) (kp 20 (.bool (decide (k < 1))) (kp 21 (.bool (decide (k < 1))) ?_)))))))))))))))))
  refine WpOps.fork 3 (decide (k < 1)) [22, 23, 24] 24 (true) (decide (k > 8)) (by kernel_rfl) (fun g24 => ?_) (fun g24 => ?_) (fun f_24 b24 hb24 => ?_)
  · refine um 22 (um 23 (kp 24 vT (WpOps.nil ?_) (hop := fun _ => o_pickT g24)) (hw := wants_tf g24)) (hw := wants_tf g24)
    exact ⟨rfl, (.upd rfl (.upd rfl (.upd rfl .refl))), (by kernel_rfl)⟩
  · refine kp 22 (vI k) (kp 23 (.bool (decide (k > 8))) (kp 24 (.bool (decide (k > 8))) (WpOps.nil ?_) (hop := fun _ => o_pickF g24)) (hw := wants_ff g24)) (hw := wants_ff g24)
    exact ⟨rfl, (.upd rfl (.upd rfl (.upd rfl .refl))), (by kernel_rfl)⟩
  refine kp 25 (.bool b24) ?_
  refine WpOps.fork 3 (b24) [26, 27, 28] 28 (true) (decide (g < 0)) (by kernel_rfl) (fun g28 => ?_) (fun g28 => ?_) (fun f_28 b28 hb28 => ?_)
  · refine um 26 (um 27 (kp 28 vT (WpOps.nil ?_) (hop := fun _ => o_pickT g28)) (hw := wants_tf g28)) (hw := wants_tf g28)
    exact ⟨rfl, (.upd rfl (.upd rfl (.upd rfl .refl))), (by kernel_rfl)⟩
  · refine kp 26 (vI g) (kp 27 (.bool (decide (g < 0))) (kp 28 (.bool (decide (g < 0))) (WpOps.nil ?_) (hop := fun _ => o_pickF g28)) (hw := wants_ff g28)) (hw := wants_ff g28)
    exact ⟨rfl, (.upd rfl (.upd rfl (.upd rfl .refl))), (by kernel_rfl)⟩
  refine kp 29 (.bool b28) ?_
  refine WpOps.fork 3 (b28) [30, 31, 32] 32 (true) (decide (g > 255)) (by kernel_rfl) (fun g32 => ?_) (fun g32 => ?_) (fun f_32 b32 hb32 => ?_)
  · refine um 30 (um 31 (kp 32 vT (WpOps.nil ?_) (hop := fun _ => o_pickT g32)) (hw := wants_tf g32)) (hw := wants_tf g32)
    exact ⟨rfl, (.upd rfl (.upd rfl (.upd rfl .refl))), (by kernel_rfl)⟩
  · refine kp 30 (vI g) (kp 31 (.bool (decide (g > 255))) (kp 32 (.bool (decide (g > 255))) (WpOps.nil ?_) (hop := fun _ => o_pickF g32)) (hw := wants_ff g32)) (hw := wants_ff g32)
    exact ⟨rfl, (.upd rfl (.upd rfl (.upd rfl .refl))), (by kernel_rfl)⟩
  refine kp 33 (.bool b32) ?_
  refine WpOps.fork 3 (b32) [34, 35, 36] 36 (true) (decide (s < 0)) (by kernel_rfl) (fun g36 => ?_) (fun g36 => ?_) (fun f_36 b36 hb36 => ?_)
  · refine um 34 (um 35 (kp 36 vT (WpOps.nil ?_) (hop := fun _ => o_pickT g36)) (hw := wants_tf g36)) (hw := wants_tf g36)
    exact ⟨rfl, (.upd rfl (.upd rfl (.upd rfl .refl))), (by kernel_rfl)⟩
  · refine kp 34 (vI s) (kp 35 (.bool (decide (s < 0))) (kp 36 (.bool (decide (s < 0))) (WpOps.nil ?_) (hop := fun _ => o_pickF g36)) (hw := wants_ff g36)) (hw := wants_ff g36)
    exact ⟨rfl, (.upd rfl (.upd rfl (.upd rfl .refl))), (by kernel_rfl)⟩
  refine kp 37 (.bool b36) ?_
  refine WpOps.fork 3 (b36) [38, 39, 40] 40 (true) (decide (s ≥ 8)) (by kernel_rfl) (fun g40 => ?_) (fun g40 => ?_) (fun f_40 b40 hb40 => ?_)
  · refine um 38 (um 39 (kp 40 vT (WpOps.nil ?_) (hop := fun _ => o_pickT g40)) (hw := wants_tf g40)) (hw := wants_tf g40)
    exact ⟨rfl, (.upd rfl (.upd rfl (.upd rfl .refl))), (by kernel_rfl)⟩
  · refine kp 38 (vI s) (kp 39 (.bool (decide (s ≥ 8))) (kp 40 (.bool (decide (s ≥ 8))) (WpOps.nil ?_) (hop := fun _ => o_pickF g40)) (hw := wants_ff g40)) (hw := wants_ff g40)
    exact ⟨rfl, (.upd rfl (.upd rfl (.upd rfl .refl))), (by kernel_rfl)⟩
  refine kp 41 (.bool b40) ?_
  refine WpOps.fork 3 (b40) [42, 43, 44] 44 (true) (decide (r < 0)) (by kernel_rfl) (fun g44 => ?_) (fun g44 => ?_) (fun f_44 b44 hb44 => ?_)
  · refine um 42 (um 43 (kp 44 vT (WpOps.nil ?_) (hop := fun _ => o_pickT g44)) (hw := wants_tf g44)) (hw := wants_tf g44)
    exact ⟨rfl, (.upd rfl (.upd rfl (.upd rfl .refl))), (by kernel_rfl)⟩
  · refine kp 42 (vI r) (kp 43 (.bool (decide (r < 0))) (kp 44 (.bool (decide (r < 0))) (WpOps.nil ?_) (hop := fun _ => o_pickF g44)) (hw := wants_ff g44)) (hw := wants_ff g44)
    exact ⟨rfl, (.upd rfl (.upd rfl (.upd rfl .refl))), (by kernel_rfl)⟩
  refine kp 45 (.bool b44) ?_
  refine WpOps.fork 3 (b44) [46, 47, 48] 48 (true) (decide (r ≥ 8)) (by kernel_rfl) (fun g48 => ?_) (fun g48 => ?_) (fun f_48 b48 hb48 => ?_)
  · refine um 46 (um 47 (kp 48 vT (WpOps.nil ?_) (hop := fun _ => o_pickT g48)) (hw := wants_tf g48)) (hw := wants_tf g48)
    exact ⟨rfl, (.upd rfl (.upd rfl (.upd rfl .refl))), (by kernel_rfl)⟩
  · refine kp 46 (vI r) (kp 47 (.bool (decide (r ≥ 8))) (kp 48 (.bool (decide (r ≥ 8))) (WpOps.nil ?_) (hop := fun _ => o_pickF g48)) (hw := wants_ff g48)) (hw := wants_ff g48)
    exact ⟨rfl, (.upd rfl (.upd rfl (.upd rfl .refl))), (by kernel_rfl)⟩
  refine kp 49 (.bool b48) ?_
  refine WpOps.fork 4 (b48) [50, 51, 52, 53] 53 (true) (decide ((↑(ByteArray.size d) : Int) > 1000)) (by kernel_rfl) (fun g53 => ?_) (fun g53 => ?_) (fun f_53 b53 hb53 => ?_)
  · refine um 50 (um 51 (um 52 (kp 53 vT (WpOps.nil ?_) (hop := fun _ => o_pickT g53)) (hw := wants_tf g53)) (hw := wants_tf g53)) (hw := wants_tf g53)
    exact ⟨rfl, (.upd rfl (.upd rfl (.upd rfl (.upd rfl .refl)))), (by kernel_rfl)⟩
  · refine kp 50 (.string d) (kp 51 (vI (ByteArray.size d)) (kp 52 (.bool (decide ((↑(ByteArray.size d) : Int) > 1000))) (kp 53 (.bool (decide ((↑(ByteArray.size d) : Int) > 1000))) (WpOps.nil ?_) (hop := fun _ => o_pickF g53)) (hw := wants_ff g53)) (hw := wants_ff g53)) (hw := wants_ff g53)
    exact ⟨rfl, (.upd rfl (.upd rfl (.upd rfl (.upd rfl .refl)))), (by kernel_rfl)⟩
  refine kp 13 (.bool b53) (WpOps.nil (thenK_at (Wp.seq (Wp.seq (Wp.text (kp 54 (.bool b53) (kp 55 (.bool b53) ?_)))))))
  refine WpOps.fork 11 (b53) [56, 57, 58, 59, 60, 61, 62, 63, 64, 65, 66] 66 (true) (bif IntKind.wrap IntKind.u8 k != 3 then bif s != 0 then true else !ByteArray.toList d == ByteArray.toList (ByteArray.mk #[]) else false) (by kernel_rfl) (fun g66 => ?_) (fun g66 => ?_) (fun f_66 b66 hb66 => ?_)
  · refine um 56 (um 57 (um 58 (um 59 (um 60 (um 61 (um 62 (um 63 (um 64 (um 65 (kp 66 vT (WpOps.nil ?_) (hop := fun _ => o_pickT g66)) (hw := wants_tf g66)))))))) (hw := wants_tf g66)) (hw := wants_tf g66)) (hw := wants_tf g66)
    exact ⟨rfl, (.upd rfl (.upd rfl (.upd rfl (.upd rfl (.upd rfl (.upd rfl (.upd rfl (.upd rfl (.upd rfl (.upd rfl (.upd rfl .refl))))))))))), (by kernel_rfl)⟩
  · refine kp 56 (.int .u8 (IntKind.wrap .u8 k)) (kp 57 (.bool (IntKind.wrap .u8 k != 3)) (kp 58 (.bool (IntKind.wrap .u8 k != 3)) ?_ (hw := wants_ff g66)) (hw := wants_ff g66)) (hw := wants_ff g66)
    refine WpOps.forkE 8 (IntKind.wrap IntKind.u8 k != 3) [59, 60, 61, 62, 63, 64, 65, 66] 66 (bif s != 0 then true else !ByteArray.toList d == ByteArray.toList (ByteArray.mk #[])) (false) (by kernel_rfl) (fun g66' => ?_) (fun g66' => ?_) (fun f_66 => ?_)
    · refine kp 59 (vI s) (kp 60 (.bool (s != 0)) (kp 61 (.bool (s != 0)) ?_ (hw := wants_tt g66')) (hw := wants_tt g66')) (hw := wants_tt g66')
      refine WpOps.forkE 5 (s != 0) [62, 63, 64, 65, 66] 66 (true) (!ByteArray.toList d == ByteArray.toList (ByteArray.mk #[])) (by kernel_rfl) (fun g66'' => ?_) (fun g66'' => ?_) (fun f_66 => ?_)
      · refine um 62 (um 63 (kp 64 vT (kp 65 vT (kp 66 vT (WpOps.nil ?_) (hop := fun _ => o_pickF g66)) (hw := wants_ff g66) (hop := fun _ => o_pickT g66')) (hw := wants_tt g66') (hop := fun _ => o_pickT g66'')) (hw := wants_tf g66'')) (hw := wants_tf g66'')
        exact ⟨rfl, (.upd rfl (.upd rfl (.upd rfl (.upd rfl (.upd rfl .refl))))), (by kernel_rfl)⟩
      · refine kp 62 (.string d) (kp 63 (.bool !ByteArray.toList d == ByteArray.toList (ByteArray.mk #[])) (kp 64 (.bool !ByteArray.toList d == ByteArray.toList (ByteArray.mk #[])) (kp 65 (.bool !ByteArray.toList d == ByteArray.toList (ByteArray.mk #[])) (kp 66 (.bool !ByteArray.toList d == ByteArray.toList (ByteArray.mk #[])) (WpOps.nil ?_) (hop := fun _ => o_pickF g66)) (hw := wants_ff g66) (hop := fun _ => o_pickT g66')) (hw := wants_tt g66') (hop := fun _ => o_pickF g66'')) (hw := wants_ff g66'')) (hw := wants_ff g66'')
        exact ⟨rfl, (.upd rfl (.upd rfl (.upd rfl (.upd rfl (.upd rfl .refl))))), (by kernel_rfl)⟩
      refine WpOps.nil ?_
      exact ⟨rfl, (.upd rfl (.mix rfl (.upd rfl (.upd rfl (.upd rfl .refl))))), (by kernel_rfl)⟩
    · refine um 59 (um 60 (um 61 (um 62 (um 63 (um 64 (kp 65 vF (kp 66 vF (WpOps.nil ?_) (hop := fun _ => o_pickF g66)) (hw := wants_ff g66) (hop := fun _ => o_pickF g66')) (hw := wants_ft g66')))) (hw := wants_ft g66')) (hw := wants_ft g66')) (hw := wants_ft g66')
      exact ⟨rfl, (.upd rfl (.upd rfl (.upd rfl (.upd rfl (.upd rfl (.upd rfl (.upd rfl (.upd rfl .refl)))))))), (by kernel_rfl)⟩
    refine WpOps.nil ?_
    exact ⟨rfl, (.upd rfl (.mix rfl (.upd rfl (.upd rfl (.upd rfl .refl))))), (by kernel_rfl)⟩
  refine kp 67 (.bool b66) ?_
  refine WpOps.fork 11 (b66) [68, 69, 70, 71, 72, 73, 74, 75, 76, 77, 78] 78 (true) (bif decide (IntKind.wrap IntKind.u8 k < 3) then r != 0 else bif decide (IntKind.wrap IntKind.u8 k > 5) then r != 0 else false) (by kernel_rfl) (fun g78 => ?_) (fun g78 => ?_) (fun f_78 b78 hb78 => ?_)
  · refine um 68 (um 69 (um 70 (um 71 (um 72 (um 73 (um 74 (um 75 (um 76 (um 77 (kp 78 vT (WpOps.nil ?_) (hop := fun _ => o_pickT g78)) (hw := wants_tf g78)))) (hw := wants_tf g78)) (hw := wants_tf g78)))) (hw := wants_tf g78)) (hw := wants_tf g78)) (hw := wants_tf g78)
    exact ⟨rfl, (.upd rfl (.upd rfl (.upd rfl (.upd rfl (.upd rfl (.upd rfl (.upd rfl (.upd rfl (.upd rfl (.upd rfl (.upd rfl .refl))))))))))), (by kernel_rfl)⟩
  · refine kp 68 (.int .u8 (IntKind.wrap .u8 k)) (kp 69 (.bool (decide (IntKind.wrap .u8 k < 3))) (kp 70 (.bool (decide (IntKind.wrap .u8 k < 3))) ?_ (hw := wants_ff g78)) (hw := wants_ff g78)) (hw := wants_ff g78)
    refine WpOps.forkE 8 (decide (IntKind.wrap IntKind.u8 k < 3)) [71, 72, 73, 74, 75, 76, 77, 78] 78 (r != 0) (bif decide (IntKind.wrap IntKind.u8 k > 5) then r != 0 else false) (by kernel_rfl) (fun g78' => ?_) (fun g78' => ?_) (fun f_78 => ?_)
    · refine um 71 (um 72 (kp 73 vT (kp 74 vT (kp 75 (vI r) (kp 76 (.bool (r != 0)) (kp 77 (.bool (r != 0)) (kp 78 (.bool (r != 0)) (WpOps.nil ?_) (hop := fun _ => o_pickF g78)) (hw := wants_ff g78)))) (hw := wants_ff g78)) (hw := wants_ff g78) (hop := fun _ => o_pickT g78')) (hw := wants_tf g78')) (hw := wants_tf g78')
      exact ⟨rfl, (.upd rfl (.upd rfl (.upd rfl (.upd rfl (.upd rfl (.upd rfl (.upd rfl (.upd rfl .refl)))))))), (by kernel_rfl)⟩
    · refine kp 71 (.int .u8 (IntKind.wrap .u8 k)) (kp 72 (.bool (decide (IntKind.wrap .u8 k > 5))) (kp 73 (.bool (decide (IntKind.wrap .u8 k > 5))) (kp 74 (.bool (decide (IntKind.wrap .u8 k > 5))) ?_ (hw := wants_ff g78)) (hw := wants_ff g78) (hop := fun _ => o_pickF g78')) (hw := wants_ff g78')) (hw := wants_ff g78')
      refine WpOps.forkE 4 (decide (IntKind.wrap IntKind.u8 k > 5)) [75, 76, 77, 78] 78 (r != 0) (false) (by kernel_rfl) (fun g78'' => ?_) (fun g78'' => ?_) (fun f_78 => ?_)
      · refine kp 75 (vI r) (kp 76 (.bool (r != 0)) (kp 77 (.bool (r != 0)) (kp 78 (.bool (r != 0)) (WpOps.nil ?_) (hop := fun _ => o_pickF g78)) (hw := wants_ff g78) (hop := fun _ => o_pickT g78'')) (hw := wants_tt g78'')) (hw := wants_tt g78'')
        exact ⟨rfl, (.upd rfl (.upd rfl (.upd rfl (.upd rfl .refl)))), (by kernel_rfl)⟩
      · refine um 75 (um 76 (kp 77 vF (kp 78 vF (WpOps.nil ?_) (hop := fun _ => o_pickF g78)) (hw := wants_ff g78) (hop := fun _ => o_pickF g78'')) (hw := wants_ft g78'')) (hw := wants_ft g78'')
        exact ⟨rfl, (.upd rfl (.upd rfl (.upd rfl (.upd rfl .refl)))), (by kernel_rfl)⟩
      refine WpOps.nil ?_
      exact ⟨rfl, (.upd rfl (.mix rfl (.upd rfl (.upd rfl (.upd rfl (.upd rfl .refl)))))), (by kernel_rfl)⟩
    refine WpOps.nil ?_
    exact ⟨rfl, (.upd rfl (.mix rfl (.upd rfl (.upd rfl (.upd rfl .refl))))), (by kernel_rfl)⟩
  refine WpOps.nil (thenK_at ?_)
  have he : b78 = !decide (Fit k g s r d.size) := by
    rw [Bool.eq_iff_iff, hb78, hb66, hb53, hb48, hb44, hb40, hb36, hb32, hb28, hb24, empty_ne]
    by_cases hk : 1 ≤ k ∧ k ≤ 8
    · rw [wu8 k (by omega) (by omega)]
      simp only [cond_or, cond_and]
      simp only [cond_gen, Bool.or_eq_true, Bool.and_eq_true, decide_eq_true_eq, bne_iff_ne, ne_eq, Bool.not_eq_true', decide_eq_false_iff_not]
      unfold Fit
      omega
    · simp only [cond_or, cond_and]
      simp only [cond_gen, Bool.or_eq_true, Bool.and_eq_true, decide_eq_true_eq, bne_iff_ne, ne_eq, Bool.not_eq_true', decide_eq_false_iff_not]
      unfold Fit
      omega
  clear hb78 hb66 hb53 hb48 hb44 hb40 hb36 hb32 hb28 hb24
  refine Wp.split (b78) (by kernel_rfl) (fun hc => ?_) (fun hc => ?_)
  · have h : ¬ Fit k g s r d.size := by
      intro h
      rw [decide_eq_true h, hc] at he
      cases he
    refine Wp.seq (Wp.text (kp 10 (.string (ByteArray.mk #[])) (kp 11 (vI 1) (WpOps.nil (thenK_at (Wp.ret (thenK_ret (endK_retn [Value.string (ByteArray.mk #[]), vI 1] (Value.tuple #[Value.string (ByteArray.mk #[]), vI 1]) (by kernel_rfl) (by kernel_rfl) ?_))))))))
    rw [frame, if_neg h]
    kernel_rfl
  · have h : Fit k g s r d.size := by
      rw [hc] at he
      exact of_decide_eq_true (by simpa using he.symm)
    have hd := h.2.2.2.2.2.2
    have h1 := fr3_le k g s r d hd
    have h2 := fr3_le2 k g s r d hd
    have c : Fun E 32 [.string (fr3 k g s r ++ d)] (.tuple #[.string (sumS (fr3 k g s r ++ d)), .int .i64 0]) := sum32 _ (fr3_sz k g s r d hd)
    unfold fr3 at c h1 h2
    refine Wp.skip (thenK_at (Wp.seq (Wp.text (kp 79 (.int .u8 (IntKind.wrap .u8 k)) (kp 80 (vI g) (kp 81 (.int .u8 (IntKind.wrap .u8 g)) (kp 82 (vI s) (kp 83 (vI (IntKind.wrap .i64 (8 * s))) (kp 84 (vI r) (kp 85 (vI (IntKind.wrap .i64 (IntKind.wrap .i64 (8 * s) + r))) (kp 86 (.int .u8 (IntKind.wrap .u8 (IntKind.wrap .i64 (IntKind.wrap .i64 (8 * s) + r)))) (md 87 (.slice (some ⟨0, 0, none⟩) 3 3) (Blk.mk 5 true [Value.int .u8 (IntKind.wrap .u8 k), Value.int .u8 (IntKind.wrap .u8 g), Value.int .u8 (IntKind.wrap .u8 (IntKind.wrap .i64 (IntKind.wrap .i64 (8 * s) + r)))]) (kp 88 (.string (ByteArray.mk #[UInt8.ofNat (Int.toNat (IntKind.wrap .u8 k)), UInt8.ofNat (Int.toNat (IntKind.wrap .u8 g)), UInt8.ofNat (Int.toNat (IntKind.wrap .u8 (IntKind.wrap .i64 (IntKind.wrap .i64 (8 * s) + r))))])) (kp 89 (.string d) (kp 90 (.string (ByteArray.mk #[UInt8.ofNat (Int.toNat (IntKind.wrap .u8 k)), UInt8.ofNat (Int.toNat (IntKind.wrap .u8 g)), UInt8.ofNat (Int.toNat (IntKind.wrap .u8 (IntKind.wrap .i64 (IntKind.wrap .i64 (8 * s) + r))))] ++ d)) (kp 14 (.string (ByteArray.mk #[UInt8.ofNat (Int.toNat (IntKind.wrap .u8 k)), UInt8.ofNat (Int.toNat (IntKind.wrap .u8 g)), UInt8.ofNat (Int.toNat (IntKind.wrap .u8 (IntKind.wrap .i64 (IntKind.wrap .i64 (8 * s) + r))))] ++ d)) (WpOps.nil (thenK_at (Wp.seq (Wp.text (kp 92 (.string (ByteArray.mk #[UInt8.ofNat (Int.toNat (IntKind.wrap .u8 k)), UInt8.ofNat (Int.toNat (IntKind.wrap .u8 g)), UInt8.ofNat (Int.toNat (IntKind.wrap .u8 (IntKind.wrap .i64 (IntKind.wrap .i64 (8 * s) + r))))] ++ d)) ?_)))))) (hop := fun _ => o_add h1))))))))))))))))
    refine fr 93 32 [Value.string (ByteArray.mk #[UInt8.ofNat (Int.toNat (IntKind.wrap .u8 k)), UInt8.ofNat (Int.toNat (IntKind.wrap .u8 g)), UInt8.ofNat (Int.toNat (IntKind.wrap .u8 (IntKind.wrap .i64 (IntKind.wrap .i64 (8 * s) + r))))] ++ d)] (WpFun.of (c) (kp 91 (.tuple #[Value.string (sumS (ByteArray.mk #[UInt8.ofNat (Int.toNat (IntKind.wrap .u8 k)), UInt8.ofNat (Int.toNat (IntKind.wrap .u8 g)), UInt8.ofNat (Int.toNat (IntKind.wrap .u8 (IntKind.wrap .i64 (IntKind.wrap .i64 (8 * s) + r))))] ++ d)), vI 0]) (kp 94 (.string (sumS (ByteArray.mk #[UInt8.ofNat (Int.toNat (IntKind.wrap .u8 k)), UInt8.ofNat (Int.toNat (IntKind.wrap .u8 g)), UInt8.ofNat (Int.toNat (IntKind.wrap .u8 (IntKind.wrap .i64 (IntKind.wrap .i64 (8 * s) + r))))] ++ d))) (kp 95 (vI 0) (kp 15 (.string (sumS (ByteArray.mk #[UInt8.ofNat (Int.toNat (IntKind.wrap .u8 k)), UInt8.ofNat (Int.toNat (IntKind.wrap .u8 g)), UInt8.ofNat (Int.toNat (IntKind.wrap .u8 (IntKind.wrap .i64 (IntKind.wrap .i64 (8 * s) + r))))] ++ d))) (kp 16 (vI 0) (WpOps.nil (thenK_at (Wp.seq (Wp.text (kp 96 (.string (ByteArray.mk #[UInt8.ofNat (Int.toNat (IntKind.wrap .u8 k)), UInt8.ofNat (Int.toNat (IntKind.wrap .u8 g)), UInt8.ofNat (Int.toNat (IntKind.wrap .u8 (IntKind.wrap .i64 (IntKind.wrap .i64 (8 * s) + r))))] ++ d)) (kp 97 (.string (sumS (ByteArray.mk #[UInt8.ofNat (Int.toNat (IntKind.wrap .u8 k)), UInt8.ofNat (Int.toNat (IntKind.wrap .u8 g)), UInt8.ofNat (Int.toNat (IntKind.wrap .u8 (IntKind.wrap .i64 (IntKind.wrap .i64 (8 * s) + r))))] ++ d))) ?_))))))))))))
    refine kp 98 (.string (ByteArray.mk #[UInt8.ofNat (Int.toNat (IntKind.wrap .u8 k)), UInt8.ofNat (Int.toNat (IntKind.wrap .u8 g)), UInt8.ofNat (Int.toNat (IntKind.wrap .u8 (IntKind.wrap .i64 (IntKind.wrap .i64 (8 * s) + r))))] ++ d ++ sumS (ByteArray.mk #[UInt8.ofNat (Int.toNat (IntKind.wrap .u8 k)), UInt8.ofNat (Int.toNat (IntKind.wrap .u8 g)), UInt8.ofNat (Int.toNat (IntKind.wrap .u8 (IntKind.wrap .i64 (IntKind.wrap .i64 (8 * s) + r))))] ++ d))) (kp 10 (.string (ByteArray.mk #[UInt8.ofNat (Int.toNat (IntKind.wrap .u8 k)), UInt8.ofNat (Int.toNat (IntKind.wrap .u8 g)), UInt8.ofNat (Int.toNat (IntKind.wrap .u8 (IntKind.wrap .i64 (IntKind.wrap .i64 (8 * s) + r))))] ++ d ++ sumS (ByteArray.mk #[UInt8.ofNat (Int.toNat (IntKind.wrap .u8 k)), UInt8.ofNat (Int.toNat (IntKind.wrap .u8 g)), UInt8.ofNat (Int.toNat (IntKind.wrap .u8 (IntKind.wrap .i64 (IntKind.wrap .i64 (8 * s) + r))))] ++ d))) (kp 11 (vI 0) (WpOps.nil (thenK_at (Wp.ret (endK_retn [Value.string (ByteArray.mk #[UInt8.ofNat (Int.toNat (IntKind.wrap IntKind.u8 k)), UInt8.ofNat (Int.toNat (IntKind.wrap IntKind.u8 g)), UInt8.ofNat (Int.toNat (IntKind.wrap IntKind.u8 (IntKind.wrap IntKind.i64 (IntKind.wrap IntKind.i64 (8 * s) + r))))] ++ d ++ sumS (ByteArray.mk #[UInt8.ofNat (Int.toNat (IntKind.wrap IntKind.u8 k)), UInt8.ofNat (Int.toNat (IntKind.wrap IntKind.u8 g)), UInt8.ofNat (Int.toNat (IntKind.wrap IntKind.u8 (IntKind.wrap IntKind.i64 (IntKind.wrap IntKind.i64 (8 * s) + r))))] ++ d)), vI 0] (Value.tuple #[Value.string (ByteArray.mk #[UInt8.ofNat (Int.toNat (IntKind.wrap IntKind.u8 k)), UInt8.ofNat (Int.toNat (IntKind.wrap IntKind.u8 g)), UInt8.ofNat (Int.toNat (IntKind.wrap IntKind.u8 (IntKind.wrap IntKind.i64 (IntKind.wrap IntKind.i64 (8 * s) + r))))] ++ d ++ sumS (ByteArray.mk #[UInt8.ofNat (Int.toNat (IntKind.wrap IntKind.u8 k)), UInt8.ofNat (Int.toNat (IntKind.wrap IntKind.u8 g)), UInt8.ofNat (Int.toNat (IntKind.wrap IntKind.u8 (IntKind.wrap IntKind.i64 (IntKind.wrap IntKind.i64 (8 * s) + r))))] ++ d)), vI 0]) (by kernel_rfl) (by kernel_rfl) ?_)))))) (hop := fun _ => o_add h2)
    rw [frame, if_pos h]
    kernel_rfl
theorem f11 : E.funcs 11 = some Try.f11 := by kernel_rfl
theorem frame11 (k g s r : Int) (d : ByteArray) : Fun E 11 [.int .i64 k, .int .i64 g, .int .i64 s, .int .i64 r, .string d] (frame k g s r d) := by
  refine Fun.of f11 rfl (of_decide_eq_true (by kernel_rfl)) (by unfold frame; split <;> rfl) ?_
  have c0 := fits33 k g s r d
  by_cases h : Fit k g s r d.size
  · rw [decide_eq_true h] at c0
    have hd := h.2.2.2.2.2.2
    have h1 := fr3_le k g s r d hd
    have h2 := fr3_le2 k g s r d hd
    have c : Fun E 34 [.string (fr3 k g s r ++ d)] (.tuple #[.string (sumS (fr3 k g s r ++ d)), .int .i64 0]) := sum34 _ (fr3_sz k g s r d hd)
    unfold fr3 at c h1 h2
    refine Wp.seq (Wp.text (kp 10 (.string (ByteArray.mk #[])) (kp 11 (vI 0) (WpOps.nil (thenK_at (Wp.seq (Wp.seq (Wp.text (kp 15 (vI k) (kp 16 (vI g) (kp 17 (vI s) (kp 18 (vI r) (kp 19 (.string d) (fr 20 33 [vI k, vI g, vI s, vI r, Value.string d] (WpFun.of (c0) (kp 21 vF (WpOps.nil (thenK_at (off' (Wp.skip (thenK_at (Wp.seq (Wp.text (kp 22 (vI k) (kp 23 (.int .u8 (IntKind.wrap .u8 k)) (kp 24 (vI g) (kp 25 (.int .u8 (IntKind.wrap .u8 g)) (kp 26 (vI s) (kp 27 (vI (IntKind.wrap .i64 (8 * s))) (kp 28 (vI r) (kp 29 (vI (IntKind.wrap .i64 (IntKind.wrap .i64 (8 * s) + r))) (kp 30 (.int .u8 (IntKind.wrap .u8 (IntKind.wrap .i64 (IntKind.wrap .i64 (8 * s) + r)))) (md 31 (.slice (some ⟨0, 0, none⟩) 3 3) (Blk.mk 5 true [Value.int .u8 (IntKind.wrap .u8 k), Value.int .u8 (IntKind.wrap .u8 g), Value.int .u8 (IntKind.wrap .u8 (IntKind.wrap .i64 (IntKind.wrap .i64 (8 * s) + r)))]) (kp 32 (.string (ByteArray.mk #[UInt8.ofNat (Int.toNat (IntKind.wrap .u8 k)), UInt8.ofNat (Int.toNat (IntKind.wrap .u8 g)), UInt8.ofNat (Int.toNat (IntKind.wrap .u8 (IntKind.wrap .i64 (IntKind.wrap .i64 (8 * s) + r))))])) (kp 33 (.string d) (kp 34 (.string (ByteArray.mk #[UInt8.ofNat (Int.toNat (IntKind.wrap .u8 k)), UInt8.ofNat (Int.toNat (IntKind.wrap .u8 g)), UInt8.ofNat (Int.toNat (IntKind.wrap .u8 (IntKind.wrap .i64 (IntKind.wrap .i64 (8 * s) + r))))] ++ d)) ?_ (hop := fun _ => o_add h1)))))))))))))))))))))))))))))))))))))
    refine kp 12 (.string (ByteArray.mk #[UInt8.ofNat (Int.toNat (IntKind.wrap .u8 k)), UInt8.ofNat (Int.toNat (IntKind.wrap .u8 g)), UInt8.ofNat (Int.toNat (IntKind.wrap .u8 (IntKind.wrap .i64 (IntKind.wrap .i64 (8 * s) + r))))] ++ d)) (WpOps.nil (thenK_at (Wp.seq (Wp.text (kp 36 (.string (ByteArray.mk #[UInt8.ofNat (Int.toNat (IntKind.wrap .u8 k)), UInt8.ofNat (Int.toNat (IntKind.wrap .u8 g)), UInt8.ofNat (Int.toNat (IntKind.wrap .u8 (IntKind.wrap .i64 (IntKind.wrap .i64 (8 * s) + r))))] ++ d)) (fr 37 34 [Value.string (ByteArray.mk #[UInt8.ofNat (Int.toNat (IntKind.wrap .u8 k)), UInt8.ofNat (Int.toNat (IntKind.wrap .u8 g)), UInt8.ofNat (Int.toNat (IntKind.wrap .u8 (IntKind.wrap .i64 (IntKind.wrap .i64 (8 * s) + r))))] ++ d)] (WpFun.of (c) (kp 35 (.tuple #[Value.string (sumS (ByteArray.mk #[UInt8.ofNat (Int.toNat (IntKind.wrap .u8 k)), UInt8.ofNat (Int.toNat (IntKind.wrap .u8 g)), UInt8.ofNat (Int.toNat (IntKind.wrap .u8 (IntKind.wrap .i64 (IntKind.wrap .i64 (8 * s) + r))))] ++ d)), vI 0]) (kp 38 (.string (sumS (ByteArray.mk #[UInt8.ofNat (Int.toNat (IntKind.wrap .u8 k)), UInt8.ofNat (Int.toNat (IntKind.wrap .u8 g)), UInt8.ofNat (Int.toNat (IntKind.wrap .u8 (IntKind.wrap .i64 (IntKind.wrap .i64 (8 * s) + r))))] ++ d))) (kp 39 (vI 0) (kp 13 (.string (sumS (ByteArray.mk #[UInt8.ofNat (Int.toNat (IntKind.wrap .u8 k)), UInt8.ofNat (Int.toNat (IntKind.wrap .u8 g)), UInt8.ofNat (Int.toNat (IntKind.wrap .u8 (IntKind.wrap .i64 (IntKind.wrap .i64 (8 * s) + r))))] ++ d))) ?_)))))))))))
    refine kp 14 (vI 0) (WpOps.nil (thenK_at (Wp.seq (Wp.text (kp 40 (.string (ByteArray.mk #[UInt8.ofNat (Int.toNat (IntKind.wrap .u8 k)), UInt8.ofNat (Int.toNat (IntKind.wrap .u8 g)), UInt8.ofNat (Int.toNat (IntKind.wrap .u8 (IntKind.wrap .i64 (IntKind.wrap .i64 (8 * s) + r))))] ++ d)) (kp 41 (.string (sumS (ByteArray.mk #[UInt8.ofNat (Int.toNat (IntKind.wrap .u8 k)), UInt8.ofNat (Int.toNat (IntKind.wrap .u8 g)), UInt8.ofNat (Int.toNat (IntKind.wrap .u8 (IntKind.wrap .i64 (IntKind.wrap .i64 (8 * s) + r))))] ++ d))) (kp 42 (.string (ByteArray.mk #[UInt8.ofNat (Int.toNat (IntKind.wrap .u8 k)), UInt8.ofNat (Int.toNat (IntKind.wrap .u8 g)), UInt8.ofNat (Int.toNat (IntKind.wrap .u8 (IntKind.wrap .i64 (IntKind.wrap .i64 (8 * s) + r))))] ++ d ++ sumS (ByteArray.mk #[UInt8.ofNat (Int.toNat (IntKind.wrap .u8 k)), UInt8.ofNat (Int.toNat (IntKind.wrap .u8 g)), UInt8.ofNat (Int.toNat (IntKind.wrap .u8 (IntKind.wrap .i64 (IntKind.wrap .i64 (8 * s) + r))))] ++ d))) (kp 10 (.string (ByteArray.mk #[UInt8.ofNat (Int.toNat (IntKind.wrap .u8 k)), UInt8.ofNat (Int.toNat (IntKind.wrap .u8 g)), UInt8.ofNat (Int.toNat (IntKind.wrap .u8 (IntKind.wrap .i64 (IntKind.wrap .i64 (8 * s) + r))))] ++ d ++ sumS (ByteArray.mk #[UInt8.ofNat (Int.toNat (IntKind.wrap .u8 k)), UInt8.ofNat (Int.toNat (IntKind.wrap .u8 g)), UInt8.ofNat (Int.toNat (IntKind.wrap .u8 (IntKind.wrap .i64 (IntKind.wrap .i64 (8 * s) + r))))] ++ d))) (kp 11 (vI 0) (WpOps.nil (thenK_at (Wp.ret ?_))))) (hop := fun _ => o_add h2))))))))
    refine endK_retn [Value.string (ByteArray.mk #[UInt8.ofNat (Int.toNat (IntKind.wrap IntKind.u8 k)), UInt8.ofNat (Int.toNat (IntKind.wrap IntKind.u8 g)), UInt8.ofNat (Int.toNat (IntKind.wrap IntKind.u8 (IntKind.wrap IntKind.i64 (IntKind.wrap IntKind.i64 (8 * s) + r))))] ++ d ++ sumS (ByteArray.mk #[UInt8.ofNat (Int.toNat (IntKind.wrap IntKind.u8 k)), UInt8.ofNat (Int.toNat (IntKind.wrap IntKind.u8 g)), UInt8.ofNat (Int.toNat (IntKind.wrap IntKind.u8 (IntKind.wrap IntKind.i64 (IntKind.wrap IntKind.i64 (8 * s) + r))))] ++ d)), vI 0] (Value.tuple #[Value.string (ByteArray.mk #[UInt8.ofNat (Int.toNat (IntKind.wrap IntKind.u8 k)), UInt8.ofNat (Int.toNat (IntKind.wrap IntKind.u8 g)), UInt8.ofNat (Int.toNat (IntKind.wrap IntKind.u8 (IntKind.wrap IntKind.i64 (IntKind.wrap IntKind.i64 (8 * s) + r))))] ++ d ++ sumS (ByteArray.mk #[UInt8.ofNat (Int.toNat (IntKind.wrap IntKind.u8 k)), UInt8.ofNat (Int.toNat (IntKind.wrap IntKind.u8 g)), UInt8.ofNat (Int.toNat (IntKind.wrap IntKind.u8 (IntKind.wrap IntKind.i64 (IntKind.wrap IntKind.i64 (8 * s) + r))))] ++ d)), vI 0]) (by kernel_rfl) (by kernel_rfl) ?_
    rw [frame, if_pos h]
    kernel_rfl
  · rw [decide_eq_false h] at c0
    refine Wp.seq (Wp.text (kp 10 (.string (ByteArray.mk #[])) (kp 11 (vI 0) (WpOps.nil (thenK_at (Wp.seq (Wp.seq (Wp.text (kp 15 (vI k) (kp 16 (vI g) (kp 17 (vI s) (kp 18 (vI r) (kp 19 (.string d) (fr 20 33 [vI k, vI g, vI s, vI r, Value.string d] (WpFun.of (c0) (kp 21 vT (WpOps.nil (thenK_at (on' (Wp.seq (Wp.text (kp 10 (.string (ByteArray.mk #[])) (kp 11 (vI 1) (WpOps.nil (thenK_at (Wp.ret (thenK_ret (endK_retn [Value.string (ByteArray.mk #[]), vI 1] (Value.tuple #[Value.string (ByteArray.mk #[]), vI 1]) (by kernel_rfl) (by kernel_rfl) ?_))))))))))))))))))))))))))))
    rw [frame, if_neg h]
    kernel_rfl
end Go.Proofs.Ytgefohjickhldaa.D
