/- Reading frames: link.Read and the document's. -/
import Derived.Test.YtgefohjickhldaaFwLem
import Derived.Test.YtgefohjickhldaaF10b
namespace Go.Proofs.Ytgefohjickhldaa.D
open Go.Fw Go.RowKit

def at' (b : ByteArray) (i : Nat) : Int := ((byteAt b i).toNat : Int)
def dat (b : ByteArray) : ByteArray := b.extract 3 (b.size - 2)
/-- Is it a frame? -/
def RdOk (b : ByteArray) : Prop := (5 ≤ b.size ∧ b.size ≤ 1005) ∧ sumOk b = true ∧ Fit (at' b 0) (at' b 1) (at' b 2 / 8) (at' b 2 % 8) (b.size - 5)
instance (b : ByteArray) : Decidable (RdOk b) := inferInstanceAs (Decidable (_ ∧ _))
def rdV (b : ByteArray) : Value := if RdOk b then .tuple #[.int .i64 (at' b 0), .int .i64 (at' b 1), .int .i64 (at' b 2 / 8), .int .i64 (at' b 2 % 8), .string (dat b), .int .i64 0]
  else .tuple #[.int .i64 0, .int .i64 0, .int .i64 0, .int .i64 0, .string ByteArray.empty, .int .i64 4]
theorem at_in (b : ByteArray) (i : Nat) : 0 ≤ at' b i ∧ at' b i ≤ 255 := by
  have : (byteAt b i).toNat < 256 := (byteAt b i).toNat_lt
  unfold at'
  omega
theorem dat_size (b : ByteArray) (h : 5 ≤ b.size) : (dat b).size = b.size - 5 := by
  unfold dat
  rw [ByteArray.size_extract]
  omega
/-- What stands ahead of the sum. -/
theorem head_eq (b : ByteArray) (h : 5 ≤ b.size) : fr3 (at' b 0) (at' b 1) (at' b 2 / 8) (at' b 2 % 8) ++ dat b = b.extract 0 (b.size - 2) := by
  have a0 := at_in b 0
  have a1 := at_in b 1
  have a2 := at_in b 2
  have e : IntKind.i64.wrap (IntKind.i64.wrap (8 * (at' b 2 / 8)) + at' b 2 % 8) = at' b 2 := by
    rw [wr (8 * (at' b 2 / 8)) (by omega) (by omega), wr _ (by omega) (by omega)]
    omega
  unfold fr3
  rw [e, wu8 _ a0.1 (by omega), wu8 _ a1.1 (by omega), wu8 _ a2.1 (by omega)]
  unfold at'
  simp only [Int.toNat_natCast, UInt8.ofNat_toNat]
  apply ByteArray.ext
  apply Array.toList_inj.1
  unfold dat
  rw [ByteArray.data_append, Array.toList_append, ByteArray.data_extract, ByteArray.data_extract, Array.toList_extract, Array.toList_extract, List.extract_eq_take_drop, List.extract_eq_take_drop, List.drop_zero, Nat.sub_zero]
  have hl : b.data.toList.length = b.size := Array.length_toList
  unfold byteAt
  match hb : b.data.toList, hl with
  | [], hl => simp at hl; omega
  | [_], hl => simp at hl; omega
  | [_, _], hl => simp at hl; omega
  | x :: y :: z :: r, hl =>
    have e2 : b.size - 2 = (b.size - 2 - 3) + 3 := by omega
    rw [e2]
    rfl
theorem f13 : E.funcs 13 = some Try.f13 := by kernel_rfl
theorem f14 : E.funcs 14 = some Try.f14 := by kernel_rfl
section
variable {b : ByteArray} (h5 : 5 ≤ b.size) (hb : b.size ≤ 1005)
include h5 hb
theorem w2 : IntKind.i64.wrap ((b.size : Int) - 2) = ((b.size - 2 : Nat) : Int) := by rw [wr _ (by omega) (by omega)]; omega
theorem w2_in : 3 ≤ IntKind.i64.wrap ((b.size : Int) - 2) ∧ IntKind.i64.wrap ((b.size : Int) - 2) ≤ b.size := by rw [w2 h5 hb]; omega
end
theorem read13_bad (b : ByteArray) (h : ¬ (5 ≤ b.size ∧ b.size ≤ 1005)) : Fun E 13 [.string b] (rdV b) := by
  refine Fun.of f13 rfl (of_decide_eq_true (by kernel_rfl)) (by unfold rdV; split <;> rfl) ?_
  have hn : rdV b = .tuple #[.int .i64 0, .int .i64 0, .int .i64 0, .int .i64 0, .string ByteArray.empty, .int .i64 4] := if_neg fun hr => h hr.1
  rw [hn]
  refine Wp.seq (Wp.text (kp 2 (vI 0) (kp 3 (vI 0) (kp 4 (vI 0) (kp 5 (vI 0) (kp 6 (.string (ByteArray.mk #[])) (kp 7 (vI 0) (WpOps.nil (thenK_at (Wp.seq (Wp.seq (Wp.text (kp 10 (.string b) (kp 11 (vI (ByteArray.size b)) (kp 12 (.bool (decide ((↑(ByteArray.size b) : Int) < 5))) (kp 13 (.bool (decide ((↑(ByteArray.size b) : Int) < 5))) ?_))))))))))))))))
  refine WpOps.fork 4 (decide ((↑(ByteArray.size b) : Int) < 5)) [14, 15, 16, 17] 17 (true) (decide ((↑(ByteArray.size b) : Int) > 1005)) (by kernel_rfl) (fun g17 => ?_) (fun g17 => ?_) (fun f_17 b17 hb17 => ?_)
  · refine um 14 (um 15 (um 16 (kp 17 vT (WpOps.nil ?_) (hop := fun _ => o_pickT g17)) (hw := wants_tf g17)) (hw := wants_tf g17)) (hw := wants_tf g17)
    exact ⟨rfl, (.upd rfl (.upd rfl (.upd rfl (.upd rfl .refl)))), (by kernel_rfl)⟩
  · refine kp 14 (.string b) (kp 15 (vI (ByteArray.size b)) (kp 16 (.bool (decide ((↑(ByteArray.size b) : Int) > 1005))) (kp 17 (.bool (decide ((↑(ByteArray.size b) : Int) > 1005))) (WpOps.nil ?_) (hop := fun _ => o_pickF g17)) (hw := wants_ff g17)) (hw := wants_ff g17)) (hw := wants_ff g17)
    exact ⟨rfl, (.upd rfl (.upd rfl (.upd rfl (.upd rfl .refl)))), (by kernel_rfl)⟩
  refine WpOps.nil (thenK_at ?_)
  refine Wp.split (b17) (by kernel_rfl) (fun hc => ?_) (fun hc => ?_)
  · refine Wp.seq (Wp.text (kp 2 (vI 0) (kp 3 (vI 0) (kp 4 (vI 0) (kp 5 (vI 0) (kp 6 (.string (ByteArray.mk #[])) (kp 7 (vI 4) (WpOps.nil (thenK_at (Wp.ret (thenK_ret (endK_retn [vI 0, vI 0, vI 0, vI 0, Value.string (ByteArray.mk #[]), vI 4] (Value.tuple #[vI 0, vI 0, vI 0, vI 0, Value.string (ByteArray.mk #[]), vI 4]) (by kernel_rfl) (by kernel_rfl) ?_))))))))))))
    kernel_rfl
  · exfalso
    rw [hb17] at hc
    simp only [cond_or, Bool.or_eq_false_iff, decide_eq_false_iff_not] at hc
    omega
theorem byte_w (b : ByteArray) (i : Nat) : IntKind.i64.wrap ((byteAt b i).toNat : Int) = at' b i := by
  have := at_in b i
  unfold at' at *
  rw [wr _ (by omega) (by omega)]
theorem byte_d (b : ByteArray) : IntKind.i64.wrap ((at' b 2).tdiv 8) = at' b 2 / 8 := by
  have := at_in b 2
  rw [Int.tdiv_eq_ediv_of_nonneg this.1, wr _ (by omega) (by omega)]
theorem byte_m (b : ByteArray) : (at' b 2).tmod 8 = at' b 2 % 8 := Int.tmod_eq_emod_of_nonneg (at_in b 2).1
section
variable {b : ByteArray} (h5 : 5 ≤ b.size) (hb : b.size ≤ 1005)
include h5 hb
theorem dat_w : b.extract 3 (IntKind.i64.wrap ((b.size : Int) - 2)).toNat = dat b := by rw [w2 h5 hb]; rfl
theorem call10 : Fun E 10 [.int .i64 (IntKind.i64.wrap ((byteAt b 0).toNat : Int)), .int .i64 (IntKind.i64.wrap ((byteAt b 1).toNat : Int)), .int .i64 (IntKind.i64.wrap ((IntKind.i64.wrap ((byteAt b 2).toNat : Int)).tdiv 8)), .int .i64 ((IntKind.i64.wrap ((byteAt b 2).toNat : Int)).tmod 8), .string (b.extract 3 (IntKind.i64.wrap ((b.size : Int) - 2)).toNat)]
    (if Fit (at' b 0) (at' b 1) (at' b 2 / 8) (at' b 2 % 8) (b.size - 5) then .tuple #[.string (summed (b.extract 0 (b.size - 2))), .int .i64 0] else .tuple #[.string ByteArray.empty, .int .i64 1]) := by
  have c := frame10 (at' b 0) (at' b 1) (at' b 2 / 8) (at' b 2 % 8) (dat b)
  rw [frame, dat_size b h5, head_eq b h5] at c
  rw [byte_w b 0, byte_w b 1, byte_w b 2, byte_d b, byte_m b, dat_w h5 hb]
  exact c
end
theorem sum_ne (b : ByteArray) : (!((summed (b.extract 0 (b.size - 2))).toList == b.toList)) = !sumOk b := by
  cases hk : sumOk b with
  | true => rw [summed_of hk, beq_self_eq_true]
  | false =>
    rw [str_ne fun h => by
      have := summed_ok (b.extract 0 (b.size - 2))
      rw [h, hk] at this
      cases this]
set_option maxHeartbeats 4000000 in
theorem read13_ok (b : ByteArray) (h5 : 5 ≤ b.size) (hb : b.size ≤ 1005) : Fun E 13 [.string b] (rdV b) := by
  refine Fun.of f13 rfl (of_decide_eq_true (by kernel_rfl)) (by unfold rdV; split <;> rfl) ?_
  have d1 : decide ((b.size : Int) < 5) = false := decide_eq_false (by omega)
  have d2 : decide ((b.size : Int) > 1005) = false := decide_eq_false (by omega)
  have v0 := byte_get b 0 (by omega)
  have v1 := byte_get b 1 (by omega)
  have v2 := byte_get b 2 (by omega)
  have i0 : 0 ≤ (0 : Int) ∧ (0 : Int) < b.size := by omega
  have i1 : 0 ≤ (1 : Int) ∧ (1 : Int) < b.size := by omega
  have i2 : 0 ≤ (2 : Int) ∧ (2 : Int) < b.size := by omega
  have i3 : 0 ≤ IntKind.i64.wrap ((b.size : Int) - 2) ∧ IntKind.i64.wrap ((b.size : Int) - 2) ≤ b.size := by have := w2_in h5 hb; omega
  have i4 : 0 ≤ (3 : Int) ∧ (3 : Int) ≤ ((IntKind.i64.wrap ((b.size : Int) - 2)).toNat : Int) := by have := w2_in h5 hb; omega
  have c := call10 h5 hb
  by_cases hf : Fit (at' b 0) (at' b 1) (at' b 2 / 8) (at' b 2 % 8) (b.size - 5)
  · rw [if_pos hf] at c
    have n := sum_ne b
    cases hk : sumOk b with
    | true =>
      rw [hk, Bool.not_true] at n
      have e : rdV b = _ := if_pos ⟨⟨h5, hb⟩, hk, hf⟩
      rw [e]
      refine Wp.seq (Wp.text (kp 2 (vI 0) (kp 3 (vI 0) (kp 4 (vI 0) (kp 5 (vI 0) (kp 6 (.string (ByteArray.mk #[])) (kp 7 (vI 0) (WpOps.nil (thenK_at (Wp.seq (Wp.seq (Wp.text (kp 10 (.string b) (kp 11 (vI (ByteArray.size b)) (kp 12 vF (kp 13 vF (kp 14 (.string b) (kp 15 (vI (ByteArray.size b)) (kp 16 vF (kp 17 vF (WpOps.nil (thenK_at (off' (Wp.skip (thenK_at (Wp.seq (Wp.region (by kernel_rfl) (kp 18 (.string b) (kp 19 (.int .u8 (↑(UInt8.toNat (byteAt b 0)) : Int)) (kp 20 (vI (IntKind.wrap .i64 (↑(UInt8.toNat (byteAt b 0)) : Int))) (kp 21 (.string b) (kp 22 (.int .u8 (↑(UInt8.toNat (byteAt b 1)) : Int)) (kp 23 (vI (IntKind.wrap .i64 (↑(UInt8.toNat (byteAt b 1)) : Int))) (kp 24 (.string b) (kp 25 (.int .u8 (↑(UInt8.toNat (byteAt b 2)) : Int)) (kp 26 (vI (IntKind.wrap .i64 (↑(UInt8.toNat (byteAt b 2)) : Int))) (kp 27 (vI (IntKind.wrap .i64 (Int.tdiv (IntKind.wrap .i64 (↑(UInt8.toNat (byteAt b 2)) : Int)) 8))) (kp 28 (.string b) (kp 29 (.int .u8 (↑(UInt8.toNat (byteAt b 2)) : Int)) (kp 30 (vI (IntKind.wrap .i64 (↑(UInt8.toNat (byteAt b 2)) : Int))) ?_) (hop := fun _ => o_indexStr (of_decide_eq_true (by kernel_rfl)) v2))))) (hop := fun _ => o_indexStr (of_decide_eq_true (by kernel_rfl)) v2)))) (hop := fun _ => o_indexStr (of_decide_eq_true (by kernel_rfl)) v1)))) (hop := fun _ => o_indexStr (of_decide_eq_true (by kernel_rfl)) v0))))))))))) (hop := fun _ => by_fact d2))))) (hop := fun _ => by_fact d1))))))))))))))))
      refine kp 31 (vI (Int.tmod (IntKind.wrap .i64 (↑(UInt8.toNat (byteAt b 2)) : Int)) 8)) (kp 32 (.string b) (kp 33 (.string b) (kp 34 (vI (ByteArray.size b)) (kp 35 (vI (IntKind.wrap .i64 ((↑(ByteArray.size b) : Int) - 2))) (kp 36 (.string (ByteArray.extract b 3 (Int.toNat (IntKind.wrap .i64 ((↑(ByteArray.size b) : Int) - 2))))) (kp 2 (vI (IntKind.wrap .i64 (↑(UInt8.toNat (byteAt b 0)) : Int))) (kp 3 (vI (IntKind.wrap .i64 (↑(UInt8.toNat (byteAt b 1)) : Int))) (kp 4 (vI (IntKind.wrap .i64 (Int.tdiv (IntKind.wrap .i64 (↑(UInt8.toNat (byteAt b 2)) : Int)) 8))) (kp 5 (vI (Int.tmod (IntKind.wrap .i64 (↑(UInt8.toNat (byteAt b 2)) : Int)) 8)) (kp 6 (.string (ByteArray.extract b 3 (Int.toNat (IntKind.wrap .i64 ((↑(ByteArray.size b) : Int) - 2))))) (WpOps.nil (thenK_at (Wp.seq (Wp.seq (Wp.text (kp 38 (vI (IntKind.wrap .i64 (↑(UInt8.toNat (byteAt b 0)) : Int))) (kp 39 (vI (IntKind.wrap .i64 (↑(UInt8.toNat (byteAt b 1)) : Int))) (kp 40 (vI (IntKind.wrap .i64 (Int.tdiv (IntKind.wrap .i64 (↑(UInt8.toNat (byteAt b 2)) : Int)) 8))) (kp 41 (vI (Int.tmod (IntKind.wrap .i64 (↑(UInt8.toNat (byteAt b 2)) : Int)) 8)) (kp 42 (.string (ByteArray.extract b 3 (Int.toNat (IntKind.wrap .i64 ((↑(ByteArray.size b) : Int) - 2))))) (fr 43 10 [vI (IntKind.wrap .i64 (↑(UInt8.toNat (byteAt b 0)) : Int)), vI (IntKind.wrap .i64 (↑(UInt8.toNat (byteAt b 1)) : Int)), vI (IntKind.wrap .i64 (Int.tdiv (IntKind.wrap .i64 (↑(UInt8.toNat (byteAt b 2)) : Int)) 8)), vI (Int.tmod (IntKind.wrap .i64 (↑(UInt8.toNat (byteAt b 2)) : Int)) 8), Value.string (ByteArray.extract b 3 (Int.toNat (IntKind.wrap .i64 ((↑(ByteArray.size b) : Int) - 2))))] ?_)))))))))))))))) (hop := fun _ => o_cutLH i3 i4))))))
      refine WpFun.of (c) (kp 37 (.tuple #[Value.string (summed (ByteArray.extract b 0 (ByteArray.size b - 2))), vI 0]) (kp 44 (.string (summed (ByteArray.extract b 0 (ByteArray.size b - 2)))) (kp 45 (vI 0) (kp 8 (.string (summed (ByteArray.extract b 0 (ByteArray.size b - 2)))) (kp 9 (vI 0) (WpOps.nil (thenK_at (Wp.seq (Wp.text (kp 46 (vI 0) (kp 47 vF (kp 48 vF (kp 49 (.string (summed (ByteArray.extract b 0 (ByteArray.size b - 2)))) (kp 50 (.string b) (kp 51 vF (kp 52 vF (WpOps.nil (thenK_at (off' (Wp.skip (thenK_at (Wp.seq (Wp.text (kp 53 (vI (IntKind.wrap .i64 (↑(UInt8.toNat (byteAt b 0)) : Int))) (kp 54 (vI (IntKind.wrap .i64 (↑(UInt8.toNat (byteAt b 1)) : Int))) (kp 55 (vI (IntKind.wrap .i64 (Int.tdiv (IntKind.wrap .i64 (↑(UInt8.toNat (byteAt b 2)) : Int)) 8))) (kp 56 (vI (Int.tmod (IntKind.wrap .i64 (↑(UInt8.toNat (byteAt b 2)) : Int)) 8)) (kp 57 (.string (ByteArray.extract b 3 (Int.toNat (IntKind.wrap .i64 ((↑(ByteArray.size b) : Int) - 2))))) (kp 2 (vI (IntKind.wrap .i64 (↑(UInt8.toNat (byteAt b 0)) : Int))) (kp 3 (vI (IntKind.wrap .i64 (↑(UInt8.toNat (byteAt b 1)) : Int))) (kp 4 (vI (IntKind.wrap .i64 (Int.tdiv (IntKind.wrap .i64 (↑(UInt8.toNat (byteAt b 2)) : Int)) 8))) (kp 5 (vI (Int.tmod (IntKind.wrap .i64 (↑(UInt8.toNat (byteAt b 2)) : Int)) 8)) (kp 6 (.string (ByteArray.extract b 3 (Int.toNat (IntKind.wrap .i64 ((↑(ByteArray.size b) : Int) - 2))))) ?_)))))))))))))))))) (hop := fun _ => by_fact n))))))))))))))))
      refine kp 7 (vI 0) (WpOps.nil (thenK_at (Wp.ret (endK_retn [vI (IntKind.wrap IntKind.i64 (↑(UInt8.toNat (byteAt b 0)) : Int)), vI (IntKind.wrap IntKind.i64 (↑(UInt8.toNat (byteAt b 1)) : Int)), vI (IntKind.wrap IntKind.i64 (Int.tdiv (IntKind.wrap IntKind.i64 (↑(UInt8.toNat (byteAt b 2)) : Int)) 8)), vI (Int.tmod (IntKind.wrap IntKind.i64 (↑(UInt8.toNat (byteAt b 2)) : Int)) 8), Value.string (ByteArray.extract b 3 (Int.toNat (IntKind.wrap IntKind.i64 ((↑(ByteArray.size b) : Int) - 2)))), vI 0] (Value.tuple #[vI (IntKind.wrap IntKind.i64 (↑(UInt8.toNat (byteAt b 0)) : Int)), vI (IntKind.wrap IntKind.i64 (↑(UInt8.toNat (byteAt b 1)) : Int)), vI (IntKind.wrap IntKind.i64 (Int.tdiv (IntKind.wrap IntKind.i64 (↑(UInt8.toNat (byteAt b 2)) : Int)) 8)), vI (Int.tmod (IntKind.wrap IntKind.i64 (↑(UInt8.toNat (byteAt b 2)) : Int)) 8), Value.string (ByteArray.extract b 3 (Int.toNat (IntKind.wrap IntKind.i64 ((↑(ByteArray.size b) : Int) - 2)))), vI 0]) (by kernel_rfl) (by kernel_rfl) ?_))))
      rw [byte_w b 0, byte_w b 1, byte_w b 2, byte_d b, byte_m b, dat_w h5 hb]
      rfl
    | false =>
      rw [hk, Bool.not_false] at n
      have e : rdV b = _ := if_neg fun h => by rw [h.2.1] at hk; cases hk
      rw [e]
      refine Wp.seq (Wp.text (kp 2 (vI 0) (kp 3 (vI 0) (kp 4 (vI 0) (kp 5 (vI 0) (kp 6 (.string (ByteArray.mk #[])) (kp 7 (vI 0) (WpOps.nil (thenK_at (Wp.seq (Wp.seq (Wp.text (kp 10 (.string b) (kp 11 (vI (ByteArray.size b)) (kp 12 vF (kp 13 vF (kp 14 (.string b) (kp 15 (vI (ByteArray.size b)) (kp 16 vF (kp 17 vF (WpOps.nil (thenK_at (off' (Wp.skip (thenK_at (Wp.seq (Wp.region (by kernel_rfl) (kp 18 (.string b) (kp 19 (.int .u8 (↑(UInt8.toNat (byteAt b 0)) : Int)) (kp 20 (vI (IntKind.wrap .i64 (↑(UInt8.toNat (byteAt b 0)) : Int))) (kp 21 (.string b) (kp 22 (.int .u8 (↑(UInt8.toNat (byteAt b 1)) : Int)) (kp 23 (vI (IntKind.wrap .i64 (↑(UInt8.toNat (byteAt b 1)) : Int))) (kp 24 (.string b) (kp 25 (.int .u8 (↑(UInt8.toNat (byteAt b 2)) : Int)) (kp 26 (vI (IntKind.wrap .i64 (↑(UInt8.toNat (byteAt b 2)) : Int))) (kp 27 (vI (IntKind.wrap .i64 (Int.tdiv (IntKind.wrap .i64 (↑(UInt8.toNat (byteAt b 2)) : Int)) 8))) (kp 28 (.string b) (kp 29 (.int .u8 (↑(UInt8.toNat (byteAt b 2)) : Int)) (kp 30 (vI (IntKind.wrap .i64 (↑(UInt8.toNat (byteAt b 2)) : Int))) ?_) (hop := fun _ => o_indexStr (of_decide_eq_true (by kernel_rfl)) v2))))) (hop := fun _ => o_indexStr (of_decide_eq_true (by kernel_rfl)) v2)))) (hop := fun _ => o_indexStr (of_decide_eq_true (by kernel_rfl)) v1)))) (hop := fun _ => o_indexStr (of_decide_eq_true (by kernel_rfl)) v0))))))))))) (hop := fun _ => by_fact d2))))) (hop := fun _ => by_fact d1))))))))))))))))
      refine kp 31 (vI (Int.tmod (IntKind.wrap .i64 (↑(UInt8.toNat (byteAt b 2)) : Int)) 8)) (kp 32 (.string b) (kp 33 (.string b) (kp 34 (vI (ByteArray.size b)) (kp 35 (vI (IntKind.wrap .i64 ((↑(ByteArray.size b) : Int) - 2))) (kp 36 (.string (ByteArray.extract b 3 (Int.toNat (IntKind.wrap .i64 ((↑(ByteArray.size b) : Int) - 2))))) (kp 2 (vI (IntKind.wrap .i64 (↑(UInt8.toNat (byteAt b 0)) : Int))) (kp 3 (vI (IntKind.wrap .i64 (↑(UInt8.toNat (byteAt b 1)) : Int))) (kp 4 (vI (IntKind.wrap .i64 (Int.tdiv (IntKind.wrap .i64 (↑(UInt8.toNat (byteAt b 2)) : Int)) 8))) (kp 5 (vI (Int.tmod (IntKind.wrap .i64 (↑(UInt8.toNat (byteAt b 2)) : Int)) 8)) (kp 6 (.string (ByteArray.extract b 3 (Int.toNat (IntKind.wrap .i64 ((↑(ByteArray.size b) : Int) - 2))))) (WpOps.nil (thenK_at (Wp.seq (Wp.seq (Wp.text (kp 38 (vI (IntKind.wrap .i64 (↑(UInt8.toNat (byteAt b 0)) : Int))) (kp 39 (vI (IntKind.wrap .i64 (↑(UInt8.toNat (byteAt b 1)) : Int))) (kp 40 (vI (IntKind.wrap .i64 (Int.tdiv (IntKind.wrap .i64 (↑(UInt8.toNat (byteAt b 2)) : Int)) 8))) (kp 41 (vI (Int.tmod (IntKind.wrap .i64 (↑(UInt8.toNat (byteAt b 2)) : Int)) 8)) (kp 42 (.string (ByteArray.extract b 3 (Int.toNat (IntKind.wrap .i64 ((↑(ByteArray.size b) : Int) - 2))))) (fr 43 10 [vI (IntKind.wrap .i64 (↑(UInt8.toNat (byteAt b 0)) : Int)), vI (IntKind.wrap .i64 (↑(UInt8.toNat (byteAt b 1)) : Int)), vI (IntKind.wrap .i64 (Int.tdiv (IntKind.wrap .i64 (↑(UInt8.toNat (byteAt b 2)) : Int)) 8)), vI (Int.tmod (IntKind.wrap .i64 (↑(UInt8.toNat (byteAt b 2)) : Int)) 8), Value.string (ByteArray.extract b 3 (Int.toNat (IntKind.wrap .i64 ((↑(ByteArray.size b) : Int) - 2))))] ?_)))))))))))))))) (hop := fun _ => o_cutLH i3 i4))))))
      refine WpFun.of (c) (kp 37 (.tuple #[Value.string (summed (ByteArray.extract b 0 (ByteArray.size b - 2))), vI 0]) (kp 44 (.string (summed (ByteArray.extract b 0 (ByteArray.size b - 2)))) (kp 45 (vI 0) (kp 8 (.string (summed (ByteArray.extract b 0 (ByteArray.size b - 2)))) (kp 9 (vI 0) (WpOps.nil (thenK_at (Wp.seq (Wp.text (kp 46 (vI 0) (kp 47 vF (kp 48 vF (kp 49 (.string (summed (ByteArray.extract b 0 (ByteArray.size b - 2)))) (kp 50 (.string b) (kp 51 vT (kp 52 vT (WpOps.nil (thenK_at (on' (Wp.seq (Wp.text (kp 2 (vI 0) (kp 3 (vI 0) (kp 4 (vI 0) (kp 5 (vI 0) (kp 6 (.string (ByteArray.mk #[])) (kp 7 (vI 4) (WpOps.nil (thenK_at (Wp.ret (thenK_ret (endK_retn [vI 0, vI 0, vI 0, vI 0, Value.string (ByteArray.mk #[]), vI 4] (Value.tuple #[vI 0, vI 0, vI 0, vI 0, Value.string (ByteArray.mk #[]), vI 4]) (by kernel_rfl) (by kernel_rfl) ?_))))))))))))))))) (hop := fun _ => by_fact n))))))))))))))))
      kernel_rfl
  · rw [if_neg hf] at c
    have e : rdV b = _ := if_neg fun h => hf h.2.2
    rw [e]
    refine Wp.seq (Wp.text (kp 2 (vI 0) (kp 3 (vI 0) (kp 4 (vI 0) (kp 5 (vI 0) (kp 6 (.string (ByteArray.mk #[])) (kp 7 (vI 0) (WpOps.nil (thenK_at (Wp.seq (Wp.seq (Wp.text (kp 10 (.string b) (kp 11 (vI (ByteArray.size b)) (kp 12 vF (kp 13 vF (kp 14 (.string b) (kp 15 (vI (ByteArray.size b)) (kp 16 vF (kp 17 vF (WpOps.nil (thenK_at (off' (Wp.skip (thenK_at (Wp.seq (Wp.region (by kernel_rfl) (kp 18 (.string b) (kp 19 (.int .u8 (↑(UInt8.toNat (byteAt b 0)) : Int)) (kp 20 (vI (IntKind.wrap .i64 (↑(UInt8.toNat (byteAt b 0)) : Int))) (kp 21 (.string b) (kp 22 (.int .u8 (↑(UInt8.toNat (byteAt b 1)) : Int)) (kp 23 (vI (IntKind.wrap .i64 (↑(UInt8.toNat (byteAt b 1)) : Int))) (kp 24 (.string b) (kp 25 (.int .u8 (↑(UInt8.toNat (byteAt b 2)) : Int)) (kp 26 (vI (IntKind.wrap .i64 (↑(UInt8.toNat (byteAt b 2)) : Int))) (kp 27 (vI (IntKind.wrap .i64 (Int.tdiv (IntKind.wrap .i64 (↑(UInt8.toNat (byteAt b 2)) : Int)) 8))) (kp 28 (.string b) (kp 29 (.int .u8 (↑(UInt8.toNat (byteAt b 2)) : Int)) (kp 30 (vI (IntKind.wrap .i64 (↑(UInt8.toNat (byteAt b 2)) : Int))) ?_) (hop := fun _ => o_indexStr (of_decide_eq_true (by kernel_rfl)) v2))))) (hop := fun _ => o_indexStr (of_decide_eq_true (by kernel_rfl)) v2)))) (hop := fun _ => o_indexStr (of_decide_eq_true (by kernel_rfl)) v1)))) (hop := fun _ => o_indexStr (of_decide_eq_true (by kernel_rfl)) v0))))))))))) (hop := fun _ => by_fact d2))))) (hop := fun _ => by_fact d1))))))))))))))))
    refine kp 31 (vI (Int.tmod (IntKind.wrap .i64 (↑(UInt8.toNat (byteAt b 2)) : Int)) 8)) (kp 32 (.string b) (kp 33 (.string b) (kp 34 (vI (ByteArray.size b)) (kp 35 (vI (IntKind.wrap .i64 ((↑(ByteArray.size b) : Int) - 2))) (kp 36 (.string (ByteArray.extract b 3 (Int.toNat (IntKind.wrap .i64 ((↑(ByteArray.size b) : Int) - 2))))) (kp 2 (vI (IntKind.wrap .i64 (↑(UInt8.toNat (byteAt b 0)) : Int))) (kp 3 (vI (IntKind.wrap .i64 (↑(UInt8.toNat (byteAt b 1)) : Int))) (kp 4 (vI (IntKind.wrap .i64 (Int.tdiv (IntKind.wrap .i64 (↑(UInt8.toNat (byteAt b 2)) : Int)) 8))) (kp 5 (vI (Int.tmod (IntKind.wrap .i64 (↑(UInt8.toNat (byteAt b 2)) : Int)) 8)) (kp 6 (.string (ByteArray.extract b 3 (Int.toNat (IntKind.wrap .i64 ((↑(ByteArray.size b) : Int) - 2))))) (WpOps.nil (thenK_at (Wp.seq (Wp.seq (Wp.text (kp 38 (vI (IntKind.wrap .i64 (↑(UInt8.toNat (byteAt b 0)) : Int))) (kp 39 (vI (IntKind.wrap .i64 (↑(UInt8.toNat (byteAt b 1)) : Int))) (kp 40 (vI (IntKind.wrap .i64 (Int.tdiv (IntKind.wrap .i64 (↑(UInt8.toNat (byteAt b 2)) : Int)) 8))) (kp 41 (vI (Int.tmod (IntKind.wrap .i64 (↑(UInt8.toNat (byteAt b 2)) : Int)) 8)) (kp 42 (.string (ByteArray.extract b 3 (Int.toNat (IntKind.wrap .i64 ((↑(ByteArray.size b) : Int) - 2))))) (fr 43 10 [vI (IntKind.wrap .i64 (↑(UInt8.toNat (byteAt b 0)) : Int)), vI (IntKind.wrap .i64 (↑(UInt8.toNat (byteAt b 1)) : Int)), vI (IntKind.wrap .i64 (Int.tdiv (IntKind.wrap .i64 (↑(UInt8.toNat (byteAt b 2)) : Int)) 8)), vI (Int.tmod (IntKind.wrap .i64 (↑(UInt8.toNat (byteAt b 2)) : Int)) 8), Value.string (ByteArray.extract b 3 (Int.toNat (IntKind.wrap .i64 ((↑(ByteArray.size b) : Int) - 2))))] ?_)))))))))))))))) (hop := fun _ => o_cutLH i3 i4))))))
    refine WpFun.of (c) (kp 37 (.tuple #[Value.string ByteArray.empty, vI 1]) (kp 44 (.string ByteArray.empty) (kp 45 (vI 1) (kp 8 (.string ByteArray.empty) (kp 9 (vI 1) (WpOps.nil (thenK_at (Wp.seq (Wp.text (kp 46 (vI 1) (kp 47 vT (kp 48 vT (um 49 (um 50 (um 51 (kp 52 vT (WpOps.nil (thenK_at (on' (Wp.seq (Wp.text (kp 2 (vI 0) (kp 3 (vI 0) (kp 4 (vI 0) (kp 5 (vI 0) (kp 6 (.string (ByteArray.mk #[])) (kp 7 (vI 4) (WpOps.nil (thenK_at (Wp.ret (thenK_ret (endK_retn [vI 0, vI 0, vI 0, vI 0, Value.string (ByteArray.mk #[]), vI 4] (Value.tuple #[vI 0, vI 0, vI 0, vI 0, Value.string (ByteArray.mk #[]), vI 4]) (by kernel_rfl) (by kernel_rfl) ?_))))))))))))))))))))))))))))))))
    kernel_rfl
theorem read13 (b : ByteArray) : Fun E 13 [.string b] (rdV b) := by
  by_cases h : 5 ≤ b.size ∧ b.size ≤ 1005
  · exact read13_ok b h.1 h.2
  · exact read13_bad b h
theorem read14_bad (b : ByteArray) (h : ¬ (5 ≤ b.size ∧ b.size ≤ 1005)) : Fun E 14 [.string b] (rdV b) := by
  refine Fun.of f14 rfl (of_decide_eq_true (by kernel_rfl)) (by unfold rdV; split <;> rfl) ?_
  have hn : rdV b = .tuple #[.int .i64 0, .int .i64 0, .int .i64 0, .int .i64 0, .string ByteArray.empty, .int .i64 4] := if_neg fun hr => h hr.1
  rw [hn]
  refine Wp.seq (Wp.text (kp 2 (vI 0) (kp 3 (vI 0) (kp 4 (vI 0) (kp 5 (vI 0) (kp 6 (.string (ByteArray.mk #[])) (kp 7 (vI 0) (WpOps.nil (thenK_at (Wp.seq (Wp.seq (Wp.text (kp 14 (.string b) (kp 15 (vI (ByteArray.size b)) (kp 16 (.bool (decide ((↑(ByteArray.size b) : Int) < 5))) (kp 17 (.bool (decide ((↑(ByteArray.size b) : Int) < 5))) ?_))))))))))))))))
  refine WpOps.fork 4 (decide ((↑(ByteArray.size b) : Int) < 5)) [18, 19, 20, 21] 21 (true) (decide ((↑(ByteArray.size b) : Int) > 1005)) (by kernel_rfl) (fun g21 => ?_) (fun g21 => ?_) (fun f_21 b21 hb21 => ?_)
  · refine um 18 (um 19 (um 20 (kp 21 vT (WpOps.nil ?_) (hop := fun _ => o_pickT g21)) (hw := wants_tf g21)) (hw := wants_tf g21)) (hw := wants_tf g21)
    exact ⟨rfl, (.upd rfl (.upd rfl (.upd rfl (.upd rfl .refl)))), (by kernel_rfl)⟩
  · refine kp 18 (.string b) (kp 19 (vI (ByteArray.size b)) (kp 20 (.bool (decide ((↑(ByteArray.size b) : Int) > 1005))) (kp 21 (.bool (decide ((↑(ByteArray.size b) : Int) > 1005))) (WpOps.nil ?_) (hop := fun _ => o_pickF g21)) (hw := wants_ff g21)) (hw := wants_ff g21)) (hw := wants_ff g21)
    exact ⟨rfl, (.upd rfl (.upd rfl (.upd rfl (.upd rfl .refl)))), (by kernel_rfl)⟩
  refine WpOps.nil (thenK_at ?_)
  refine Wp.split (b21) (by kernel_rfl) (fun hc => ?_) (fun hc => ?_)
  · refine Wp.seq (Wp.text (kp 2 (vI 0) (kp 3 (vI 0) (kp 4 (vI 0) (kp 5 (vI 0) (kp 6 (.string (ByteArray.mk #[])) (kp 7 (vI 4) (WpOps.nil (thenK_at (Wp.ret (thenK_ret (endK_retn [vI 0, vI 0, vI 0, vI 0, Value.string (ByteArray.mk #[]), vI 4] (Value.tuple #[vI 0, vI 0, vI 0, vI 0, Value.string (ByteArray.mk #[]), vI 4]) (by kernel_rfl) (by kernel_rfl) ?_))))))))))))
    kernel_rfl
  · exfalso
    rw [hb21] at hc
    simp only [cond_or, Bool.or_eq_false_iff, decide_eq_false_iff_not] at hc
    omega
section
variable {b : ByteArray} (h5 : 5 ≤ b.size) (hb : b.size ≤ 1005)
include h5 hb
theorem call34 : Fun E 34 [.string (b.extract 0 (IntKind.i64.wrap ((b.size : Int) - 2)).toNat)] (.tuple #[.string (sumS (b.extract 0 (b.size - 2))), .int .i64 0]) := by
  rw [w2 h5 hb]
  exact sum34 _ (by rw [ByteArray.size_extract]; omega)
theorem call33 : Fun E 33 [.int .i64 (IntKind.i64.wrap ((byteAt b 0).toNat : Int)), .int .i64 (IntKind.i64.wrap ((byteAt b 1).toNat : Int)), .int .i64 (IntKind.i64.wrap ((IntKind.i64.wrap ((byteAt b 2).toNat : Int)).tdiv 8)), .int .i64 ((IntKind.i64.wrap ((byteAt b 2).toNat : Int)).tmod 8), .string (b.extract 3 (IntKind.i64.wrap ((b.size : Int) - 2)).toNat)]
    (.bool (decide (Fit (at' b 0) (at' b 1) (at' b 2 / 8) (at' b 2 % 8) (b.size - 5)))) := by
  have c := fits33 (at' b 0) (at' b 1) (at' b 2 / 8) (at' b 2 % 8) (dat b)
  rw [dat_size b h5] at c
  rw [byte_w b 0, byte_w b 1, byte_w b 2, byte_d b, byte_m b, dat_w h5 hb]
  exact c
theorem sum_w : (!((sumS (b.extract 0 (b.size - 2))).toList == (b.extract (IntKind.i64.wrap ((b.size : Int) - 2)).toNat b.size).toList)) = !sumOk b := by
  rw [w2 h5 hb]
  rfl
end
set_option maxHeartbeats 4000000 in
theorem read14_ok (b : ByteArray) (h5 : 5 ≤ b.size) (hb : b.size ≤ 1005) : Fun E 14 [.string b] (rdV b) := by
  refine Fun.of f14 rfl (of_decide_eq_true (by kernel_rfl)) (by unfold rdV; split <;> rfl) ?_
  have d1 : decide ((b.size : Int) < 5) = false := decide_eq_false (by omega)
  have d2 : decide ((b.size : Int) > 1005) = false := decide_eq_false (by omega)
  have v0 := byte_get b 0 (by omega)
  have v1 := byte_get b 1 (by omega)
  have v2 := byte_get b 2 (by omega)
  have i0 : 0 ≤ (0 : Int) ∧ (0 : Int) < b.size := by omega
  have i1 : 0 ≤ (1 : Int) ∧ (1 : Int) < b.size := by omega
  have i2 : 0 ≤ (2 : Int) ∧ (2 : Int) < b.size := by omega
  have i3 : 0 ≤ IntKind.i64.wrap ((b.size : Int) - 2) ∧ IntKind.i64.wrap ((b.size : Int) - 2) ≤ b.size := by have := w2_in h5 hb; omega
  have i4 : 0 ≤ (3 : Int) ∧ (3 : Int) ≤ ((IntKind.i64.wrap ((b.size : Int) - 2)).toNat : Int) := by have := w2_in h5 hb; omega
  have c1 := call34 h5 hb
  have c2 := call33 h5 hb
  refine Wp.seq (Wp.text (kp 2 (vI 0) (kp 3 (vI 0) (kp 4 (vI 0) (kp 5 (vI 0) (kp 6 (.string (ByteArray.mk #[])) (kp 7 (vI 0) (WpOps.nil (thenK_at (Wp.seq (Wp.seq (Wp.text (kp 14 (.string b) (kp 15 (vI (ByteArray.size b)) (kp 16 vF (kp 17 vF (kp 18 (.string b) (kp 19 (vI (ByteArray.size b)) (kp 20 vF (kp 21 vF (WpOps.nil (thenK_at (off' (Wp.skip (thenK_at (Wp.seq (Wp.text (kp 23 (.string b) (kp 24 (.string b) (kp 25 (vI (ByteArray.size b)) (kp 26 (vI (IntKind.wrap .i64 ((↑(ByteArray.size b) : Int) - 2))) (kp 27 (.string (ByteArray.extract b 0 (Int.toNat (IntKind.wrap .i64 ((↑(ByteArray.size b) : Int) - 2))))) (fr 28 34 [Value.string (ByteArray.extract b 0 (Int.toNat (IntKind.wrap .i64 ((↑(ByteArray.size b) : Int) - 2))))] (WpFun.of (c1) (kp 22 (.tuple #[Value.string (sumS (ByteArray.extract b 0 (ByteArray.size b - 2))), vI 0]) (kp 29 (.string (sumS (ByteArray.extract b 0 (ByteArray.size b - 2)))) (kp 30 (vI 0) (kp 8 (.string (sumS (ByteArray.extract b 0 (ByteArray.size b - 2)))) (kp 9 (vI 0) (WpOps.nil (thenK_at (Wp.seq (Wp.region (by kernel_rfl) (kp 31 (.string b) (kp 32 (.int .u8 (↑(UInt8.toNat (byteAt b 0)) : Int)) (kp 33 (vI (IntKind.wrap .i64 (↑(UInt8.toNat (byteAt b 0)) : Int))) ?_) (hop := fun _ => o_indexStr (of_decide_eq_true (by kernel_rfl)) v0)))))))))))))) (hop := fun _ => o_cut_hi i3)))))))))))))) (hop := fun _ => by_fact d2))))) (hop := fun _ => by_fact d1))))))))))))))))
  refine kp 34 (.string b) (kp 35 (.int .u8 (↑(UInt8.toNat (byteAt b 1)) : Int)) (kp 36 (vI (IntKind.wrap .i64 (↑(UInt8.toNat (byteAt b 1)) : Int))) (kp 37 (.string b) (kp 38 (.int .u8 (↑(UInt8.toNat (byteAt b 2)) : Int)) (kp 39 (vI (IntKind.wrap .i64 (↑(UInt8.toNat (byteAt b 2)) : Int))) (kp 40 (.string b) (kp 41 (.string b) (kp 42 (vI (ByteArray.size b)) (kp 43 (vI (IntKind.wrap .i64 ((↑(ByteArray.size b) : Int) - 2))) (kp 44 (.string (ByteArray.extract b 3 (Int.toNat (IntKind.wrap .i64 ((↑(ByteArray.size b) : Int) - 2))))) (kp 10 (vI (IntKind.wrap .i64 (↑(UInt8.toNat (byteAt b 0)) : Int))) (kp 11 (vI (IntKind.wrap .i64 (↑(UInt8.toNat (byteAt b 1)) : Int))) (kp 12 (vI (IntKind.wrap .i64 (↑(UInt8.toNat (byteAt b 2)) : Int))) (kp 13 (.string (ByteArray.extract b 3 (Int.toNat (IntKind.wrap .i64 ((↑(ByteArray.size b) : Int) - 2))))) (WpOps.nil (thenK_at (Wp.seq (Wp.seq (Wp.text (kp 45 (.string (sumS (ByteArray.extract b 0 (ByteArray.size b - 2)))) (kp 46 (.string b) (kp 47 (.string b) (kp 48 (vI (ByteArray.size b)) (kp 49 (vI (IntKind.wrap .i64 ((↑(ByteArray.size b) : Int) - 2))) (kp 50 (.string (ByteArray.extract b (Int.toNat (IntKind.wrap .i64 ((↑(ByteArray.size b) : Int) - 2))) (ByteArray.size b))) (kp 51 (.bool !ByteArray.toList (sumS (ByteArray.extract b 0 (ByteArray.size b - 2))) == ByteArray.toList (ByteArray.extract b (Int.toNat (IntKind.wrap .i64 ((↑(ByteArray.size b) : Int) - 2))) (ByteArray.size b))) ?_) (hop := fun _ => o_cut_lo i3)))))))))))))))) (hop := fun _ => o_cutLH i3 i4))))))) (hop := fun _ => o_indexStr (of_decide_eq_true (by kernel_rfl)) v2)))) (hop := fun _ => o_indexStr (of_decide_eq_true (by kernel_rfl)) v1))
  refine kp 52 (.bool !ByteArray.toList (sumS (ByteArray.extract b 0 (ByteArray.size b - 2))) == ByteArray.toList (ByteArray.extract b (Int.toNat (IntKind.wrap .i64 ((↑(ByteArray.size b) : Int) - 2))) (ByteArray.size b))) ?_
  refine WpOps.fork 3 (!ByteArray.toList (sumS (ByteArray.extract b 0 (ByteArray.size b - 2))) == ByteArray.toList (ByteArray.extract b (Int.toNat (IntKind.wrap IntKind.i64 ((↑(ByteArray.size b) : Int) - 2))) (ByteArray.size b))) [53, 54, 55] 55 (true) (decide (IntKind.wrap IntKind.i64 (↑(UInt8.toNat (byteAt b 2)) : Int) > 63)) (by kernel_rfl) (fun g55 => ?_) (fun g55 => ?_) (fun f_55 b55 hb55 => ?_)
  · refine um 53 (um 54 (kp 55 vT (WpOps.nil ?_) (hop := fun _ => o_pickT g55)) (hw := wants_tf g55)) (hw := wants_tf g55)
    exact ⟨rfl, (.upd rfl (.upd rfl (.upd rfl .refl))), (by kernel_rfl)⟩
  · refine kp 53 (vI (IntKind.wrap .i64 (↑(UInt8.toNat (byteAt b 2)) : Int))) (kp 54 (.bool (decide (IntKind.wrap .i64 (↑(UInt8.toNat (byteAt b 2)) : Int) > 63))) (kp 55 (.bool (decide (IntKind.wrap .i64 (↑(UInt8.toNat (byteAt b 2)) : Int) > 63))) (WpOps.nil ?_) (hop := fun _ => o_pickF g55)) (hw := wants_ff g55)) (hw := wants_ff g55)
    exact ⟨rfl, (.upd rfl (.upd rfl (.upd rfl .refl))), (by kernel_rfl)⟩
  refine kp 56 (.bool b55) ?_
  refine WpOps.fork 10 (b55) [57, 58, 59, 60, 61, 62, 63, 64, 65, 66] 66 (true) (!decide (Fit (at' b 0) (at' b 1) (at' b 2 / 8) (at' b 2 % 8) (ByteArray.size b - 5))) (by kernel_rfl) (fun g66 => ?_) (fun g66 => ?_) (fun f_66 b66 hb66 => ?_)
  · refine um 57 (um 58 (um 59 (um 60 (um 61 (um 62 (um 63 (um 64 (um 65 (kp 66 vT (WpOps.nil ?_) (hop := fun _ => o_pickT g66)) (hw := wants_tf g66)) (hw := wants_tf g66)) (hw := wants_tf g66)) (hw := wants_tf g66)) (hw := wants_tf g66)) (hw := wants_tf g66)) (hw := wants_tf g66)) (hw := wants_tf g66)) (hw := wants_tf g66)
    exact ⟨rfl, (.upd rfl (.upd rfl (.upd rfl (.upd rfl (.upd rfl (.upd rfl (.upd rfl (.upd rfl (.upd rfl (.upd rfl .refl)))))))))), (by kernel_rfl)⟩
  · refine kp 57 (vI (IntKind.wrap .i64 (↑(UInt8.toNat (byteAt b 0)) : Int))) (kp 58 (vI (IntKind.wrap .i64 (↑(UInt8.toNat (byteAt b 1)) : Int))) (kp 59 (vI (IntKind.wrap .i64 (↑(UInt8.toNat (byteAt b 2)) : Int))) (kp 60 (vI (IntKind.wrap .i64 (Int.tdiv (IntKind.wrap .i64 (↑(UInt8.toNat (byteAt b 2)) : Int)) 8))) (kp 61 (vI (IntKind.wrap .i64 (↑(UInt8.toNat (byteAt b 2)) : Int))) (kp 62 (vI (Int.tmod (IntKind.wrap .i64 (↑(UInt8.toNat (byteAt b 2)) : Int)) 8)) (kp 63 (.string (ByteArray.extract b 3 (Int.toNat (IntKind.wrap .i64 ((↑(ByteArray.size b) : Int) - 2))))) (fr 64 33 [vI (IntKind.wrap .i64 (↑(UInt8.toNat (byteAt b 0)) : Int)), vI (IntKind.wrap .i64 (↑(UInt8.toNat (byteAt b 1)) : Int)), vI (IntKind.wrap .i64 (Int.tdiv (IntKind.wrap .i64 (↑(UInt8.toNat (byteAt b 2)) : Int)) 8)), vI (Int.tmod (IntKind.wrap .i64 (↑(UInt8.toNat (byteAt b 2)) : Int)) 8), Value.string (ByteArray.extract b 3 (Int.toNat (IntKind.wrap .i64 ((↑(ByteArray.size b) : Int) - 2))))] (WpFun.of (c2) (kp 65 (.bool !decide (Fit (at' b 0) (at' b 1) (at' b 2 / 8) (at' b 2 % 8) (ByteArray.size b - 5))) (kp 66 (.bool !decide (Fit (at' b 0) (at' b 1) (at' b 2 / 8) (at' b 2 % 8) (ByteArray.size b - 5))) (WpOps.nil ?_) (hop := fun _ => o_pickF g66)) (hw := wants_ff g66))) (hw := wants_ff g66)) (hw := wants_ff g66)) (hw := wants_ff g66)) (hw := wants_ff g66)) (hw := wants_ff g66)) (hw := wants_ff g66)) (hw := wants_ff g66)) (hw := wants_ff g66)
    exact ⟨rfl, (.upd rfl (.upd rfl (.upd rfl (.upd rfl (.upd rfl (.upd rfl (.upd rfl (.upd rfl (.upd rfl (.upd rfl .refl)))))))))), (by kernel_rfl)⟩
  refine WpOps.nil (thenK_at ?_)
  have he : b66 = !decide (RdOk b) := by
    have hi : (decide (RdOk b)) = (sumOk b && decide (Fit (at' b 0) (at' b 1) (at' b 2 / 8) (at' b 2 % 8) (b.size - 5))) := by
      rw [Bool.eq_iff_iff, Bool.and_eq_true, decide_eq_true_eq, decide_eq_true_eq]
      exact ⟨fun h => h.2, fun h => ⟨⟨h5, hb⟩, h⟩⟩
    rw [hb66, hb55, sum_w h5 hb, byte_w b 2, hi]
    by_cases hf : Fit (at' b 0) (at' b 1) (at' b 2 / 8) (at' b 2 % 8) (b.size - 5)
    · have h3 : at' b 2 / 8 ≤ 7 := hf.2.2.1.2
      rw [decide_eq_true hf, decide_eq_false (show ¬ (at' b 2 > 63) by omega)]
      cases sumOk b <;> rfl
    · rw [decide_eq_false hf, Bool.and_false, cond_or]
      cases (bif !sumOk b then true else decide (at' b 2 > 63)) <;> rfl
  refine Wp.split (b66) (by kernel_rfl) (fun hc => ?_) (fun hc => ?_)
  · rw [hc] at he
    have e : rdV b = _ := if_neg fun h => by rw [decide_eq_true h] at he; cases he
    rw [e]
    refine Wp.seq (Wp.text (kp 2 (vI 0) (kp 3 (vI 0) (kp 4 (vI 0) (kp 5 (vI 0) (kp 6 (.string (ByteArray.mk #[])) (kp 7 (vI 4) (WpOps.nil (thenK_at (Wp.ret (thenK_ret (endK_retn [vI 0, vI 0, vI 0, vI 0, Value.string (ByteArray.mk #[]), vI 4] (Value.tuple #[vI 0, vI 0, vI 0, vI 0, Value.string (ByteArray.mk #[]), vI 4]) (by kernel_rfl) (by kernel_rfl) ?_))))))))))))
    kernel_rfl
  · rw [hc] at he
    have hr : RdOk b := of_decide_eq_true (by simpa using he.symm)
    have e : rdV b = _ := if_pos hr
    rw [e]
    refine Wp.skip (thenK_at (Wp.seq (Wp.text (kp 67 (vI (IntKind.wrap .i64 (↑(UInt8.toNat (byteAt b 0)) : Int))) (kp 68 (vI (IntKind.wrap .i64 (↑(UInt8.toNat (byteAt b 1)) : Int))) (kp 69 (vI (IntKind.wrap .i64 (↑(UInt8.toNat (byteAt b 2)) : Int))) (kp 70 (vI (IntKind.wrap .i64 (Int.tdiv (IntKind.wrap .i64 (↑(UInt8.toNat (byteAt b 2)) : Int)) 8))) (kp 71 (vI (IntKind.wrap .i64 (↑(UInt8.toNat (byteAt b 2)) : Int))) (kp 72 (vI (Int.tmod (IntKind.wrap .i64 (↑(UInt8.toNat (byteAt b 2)) : Int)) 8)) (kp 73 (.string (ByteArray.extract b 3 (Int.toNat (IntKind.wrap .i64 ((↑(ByteArray.size b) : Int) - 2))))) (kp 2 (vI (IntKind.wrap .i64 (↑(UInt8.toNat (byteAt b 0)) : Int))) (kp 3 (vI (IntKind.wrap .i64 (↑(UInt8.toNat (byteAt b 1)) : Int))) (kp 4 (vI (IntKind.wrap .i64 (Int.tdiv (IntKind.wrap .i64 (↑(UInt8.toNat (byteAt b 2)) : Int)) 8))) (kp 5 (vI (Int.tmod (IntKind.wrap .i64 (↑(UInt8.toNat (byteAt b 2)) : Int)) 8)) (kp 6 (.string (ByteArray.extract b 3 (Int.toNat (IntKind.wrap .i64 ((↑(ByteArray.size b) : Int) - 2))))) (kp 7 (vI 0) (WpOps.nil (thenK_at (Wp.ret (endK_retn [vI (IntKind.wrap IntKind.i64 (↑(UInt8.toNat (byteAt b 0)) : Int)), vI (IntKind.wrap IntKind.i64 (↑(UInt8.toNat (byteAt b 1)) : Int)), vI (IntKind.wrap IntKind.i64 (Int.tdiv (IntKind.wrap IntKind.i64 (↑(UInt8.toNat (byteAt b 2)) : Int)) 8)), vI (Int.tmod (IntKind.wrap IntKind.i64 (↑(UInt8.toNat (byteAt b 2)) : Int)) 8), Value.string (ByteArray.extract b 3 (Int.toNat (IntKind.wrap IntKind.i64 ((↑(ByteArray.size b) : Int) - 2)))), vI 0] (Value.tuple #[vI (IntKind.wrap IntKind.i64 (↑(UInt8.toNat (byteAt b 0)) : Int)), vI (IntKind.wrap IntKind.i64 (↑(UInt8.toNat (byteAt b 1)) : Int)), vI (IntKind.wrap IntKind.i64 (Int.tdiv (IntKind.wrap IntKind.i64 (↑(UInt8.toNat (byteAt b 2)) : Int)) 8)), vI (Int.tmod (IntKind.wrap IntKind.i64 (↑(UInt8.toNat (byteAt b 2)) : Int)) 8), Value.string (ByteArray.extract b 3 (Int.toNat (IntKind.wrap IntKind.i64 ((↑(ByteArray.size b) : Int) - 2)))), vI 0]) (by kernel_rfl) (by kernel_rfl) ?_))))))))))))))))))))
    rw [byte_w b 0, byte_w b 1, byte_w b 2, byte_d b, byte_m b, dat_w h5 hb]
    rfl
theorem read14 (b : ByteArray) : Fun E 14 [.string b] (rdV b) := by
  by_cases h : 5 ≤ b.size ∧ b.size ≤ 1005
  · exact read14_ok b h.1 h.2
  · exact read14_bad b h
end Go.Proofs.Ytgefohjickhldaa.D
