/- Reading frames: link.Read and the document's. -/
import Derived.Test.YtgefohjickhldaaFwLem
import Derived.Test.YtgefohjickhldaaF10b
namespace Go.Proofs.Ytgefohjickhldaa.D
open Go.Fw Go.RowKit

def at' (b : ByteArray) (i : Nat) : Int := ((byteAt b i).toNat : Int)
def dat (b : ByteArray) : ByteArray := b.extract 3 (b.size - 2)
/-- Is it a frame? -/
def RdOk (b : ByteArray) : Prop := (5 ≤ b.size ∧ b.size ≤ 1005) ∧ sumOk b = true ∧ Fit (at' b 0) (at' b 1) (at' b 2 / 8) (at' b 2 % 8) (b.size - 5)
instance (b : ByteArray) : Decidable (RdOk b) := inferInstanceAs (Decidable (_ ∧ _))
def rdV (b : ByteArray) : Value := if RdOk b then .tuple #[.int .i64 (at' b 0), .int .i64 (at' b 1), .int .i64 (at' b 2 / 8), .int .i64 (at' b 2 % 8), .string (dat b), .int .i64 0]
  else .tuple #[.int .i64 0, .int .i64 0, .int .i64 0, .int .i64 0, .string ByteArray.empty, .int .i64 4]
theorem at_in (b : ByteArray) (i : Nat) : 0 ≤ at' b i ∧ at' b i ≤ 255 := by
  have : (byteAt b i).toNat < 256 := (byteAt b i).toNat_lt
  unfold at'
  omega
theorem dat_size (b : ByteArray) (h : 5 ≤ b.size) : (dat b).size = b.size - 5 := by
  unfold dat
  rw [ByteArray.size_extract]
  omega
/-- What stands ahead of the sum. -/
theorem head_eq (b : ByteArray) (h : 5 ≤ b.size) : fr3 (at' b 0) (at' b 1) (at' b 2 / 8) (at' b 2 % 8) ++ dat b = b.extract 0 (b.size - 2) := by
  have a0 := at_in b 0
  have a1 := at_in b 1
  have a2 := at_in b 2
  have e : IntKind.i64.wrap (IntKind.i64.wrap (8 * (at' b 2 / 8)) + at' b 2 % 8) = at' b 2 := by
    rw [wr (8 * (at' b 2 / 8)) (by omega) (by omega), wr _ (by omega) (by omega)]
    omega
  unfold fr3
  rw [e, wu8 _ a0.1 (by omega), wu8 _ a1.1 (by omega), wu8 _ a2.1 (by omega)]
  unfold at'
  simp only [Int.toNat_natCast, UInt8.ofNat_toNat]
  apply ByteArray.ext
  apply Array.toList_inj.1
  unfold dat
  rw [ByteArray.data_append, Array.toList_append, ByteArray.data_extract, ByteArray.data_extract, Array.toList_extract, Array.toList_extract, List.extract_eq_take_drop, List.extract_eq_take_drop, List.drop_zero, Nat.sub_zero]
  have hl : b.data.toList.length = b.size := Array.length_toList
  unfold byteAt
  match hb : b.data.toList, hl with
  | [], hl => simp at hl; omega
  | [_], hl => simp at hl; omega
  | [_, _], hl => simp at hl; omega
  | x :: y :: z :: r, hl =>
    have e2 : b.size - 2 = (b.size - 2 - 3) + 3 := by omega
    rw [e2]
    rfl
theorem f13 : E.funcs 13 = some Try.f13 := by kernel_rfl
theorem f14 : E.funcs 14 = some Try.f14 := by kernel_rfl
section
variable {b : ByteArray} (h5 : 5 ≤ b.size) (hb : b.size ≤ 1005)
include h5 hb
theorem w2 : IntKind.i64.wrap ((b.size : Int) - 2) = ((b.size - 2 : Nat) : Int) := by rw [wr _ (by omega) (by omega)]; omega
theorem w2_in : 3 ≤ IntKind.i64.wrap ((b.size : Int) - 2) ∧ IntKind.i64.wrap ((b.size : Int) - 2) ≤ b.size := by rw [w2 h5 hb]; omega
end
theorem read13_bad (b : ByteArray) (h : ¬ (5 ≤ b.size ∧ b.size ≤ 1005)) : Fun E 13 [.string b] (rdV b) := by
  refine Fun.of f13 rfl (of_decide_eq_true (by kernel_rfl)) (by unfold rdV; split <;> rfl) ?_
  have hn : rdV b = .tuple #[.int .i64 0, .int .i64 0, .int .i64 0, .int .i64 0, .string ByteArray.empty, .int .i64 4] := if_neg fun hr => h hr.1
  rw [hn]
  refine Wp.seq ?_
  refine Wp.text ?_
  refine WpOps.keep 2 (Value.int IntKind.i64 0) (by kernel_rfl) (by kernel_rfl) (by kernel_rfl) ?_ (fun cf => (by kernel_rfl))
  refine WpOps.keep 3 (Value.int IntKind.i64 0) (by kernel_rfl) (by kernel_rfl) (by kernel_rfl) ?_ (fun cf => (by kernel_rfl))
  refine WpOps.keep 4 (Value.int IntKind.i64 0) (by kernel_rfl) (by kernel_rfl) (by kernel_rfl) ?_ (fun cf => (by kernel_rfl))
  refine WpOps.keep 5 (Value.int IntKind.i64 0) (by kernel_rfl) (by kernel_rfl) (by kernel_rfl) ?_ (fun cf => (by kernel_rfl))
  refine WpOps.keep 6 (Value.string (ByteArray.mk #[])) (by kernel_rfl) (by kernel_rfl) (by kernel_rfl) ?_ (fun cf => (by kernel_rfl))
  refine WpOps.keep 7 (Value.int IntKind.i64 0) (by kernel_rfl) (by kernel_rfl) (by kernel_rfl) ?_ (fun cf => (by kernel_rfl))
  refine WpOps.nil ?_
  refine thenK_at ?_
  refine Wp.seq ?_
  refine Wp.seq ?_
  refine Wp.text ?_
  refine WpOps.keep 10 (Value.string b) (by kernel_rfl) (by kernel_rfl) (by kernel_rfl) ?_ (fun cf => (by kernel_rfl))
  refine WpOps.keep 11 (Value.int IntKind.i64 (↑(ByteArray.size b) : Int)) (by kernel_rfl) (by kernel_rfl) (by kernel_rfl) ?_ (fun cf => (by kernel_rfl))
  refine WpOps.keep 12 (Value.bool (decide ((↑(ByteArray.size b) : Int) < 5))) (by kernel_rfl) (by kernel_rfl) (by kernel_rfl) ?_ (fun cf => (by kernel_rfl))
  refine WpOps.keep 13 (Value.bool (decide ((↑(ByteArray.size b) : Int) < 5))) (by kernel_rfl) (by kernel_rfl) (by kernel_rfl) ?_ (fun cf => (by kernel_rfl))
  refine WpOps.fork 4 (decide ((↑(ByteArray.size b) : Int) < 5)) [14, 15, 16, 17] 17 (true) (decide ((↑(ByteArray.size b) : Int) > 1005)) (by kernel_rfl) (fun g17 => ?_) (fun g17 => ?_) (fun f_17 b17 hb17 => ?_)
  · refine WpOps.unmet 14 (by kernel_rfl) (by kernel_rfl) (wants_tf g17 (by kernel_rfl)) ?_
    refine WpOps.unmet 15 (by kernel_rfl) (by kernel_rfl) (wants_tf g17 (by kernel_rfl)) ?_
    refine WpOps.unmet 16 (by kernel_rfl) (by kernel_rfl) (wants_tf g17 (by kernel_rfl)) ?_
    refine WpOps.keep 17 (Value.bool true) (by kernel_rfl) (by kernel_rfl) (by kernel_rfl) ?_ (fun cf => o_pickT g17 (by kernel_rfl) (by kernel_rfl))
    refine WpOps.nil ?_
    exact ⟨rfl, (.upd rfl (.upd rfl (.upd rfl (.upd rfl .refl)))), (by kernel_rfl)⟩
  · refine WpOps.keep 14 (Value.string b) (by kernel_rfl) (by kernel_rfl) (wants_ff g17 (by kernel_rfl)) ?_ (fun cf => (by kernel_rfl))
    refine WpOps.keep 15 (Value.int IntKind.i64 (↑(ByteArray.size b) : Int)) (by kernel_rfl) (by kernel_rfl) (wants_ff g17 (by kernel_rfl)) ?_ (fun cf => (by kernel_rfl))
    refine WpOps.keep 16 (Value.bool (decide ((↑(ByteArray.size b) : Int) > 1005))) (by kernel_rfl) (by kernel_rfl) (wants_ff g17 (by kernel_rfl)) ?_ (fun cf => (by kernel_rfl))
    refine WpOps.keep 17 (Value.bool (decide ((↑(ByteArray.size b) : Int) > 1005))) (by kernel_rfl) (by kernel_rfl) (by kernel_rfl) ?_ (fun cf => o_pickF g17 (by kernel_rfl) (by kernel_rfl))
    refine WpOps.nil ?_
    exact ⟨rfl, (.upd rfl (.upd rfl (.upd rfl (.upd rfl .refl)))), (by kernel_rfl)⟩
  refine WpOps.nil ?_
  refine thenK_at ?_
  refine Wp.split (b17) (by kernel_rfl) (fun hc => ?_) (fun hc => ?_)
  · refine Wp.seq ?_
    refine Wp.text ?_
    refine WpOps.keep 2 (Value.int IntKind.i64 0) (by kernel_rfl) (by kernel_rfl) (by kernel_rfl) ?_ (fun cf => (by kernel_rfl))
    refine WpOps.keep 3 (Value.int IntKind.i64 0) (by kernel_rfl) (by kernel_rfl) (by kernel_rfl) ?_ (fun cf => (by kernel_rfl))
    refine WpOps.keep 4 (Value.int IntKind.i64 0) (by kernel_rfl) (by kernel_rfl) (by kernel_rfl) ?_ (fun cf => (by kernel_rfl))
    refine WpOps.keep 5 (Value.int IntKind.i64 0) (by kernel_rfl) (by kernel_rfl) (by kernel_rfl) ?_ (fun cf => (by kernel_rfl))
    refine WpOps.keep 6 (Value.string (ByteArray.mk #[])) (by kernel_rfl) (by kernel_rfl) (by kernel_rfl) ?_ (fun cf => (by kernel_rfl))
    refine WpOps.keep 7 (Value.int IntKind.i64 4) (by kernel_rfl) (by kernel_rfl) (by kernel_rfl) ?_ (fun cf => (by kernel_rfl))
    refine WpOps.nil ?_
    refine thenK_at ?_
    refine Wp.ret ?_
    refine thenK_ret ?_
    refine endK_retn [Value.int IntKind.i64 0, Value.int IntKind.i64 0, Value.int IntKind.i64 0, Value.int IntKind.i64 0, Value.string (ByteArray.mk #[]), Value.int IntKind.i64 4] (Value.tuple #[Value.int IntKind.i64 0, Value.int IntKind.i64 0, Value.int IntKind.i64 0, Value.int IntKind.i64 0, Value.string (ByteArray.mk #[]), Value.int IntKind.i64 4]) (by kernel_rfl) (by kernel_rfl) ?_
    kernel_rfl
  · exfalso
    rw [hb17] at hc
    simp only [cond_or, Bool.or_eq_false_iff, decide_eq_false_iff_not] at hc
    omega
theorem byte_w (b : ByteArray) (i : Nat) : IntKind.i64.wrap ((byteAt b i).toNat : Int) = at' b i := by
  have := at_in b i
  unfold at' at *
  rw [wr _ (by omega) (by omega)]
theorem byte_d (b : ByteArray) : IntKind.i64.wrap ((at' b 2).tdiv 8) = at' b 2 / 8 := by
  have := at_in b 2
  rw [Int.tdiv_eq_ediv_of_nonneg this.1, wr _ (by omega) (by omega)]
theorem byte_m (b : ByteArray) : (at' b 2).tmod 8 = at' b 2 % 8 := Int.tmod_eq_emod_of_nonneg (at_in b 2).1
section
variable {b : ByteArray} (h5 : 5 ≤ b.size) (hb : b.size ≤ 1005)
include h5 hb
theorem dat_w : b.extract 3 (IntKind.i64.wrap ((b.size : Int) - 2)).toNat = dat b := by rw [w2 h5 hb]; rfl
theorem call10 : Fun E 10 [.int .i64 (IntKind.i64.wrap ((byteAt b 0).toNat : Int)), .int .i64 (IntKind.i64.wrap ((byteAt b 1).toNat : Int)), .int .i64 (IntKind.i64.wrap ((IntKind.i64.wrap ((byteAt b 2).toNat : Int)).tdiv 8)), .int .i64 ((IntKind.i64.wrap ((byteAt b 2).toNat : Int)).tmod 8), .string (b.extract 3 (IntKind.i64.wrap ((b.size : Int) - 2)).toNat)]
    (if Fit (at' b 0) (at' b 1) (at' b 2 / 8) (at' b 2 % 8) (b.size - 5) then .tuple #[.string (summed (b.extract 0 (b.size - 2))), .int .i64 0] else .tuple #[.string ByteArray.empty, .int .i64 1]) := by
  have c := frame10 (at' b 0) (at' b 1) (at' b 2 / 8) (at' b 2 % 8) (dat b)
  rw [frame, dat_size b h5, head_eq b h5] at c
  rw [byte_w b 0, byte_w b 1, byte_w b 2, byte_d b, byte_m b, dat_w h5 hb]
  exact c
end
theorem sum_ne (b : ByteArray) : (!((summed (b.extract 0 (b.size - 2))).toList == b.toList)) = !sumOk b := by
  cases hk : sumOk b with
  | true => rw [summed_of hk, beq_self_eq_true]
  | false =>
    rw [str_ne fun h => by
      have := summed_ok (b.extract 0 (b.size - 2))
      rw [h, hk] at this
      cases this]
set_option maxHeartbeats 4000000 in
theorem read13_ok (b : ByteArray) (h5 : 5 ≤ b.size) (hb : b.size ≤ 1005) : Fun E 13 [.string b] (rdV b) := by
  refine Fun.of f13 rfl (of_decide_eq_true (by kernel_rfl)) (by unfold rdV; split <;> rfl) ?_
  have d1 : decide ((b.size : Int) < 5) = false := decide_eq_false (by omega)
  have d2 : decide ((b.size : Int) > 1005) = false := decide_eq_false (by omega)
  have v0 := byte_get b 0 (by omega)
  have v1 := byte_get b 1 (by omega)
  have v2 := byte_get b 2 (by omega)
  have i0 : 0 ≤ (0 : Int) ∧ (0 : Int) < b.size := by omega
  have i1 : 0 ≤ (1 : Int) ∧ (1 : Int) < b.size := by omega
  have i2 : 0 ≤ (2 : Int) ∧ (2 : Int) < b.size := by omega
  have i3 : 0 ≤ IntKind.i64.wrap ((b.size : Int) - 2) ∧ IntKind.i64.wrap ((b.size : Int) - 2) ≤ b.size := by have := w2_in h5 hb; omega
  have i4 : 0 ≤ (3 : Int) ∧ (3 : Int) ≤ ((IntKind.i64.wrap ((b.size : Int) - 2)).toNat : Int) := by have := w2_in h5 hb; omega
  have c := call10 h5 hb
  by_cases hf : Fit (at' b 0) (at' b 1) (at' b 2 / 8) (at' b 2 % 8) (b.size - 5)
  · rw [if_pos hf] at c
    have n := sum_ne b
    cases hk : sumOk b with
    | true =>
      rw [hk, Bool.not_true] at n
      have e : rdV b = _ := if_pos ⟨⟨h5, hb⟩, hk, hf⟩
      rw [e]
      refine Wp.seq ?_
      refine Wp.text ?_
      refine WpOps.keep 2 (Value.int IntKind.i64 0) (by kernel_rfl) (by kernel_rfl) (by kernel_rfl) ?_ (fun cf => (by kernel_rfl))
      refine WpOps.keep 3 (Value.int IntKind.i64 0) (by kernel_rfl) (by kernel_rfl) (by kernel_rfl) ?_ (fun cf => (by kernel_rfl))
      refine WpOps.keep 4 (Value.int IntKind.i64 0) (by kernel_rfl) (by kernel_rfl) (by kernel_rfl) ?_ (fun cf => (by kernel_rfl))
      refine WpOps.keep 5 (Value.int IntKind.i64 0) (by kernel_rfl) (by kernel_rfl) (by kernel_rfl) ?_ (fun cf => (by kernel_rfl))
      refine WpOps.keep 6 (Value.string (ByteArray.mk #[])) (by kernel_rfl) (by kernel_rfl) (by kernel_rfl) ?_ (fun cf => (by kernel_rfl))
      refine WpOps.keep 7 (Value.int IntKind.i64 0) (by kernel_rfl) (by kernel_rfl) (by kernel_rfl) ?_ (fun cf => (by kernel_rfl))
      refine WpOps.nil ?_
      refine thenK_at ?_
      refine Wp.seq ?_
      refine Wp.seq ?_
      refine Wp.text ?_
      refine WpOps.keep 10 (Value.string b) (by kernel_rfl) (by kernel_rfl) (by kernel_rfl) ?_ (fun cf => (by kernel_rfl))
      refine WpOps.keep 11 (Value.int IntKind.i64 (↑(ByteArray.size b) : Int)) (by kernel_rfl) (by kernel_rfl) (by kernel_rfl) ?_ (fun cf => (by kernel_rfl))
      refine WpOps.keep 12 (Value.bool false) (by kernel_rfl) (by kernel_rfl) (by kernel_rfl) ?_ (fun cf => by_fact d1 ((by kernel_rfl)))
      refine WpOps.keep 13 (Value.bool false) (by kernel_rfl) (by kernel_rfl) (by kernel_rfl) ?_ (fun cf => (by kernel_rfl))
      refine WpOps.keep 14 (Value.string b) (by kernel_rfl) (by kernel_rfl) (by kernel_rfl) ?_ (fun cf => (by kernel_rfl))
      refine WpOps.keep 15 (Value.int IntKind.i64 (↑(ByteArray.size b) : Int)) (by kernel_rfl) (by kernel_rfl) (by kernel_rfl) ?_ (fun cf => (by kernel_rfl))
      refine WpOps.keep 16 (Value.bool false) (by kernel_rfl) (by kernel_rfl) (by kernel_rfl) ?_ (fun cf => by_fact d2 ((by kernel_rfl)))
      refine WpOps.keep 17 (Value.bool false) (by kernel_rfl) (by kernel_rfl) (by kernel_rfl) ?_ (fun cf => (by kernel_rfl))
      refine WpOps.nil ?_
      refine thenK_at ?_
      refine Wp.off (by kernel_rfl) ?_
      refine Wp.skip ?_
      refine thenK_at ?_
      refine Wp.seq ?_
      refine Wp.region (by kernel_rfl) ?_
      refine WpOps.keep 18 (Value.string b) (by kernel_rfl) (by kernel_rfl) (by kernel_rfl) ?_ (fun cf => (by kernel_rfl))
      refine WpOps.keep 19 (Value.int IntKind.u8 (↑(UInt8.toNat (byteAt b 0)) : Int)) (by kernel_rfl) (by kernel_rfl) (by kernel_rfl) ?_ (fun cf => o_indexStr (of_decide_eq_true (by kernel_rfl)) v0 (by kernel_rfl) (by kernel_rfl) (by kernel_rfl))
      refine WpOps.keep 20 (Value.int IntKind.i64 (IntKind.wrap IntKind.i64 (↑(UInt8.toNat (byteAt b 0)) : Int))) (by kernel_rfl) (by kernel_rfl) (by kernel_rfl) ?_ (fun cf => (by kernel_rfl))
      refine WpOps.keep 21 (Value.string b) (by kernel_rfl) (by kernel_rfl) (by kernel_rfl) ?_ (fun cf => (by kernel_rfl))
      refine WpOps.keep 22 (Value.int IntKind.u8 (↑(UInt8.toNat (byteAt b 1)) : Int)) (by kernel_rfl) (by kernel_rfl) (by kernel_rfl) ?_ (fun cf => o_indexStr (of_decide_eq_true (by kernel_rfl)) v1 (by kernel_rfl) (by kernel_rfl) (by kernel_rfl))
      refine WpOps.keep 23 (Value.int IntKind.i64 (IntKind.wrap IntKind.i64 (↑(UInt8.toNat (byteAt b 1)) : Int))) (by kernel_rfl) (by kernel_rfl) (by kernel_rfl) ?_ (fun cf => (by kernel_rfl))
      refine WpOps.keep 24 (Value.string b) (by kernel_rfl) (by kernel_rfl) (by kernel_rfl) ?_ (fun cf => (by kernel_rfl))
      refine WpOps.keep 25 (Value.int IntKind.u8 (↑(UInt8.toNat (byteAt b 2)) : Int)) (by kernel_rfl) (by kernel_rfl) (by kernel_rfl) ?_ (fun cf => o_indexStr (of_decide_eq_true (by kernel_rfl)) v2 (by kernel_rfl) (by kernel_rfl) (by kernel_rfl))
      refine WpOps.keep 26 (Value.int IntKind.i64 (IntKind.wrap IntKind.i64 (↑(UInt8.toNat (byteAt b 2)) : Int))) (by kernel_rfl) (by kernel_rfl) (by kernel_rfl) ?_ (fun cf => (by kernel_rfl))
      refine WpOps.keep 27 (Value.int IntKind.i64 (IntKind.wrap IntKind.i64 (Int.tdiv (IntKind.wrap IntKind.i64 (↑(UInt8.toNat (byteAt b 2)) : Int)) 8))) (by kernel_rfl) (by kernel_rfl) (by kernel_rfl) ?_ (fun cf => (by kernel_rfl))
      refine WpOps.keep 28 (Value.string b) (by kernel_rfl) (by kernel_rfl) (by kernel_rfl) ?_ (fun cf => (by kernel_rfl))
      refine WpOps.keep 29 (Value.int IntKind.u8 (↑(UInt8.toNat (byteAt b 2)) : Int)) (by kernel_rfl) (by kernel_rfl) (by kernel_rfl) ?_ (fun cf => o_indexStr (of_decide_eq_true (by kernel_rfl)) v2 (by kernel_rfl) (by kernel_rfl) (by kernel_rfl))
      refine WpOps.keep 30 (Value.int IntKind.i64 (IntKind.wrap IntKind.i64 (↑(UInt8.toNat (byteAt b 2)) : Int))) (by kernel_rfl) (by kernel_rfl) (by kernel_rfl) ?_ (fun cf => (by kernel_rfl))
      refine WpOps.keep 31 (Value.int IntKind.i64 (Int.tmod (IntKind.wrap IntKind.i64 (↑(UInt8.toNat (byteAt b 2)) : Int)) 8)) (by kernel_rfl) (by kernel_rfl) (by kernel_rfl) ?_ (fun cf => (by kernel_rfl))
      refine WpOps.keep 32 (Value.string b) (by kernel_rfl) (by kernel_rfl) (by kernel_rfl) ?_ (fun cf => (by kernel_rfl))
      refine WpOps.keep 33 (Value.string b) (by kernel_rfl) (by kernel_rfl) (by kernel_rfl) ?_ (fun cf => (by kernel_rfl))
      refine WpOps.keep 34 (Value.int IntKind.i64 (↑(ByteArray.size b) : Int)) (by kernel_rfl) (by kernel_rfl) (by kernel_rfl) ?_ (fun cf => (by kernel_rfl))
      refine WpOps.keep 35 (Value.int IntKind.i64 (IntKind.wrap IntKind.i64 ((↑(ByteArray.size b) : Int) - 2))) (by kernel_rfl) (by kernel_rfl) (by kernel_rfl) ?_ (fun cf => (by kernel_rfl))
      refine WpOps.keep 36 (Value.string (ByteArray.extract b 3 (Int.toNat (IntKind.wrap IntKind.i64 ((↑(ByteArray.size b) : Int) - 2))))) (by kernel_rfl) (by kernel_rfl) (by kernel_rfl) ?_ (fun cf => o_cutLH i3 i4 (by kernel_rfl) (by kernel_rfl) (by kernel_rfl) (by kernel_rfl))
      refine WpOps.keep 2 (Value.int IntKind.i64 (IntKind.wrap IntKind.i64 (↑(UInt8.toNat (byteAt b 0)) : Int))) (by kernel_rfl) (by kernel_rfl) (by kernel_rfl) ?_ (fun cf => (by kernel_rfl))
      refine WpOps.keep 3 (Value.int IntKind.i64 (IntKind.wrap IntKind.i64 (↑(UInt8.toNat (byteAt b 1)) : Int))) (by kernel_rfl) (by kernel_rfl) (by kernel_rfl) ?_ (fun cf => (by kernel_rfl))
      refine WpOps.keep 4 (Value.int IntKind.i64 (IntKind.wrap IntKind.i64 (Int.tdiv (IntKind.wrap IntKind.i64 (↑(UInt8.toNat (byteAt b 2)) : Int)) 8))) (by kernel_rfl) (by kernel_rfl) (by kernel_rfl) ?_ (fun cf => (by kernel_rfl))
      refine WpOps.keep 5 (Value.int IntKind.i64 (Int.tmod (IntKind.wrap IntKind.i64 (↑(UInt8.toNat (byteAt b 2)) : Int)) 8)) (by kernel_rfl) (by kernel_rfl) (by kernel_rfl) ?_ (fun cf => (by kernel_rfl))
      refine WpOps.keep 6 (Value.string (ByteArray.extract b 3 (Int.toNat (IntKind.wrap IntKind.i64 ((↑(ByteArray.size b) : Int) - 2))))) (by kernel_rfl) (by kernel_rfl) (by kernel_rfl) ?_ (fun cf => (by kernel_rfl))
      refine WpOps.nil ?_
      refine thenK_at ?_
      refine Wp.seq ?_
      refine Wp.seq ?_
      refine Wp.text ?_
      refine WpOps.keep 38 (Value.int IntKind.i64 (IntKind.wrap IntKind.i64 (↑(UInt8.toNat (byteAt b 0)) : Int))) (by kernel_rfl) (by kernel_rfl) (by kernel_rfl) ?_ (fun cf => (by kernel_rfl))
      refine WpOps.keep 39 (Value.int IntKind.i64 (IntKind.wrap IntKind.i64 (↑(UInt8.toNat (byteAt b 1)) : Int))) (by kernel_rfl) (by kernel_rfl) (by kernel_rfl) ?_ (fun cf => (by kernel_rfl))
      refine WpOps.keep 40 (Value.int IntKind.i64 (IntKind.wrap IntKind.i64 (Int.tdiv (IntKind.wrap IntKind.i64 (↑(UInt8.toNat (byteAt b 2)) : Int)) 8))) (by kernel_rfl) (by kernel_rfl) (by kernel_rfl) ?_ (fun cf => (by kernel_rfl))
      refine WpOps.keep 41 (Value.int IntKind.i64 (Int.tmod (IntKind.wrap IntKind.i64 (↑(UInt8.toNat (byteAt b 2)) : Int)) 8)) (by kernel_rfl) (by kernel_rfl) (by kernel_rfl) ?_ (fun cf => (by kernel_rfl))
      refine WpOps.keep 42 (Value.string (ByteArray.extract b 3 (Int.toNat (IntKind.wrap IntKind.i64 ((↑(ByteArray.size b) : Int) - 2))))) (by kernel_rfl) (by kernel_rfl) (by kernel_rfl) ?_ (fun cf => (by kernel_rfl))
      refine WpOps.framed 43 10 [Value.int IntKind.i64 (IntKind.wrap IntKind.i64 (↑(UInt8.toNat (byteAt b 0)) : Int)), Value.int IntKind.i64 (IntKind.wrap IntKind.i64 (↑(UInt8.toNat (byteAt b 1)) : Int)), Value.int IntKind.i64 (IntKind.wrap IntKind.i64 (Int.tdiv (IntKind.wrap IntKind.i64 (↑(UInt8.toNat (byteAt b 2)) : Int)) 8)), Value.int IntKind.i64 (Int.tmod (IntKind.wrap IntKind.i64 (↑(UInt8.toNat (byteAt b 2)) : Int)) 8), Value.string (ByteArray.extract b 3 (Int.toNat (IntKind.wrap IntKind.i64 ((↑(ByteArray.size b) : Int) - 2))))] (by kernel_rfl) (by kernel_rfl) (by kernel_rfl) (by kernel_rfl) (by kernel_rfl) (fun cf => (by kernel_rfl)) ?_
      refine WpFun.of (c) ?_
      refine WpOps.keep 37 (Value.tuple #[Value.string (summed (ByteArray.extract b 0 (ByteArray.size b - 2))), Value.int IntKind.i64 0]) (by kernel_rfl) (by kernel_rfl) (by kernel_rfl) ?_ (fun cf => (by kernel_rfl))
      refine WpOps.keep 44 (Value.string (summed (ByteArray.extract b 0 (ByteArray.size b - 2)))) (by kernel_rfl) (by kernel_rfl) (by kernel_rfl) ?_ (fun cf => (by kernel_rfl))
      refine WpOps.keep 45 (Value.int IntKind.i64 0) (by kernel_rfl) (by kernel_rfl) (by kernel_rfl) ?_ (fun cf => (by kernel_rfl))
      refine WpOps.keep 8 (Value.string (summed (ByteArray.extract b 0 (ByteArray.size b - 2)))) (by kernel_rfl) (by kernel_rfl) (by kernel_rfl) ?_ (fun cf => (by kernel_rfl))
      refine WpOps.keep 9 (Value.int IntKind.i64 0) (by kernel_rfl) (by kernel_rfl) (by kernel_rfl) ?_ (fun cf => (by kernel_rfl))
      refine WpOps.nil ?_
      refine thenK_at ?_
      refine Wp.seq ?_
      refine Wp.text ?_
      refine WpOps.keep 46 (Value.int IntKind.i64 0) (by kernel_rfl) (by kernel_rfl) (by kernel_rfl) ?_ (fun cf => (by kernel_rfl))
      refine WpOps.keep 47 (Value.bool false) (by kernel_rfl) (by kernel_rfl) (by kernel_rfl) ?_ (fun cf => (by kernel_rfl))
      refine WpOps.keep 48 (Value.bool false) (by kernel_rfl) (by kernel_rfl) (by kernel_rfl) ?_ (fun cf => (by kernel_rfl))
      refine WpOps.keep 49 (Value.string (summed (ByteArray.extract b 0 (ByteArray.size b - 2)))) (by kernel_rfl) (by kernel_rfl) (by kernel_rfl) ?_ (fun cf => (by kernel_rfl))
      refine WpOps.keep 50 (Value.string b) (by kernel_rfl) (by kernel_rfl) (by kernel_rfl) ?_ (fun cf => (by kernel_rfl))
      refine WpOps.keep 51 (Value.bool false) (by kernel_rfl) (by kernel_rfl) (by kernel_rfl) ?_ (fun cf => by_fact n ((by kernel_rfl)))
      refine WpOps.keep 52 (Value.bool false) (by kernel_rfl) (by kernel_rfl) (by kernel_rfl) ?_ (fun cf => (by kernel_rfl))
      refine WpOps.nil ?_
      refine thenK_at ?_
      refine Wp.off (by kernel_rfl) ?_
      refine Wp.skip ?_
      refine thenK_at ?_
      refine Wp.seq ?_
      refine Wp.text ?_
      refine WpOps.keep 53 (Value.int IntKind.i64 (IntKind.wrap IntKind.i64 (↑(UInt8.toNat (byteAt b 0)) : Int))) (by kernel_rfl) (by kernel_rfl) (by kernel_rfl) ?_ (fun cf => (by kernel_rfl))
      refine WpOps.keep 54 (Value.int IntKind.i64 (IntKind.wrap IntKind.i64 (↑(UInt8.toNat (byteAt b 1)) : Int))) (by kernel_rfl) (by kernel_rfl) (by kernel_rfl) ?_ (fun cf => (by kernel_rfl))
      refine WpOps.keep 55 (Value.int IntKind.i64 (IntKind.wrap IntKind.i64 (Int.tdiv (IntKind.wrap IntKind.i64 (↑(UInt8.toNat (byteAt b 2)) : Int)) 8))) (by kernel_rfl) (by kernel_rfl) (by kernel_rfl) ?_ (fun cf => (by kernel_rfl))
      refine WpOps.keep 56 (Value.int IntKind.i64 (Int.tmod (IntKind.wrap IntKind.i64 (↑(UInt8.toNat (byteAt b 2)) : Int)) 8)) (by kernel_rfl) (by kernel_rfl) (by kernel_rfl) ?_ (fun cf => (by kernel_rfl))
      refine WpOps.keep 57 (Value.string (ByteArray.extract b 3 (Int.toNat (IntKind.wrap IntKind.i64 ((↑(ByteArray.size b) : Int) - 2))))) (by kernel_rfl) (by kernel_rfl) (by kernel_rfl) ?_ (fun cf => (by kernel_rfl))
      refine WpOps.keep 2 (Value.int IntKind.i64 (IntKind.wrap IntKind.i64 (↑(UInt8.toNat (byteAt b 0)) : Int))) (by kernel_rfl) (by kernel_rfl) (by kernel_rfl) ?_ (fun cf => (by kernel_rfl))
      refine WpOps.keep 3 (Value.int IntKind.i64 (IntKind.wrap IntKind.i64 (↑(UInt8.toNat (byteAt b 1)) : Int))) (by kernel_rfl) (by kernel_rfl) (by kernel_rfl) ?_ (fun cf => (by kernel_rfl))
      refine WpOps.keep 4 (Value.int IntKind.i64 (IntKind.wrap IntKind.i64 (Int.tdiv (IntKind.wrap IntKind.i64 (↑(UInt8.toNat (byteAt b 2)) : Int)) 8))) (by kernel_rfl) (by kernel_rfl) (by kernel_rfl) ?_ (fun cf => (by kernel_rfl))
      refine WpOps.keep 5 (Value.int IntKind.i64 (Int.tmod (IntKind.wrap IntKind.i64 (↑(UInt8.toNat (byteAt b 2)) : Int)) 8)) (by kernel_rfl) (by kernel_rfl) (by kernel_rfl) ?_ (fun cf => (by kernel_rfl))
      refine WpOps.keep 6 (Value.string (ByteArray.extract b 3 (Int.toNat (IntKind.wrap IntKind.i64 ((↑(ByteArray.size b) : Int) - 2))))) (by kernel_rfl) (by kernel_rfl) (by kernel_rfl) ?_ (fun cf => (by kernel_rfl))
      refine WpOps.keep 7 (Value.int IntKind.i64 0) (by kernel_rfl) (by kernel_rfl) (by kernel_rfl) ?_ (fun cf => (by kernel_rfl))
      refine WpOps.nil ?_
      refine thenK_at ?_
      refine Wp.ret ?_
      refine endK_retn [Value.int IntKind.i64 (IntKind.wrap IntKind.i64 (↑(UInt8.toNat (byteAt b 0)) : Int)), Value.int IntKind.i64 (IntKind.wrap IntKind.i64 (↑(UInt8.toNat (byteAt b 1)) : Int)), Value.int IntKind.i64 (IntKind.wrap IntKind.i64 (Int.tdiv (IntKind.wrap IntKind.i64 (↑(UInt8.toNat (byteAt b 2)) : Int)) 8)), Value.int IntKind.i64 (Int.tmod (IntKind.wrap IntKind.i64 (↑(UInt8.toNat (byteAt b 2)) : Int)) 8), Value.string (ByteArray.extract b 3 (Int.toNat (IntKind.wrap IntKind.i64 ((↑(ByteArray.size b) : Int) - 2)))), Value.int IntKind.i64 0] (Value.tuple #[Value.int IntKind.i64 (IntKind.wrap IntKind.i64 (↑(UInt8.toNat (byteAt b 0)) : Int)), Value.int IntKind.i64 (IntKind.wrap IntKind.i64 (↑(UInt8.toNat (byteAt b 1)) : Int)), Value.int IntKind.i64 (IntKind.wrap IntKind.i64 (Int.tdiv (IntKind.wrap IntKind.i64 (↑(UInt8.toNat (byteAt b 2)) : Int)) 8)), Value.int IntKind.i64 (Int.tmod (IntKind.wrap IntKind.i64 (↑(UInt8.toNat (byteAt b 2)) : Int)) 8), Value.string (ByteArray.extract b 3 (Int.toNat (IntKind.wrap IntKind.i64 ((↑(ByteArray.size b) : Int) - 2)))), Value.int IntKind.i64 0]) (by kernel_rfl) (by kernel_rfl) ?_
      rw [byte_w b 0, byte_w b 1, byte_w b 2, byte_d b, byte_m b, dat_w h5 hb]
      rfl
    | false =>
      rw [hk, Bool.not_false] at n
      have e : rdV b = _ := if_neg fun h => by rw [h.2.1] at hk; cases hk
      rw [e]
      refine Wp.seq ?_
      refine Wp.text ?_
      refine WpOps.keep 2 (Value.int IntKind.i64 0) (by kernel_rfl) (by kernel_rfl) (by kernel_rfl) ?_ (fun cf => (by kernel_rfl))
      refine WpOps.keep 3 (Value.int IntKind.i64 0) (by kernel_rfl) (by kernel_rfl) (by kernel_rfl) ?_ (fun cf => (by kernel_rfl))
      refine WpOps.keep 4 (Value.int IntKind.i64 0) (by kernel_rfl) (by kernel_rfl) (by kernel_rfl) ?_ (fun cf => (by kernel_rfl))
      refine WpOps.keep 5 (Value.int IntKind.i64 0) (by kernel_rfl) (by kernel_rfl) (by kernel_rfl) ?_ (fun cf => (by kernel_rfl))
      refine WpOps.keep 6 (Value.string (ByteArray.mk #[])) (by kernel_rfl) (by kernel_rfl) (by kernel_rfl) ?_ (fun cf => (by kernel_rfl))
      refine WpOps.keep 7 (Value.int IntKind.i64 0) (by kernel_rfl) (by kernel_rfl) (by kernel_rfl) ?_ (fun cf => (by kernel_rfl))
      refine WpOps.nil ?_
      refine thenK_at ?_
      refine Wp.seq ?_
      refine Wp.seq ?_
      refine Wp.text ?_
      refine WpOps.keep 10 (Value.string b) (by kernel_rfl) (by kernel_rfl) (by kernel_rfl) ?_ (fun cf => (by kernel_rfl))
      refine WpOps.keep 11 (Value.int IntKind.i64 (↑(ByteArray.size b) : Int)) (by kernel_rfl) (by kernel_rfl) (by kernel_rfl) ?_ (fun cf => (by kernel_rfl))
      refine WpOps.keep 12 (Value.bool false) (by kernel_rfl) (by kernel_rfl) (by kernel_rfl) ?_ (fun cf => by_fact d1 ((by kernel_rfl)))
      refine WpOps.keep 13 (Value.bool false) (by kernel_rfl) (by kernel_rfl) (by kernel_rfl) ?_ (fun cf => (by kernel_rfl))
      refine WpOps.keep 14 (Value.string b) (by kernel_rfl) (by kernel_rfl) (by kernel_rfl) ?_ (fun cf => (by kernel_rfl))
      refine WpOps.keep 15 (Value.int IntKind.i64 (↑(ByteArray.size b) : Int)) (by kernel_rfl) (by kernel_rfl) (by kernel_rfl) ?_ (fun cf => (by kernel_rfl))
      refine WpOps.keep 16 (Value.bool false) (by kernel_rfl) (by kernel_rfl) (by kernel_rfl) ?_ (fun cf => by_fact d2 ((by kernel_rfl)))
      refine WpOps.keep 17 (Value.bool false) (by kernel_rfl) (by kernel_rfl) (by kernel_rfl) ?_ (fun cf => (by kernel_rfl))
      refine WpOps.nil ?_
      refine thenK_at ?_
      refine Wp.off (by kernel_rfl) ?_
      refine Wp.skip ?_
      refine thenK_at ?_
      refine Wp.seq ?_
      refine Wp.region (by kernel_rfl) ?_
      refine WpOps.keep 18 (Value.string b) (by kernel_rfl) (by kernel_rfl) (by kernel_rfl) ?_ (fun cf => (by kernel_rfl))
      refine WpOps.keep 19 (Value.int IntKind.u8 (↑(UInt8.toNat (byteAt b 0)) : Int)) (by kernel_rfl) (by kernel_rfl) (by kernel_rfl) ?_ (fun cf => o_indexStr (of_decide_eq_true (by kernel_rfl)) v0 (by kernel_rfl) (by kernel_rfl) (by kernel_rfl))
      refine WpOps.keep 20 (Value.int IntKind.i64 (IntKind.wrap IntKind.i64 (↑(UInt8.toNat (byteAt b 0)) : Int))) (by kernel_rfl) (by kernel_rfl) (by kernel_rfl) ?_ (fun cf => (by kernel_rfl))
      refine WpOps.keep 21 (Value.string b) (by kernel_rfl) (by kernel_rfl) (by kernel_rfl) ?_ (fun cf => (by kernel_rfl))
      refine WpOps.keep 22 (Value.int IntKind.u8 (↑(UInt8.toNat (byteAt b 1)) : Int)) (by kernel_rfl) (by kernel_rfl) (by kernel_rfl) ?_ (fun cf => o_indexStr (of_decide_eq_true (by kernel_rfl)) v1 (by kernel_rfl) (by kernel_rfl) (by kernel_rfl))
      refine WpOps.keep 23 (Value.int IntKind.i64 (IntKind.wrap IntKind.i64 (↑(UInt8.toNat (byteAt b 1)) : Int))) (by kernel_rfl) (by kernel_rfl) (by kernel_rfl) ?_ (fun cf => (by kernel_rfl))
      refine WpOps.keep 24 (Value.string b) (by kernel_rfl) (by kernel_rfl) (by kernel_rfl) ?_ (fun cf => (by kernel_rfl))
      refine WpOps.keep 25 (Value.int IntKind.u8 (↑(UInt8.toNat (byteAt b 2)) : Int)) (by kernel_rfl) (by kernel_rfl) (by kernel_rfl) ?_ (fun cf => o_indexStr (of_decide_eq_true (by kernel_rfl)) v2 (by kernel_rfl) (by kernel_rfl) (by kernel_rfl))
      refine WpOps.keep 26 (Value.int IntKind.i64 (IntKind.wrap IntKind.i64 (↑(UInt8.toNat (byteAt b 2)) : Int))) (by kernel_rfl) (by kernel_rfl) (by kernel_rfl) ?_ (fun cf => (by kernel_rfl))
      refine WpOps.keep 27 (Value.int IntKind.i64 (IntKind.wrap IntKind.i64 (Int.tdiv (IntKind.wrap IntKind.i64 (↑(UInt8.toNat (byteAt b 2)) : Int)) 8))) (by kernel_rfl) (by kernel_rfl) (by kernel_rfl) ?_ (fun cf => (by kernel_rfl))
      refine WpOps.keep 28 (Value.string b) (by kernel_rfl) (by kernel_rfl) (by kernel_rfl) ?_ (fun cf => (by kernel_rfl))
      refine WpOps.keep 29 (Value.int IntKind.u8 (↑(UInt8.toNat (byteAt b 2)) : Int)) (by kernel_rfl) (by kernel_rfl) (by kernel_rfl) ?_ (fun cf => o_indexStr (of_decide_eq_true (by kernel_rfl)) v2 (by kernel_rfl) (by kernel_rfl) (by kernel_rfl))
      refine WpOps.keep 30 (Value.int IntKind.i64 (IntKind.wrap IntKind.i64 (↑(UInt8.toNat (byteAt b 2)) : Int))) (by kernel_rfl) (by kernel_rfl) (by kernel_rfl) ?_ (fun cf => (by kernel_rfl))
      refine WpOps.keep 31 (Value.int IntKind.i64 (Int.tmod (IntKind.wrap IntKind.i64 (↑(UInt8.toNat (byteAt b 2)) : Int)) 8)) (by kernel_rfl) (by kernel_rfl) (by kernel_rfl) ?_ (fun cf => (by kernel_rfl))
      refine WpOps.keep 32 (Value.string b) (by kernel_rfl) (by kernel_rfl) (by kernel_rfl) ?_ (fun cf => (by kernel_rfl))
      refine WpOps.keep 33 (Value.string b) (by kernel_rfl) (by kernel_rfl) (by kernel_rfl) ?_ (fun cf => (by kernel_rfl))
      refine WpOps.keep 34 (Value.int IntKind.i64 (↑(ByteArray.size b) : Int)) (by kernel_rfl) (by kernel_rfl) (by kernel_rfl) ?_ (fun cf => (by kernel_rfl))
      refine WpOps.keep 35 (Value.int IntKind.i64 (IntKind.wrap IntKind.i64 ((↑(ByteArray.size b) : Int) - 2))) (by kernel_rfl) (by kernel_rfl) (by kernel_rfl) ?_ (fun cf => (by kernel_rfl))
      refine WpOps.keep 36 (Value.string (ByteArray.extract b 3 (Int.toNat (IntKind.wrap IntKind.i64 ((↑(ByteArray.size b) : Int) - 2))))) (by kernel_rfl) (by kernel_rfl) (by kernel_rfl) ?_ (fun cf => o_cutLH i3 i4 (by kernel_rfl) (by kernel_rfl) (by kernel_rfl) (by kernel_rfl))
      refine WpOps.keep 2 (Value.int IntKind.i64 (IntKind.wrap IntKind.i64 (↑(UInt8.toNat (byteAt b 0)) : Int))) (by kernel_rfl) (by kernel_rfl) (by kernel_rfl) ?_ (fun cf => (by kernel_rfl))
      refine WpOps.keep 3 (Value.int IntKind.i64 (IntKind.wrap IntKind.i64 (↑(UInt8.toNat (byteAt b 1)) : Int))) (by kernel_rfl) (by kernel_rfl) (by kernel_rfl) ?_ (fun cf => (by kernel_rfl))
      refine WpOps.keep 4 (Value.int IntKind.i64 (IntKind.wrap IntKind.i64 (Int.tdiv (IntKind.wrap IntKind.i64 (↑(UInt8.toNat (byteAt b 2)) : Int)) 8))) (by kernel_rfl) (by kernel_rfl) (by kernel_rfl) ?_ (fun cf => (by kernel_rfl))
      refine WpOps.keep 5 (Value.int IntKind.i64 (Int.tmod (IntKind.wrap IntKind.i64 (↑(UInt8.toNat (byteAt b 2)) : Int)) 8)) (by kernel_rfl) (by kernel_rfl) (by kernel_rfl) ?_ (fun cf => (by kernel_rfl))
      refine WpOps.keep 6 (Value.string (ByteArray.extract b 3 (Int.toNat (IntKind.wrap IntKind.i64 ((↑(ByteArray.size b) : Int) - 2))))) (by kernel_rfl) (by kernel_rfl) (by kernel_rfl) ?_ (fun cf => (by kernel_rfl))
      refine WpOps.nil ?_
      refine thenK_at ?_
      refine Wp.seq ?_
      refine Wp.seq ?_
      refine Wp.text ?_
      refine WpOps.keep 38 (Value.int IntKind.i64 (IntKind.wrap IntKind.i64 (↑(UInt8.toNat (byteAt b 0)) : Int))) (by kernel_rfl) (by kernel_rfl) (by kernel_rfl) ?_ (fun cf => (by kernel_rfl))
      refine WpOps.keep 39 (Value.int IntKind.i64 (IntKind.wrap IntKind.i64 (↑(UInt8.toNat (byteAt b 1)) : Int))) (by kernel_rfl) (by kernel_rfl) (by kernel_rfl) ?_ (fun cf => (by kernel_rfl))
      refine WpOps.keep 40 (Value.int IntKind.i64 (IntKind.wrap IntKind.i64 (Int.tdiv (IntKind.wrap IntKind.i64 (↑(UInt8.toNat (byteAt b 2)) : Int)) 8))) (by kernel_rfl) (by kernel_rfl) (by kernel_rfl) ?_ (fun cf => (by kernel_rfl))
      refine WpOps.keep 41 (Value.int IntKind.i64 (Int.tmod (IntKind.wrap IntKind.i64 (↑(UInt8.toNat (byteAt b 2)) : Int)) 8)) (by kernel_rfl) (by kernel_rfl) (by kernel_rfl) ?_ (fun cf => (by kernel_rfl))
      refine WpOps.keep 42 (Value.string (ByteArray.extract b 3 (Int.toNat (IntKind.wrap IntKind.i64 ((↑(ByteArray.size b) : Int) - 2))))) (by kernel_rfl) (by kernel_rfl) (by kernel_rfl) ?_ (fun cf => (by kernel_rfl))
      refine WpOps.framed 43 10 [Value.int IntKind.i64 (IntKind.wrap IntKind.i64 (↑(UInt8.toNat (byteAt b 0)) : Int)), Value.int IntKind.i64 (IntKind.wrap IntKind.i64 (↑(UInt8.toNat (byteAt b 1)) : Int)), Value.int IntKind.i64 (IntKind.wrap IntKind.i64 (Int.tdiv (IntKind.wrap IntKind.i64 (↑(UInt8.toNat (byteAt b 2)) : Int)) 8)), Value.int IntKind.i64 (Int.tmod (IntKind.wrap IntKind.i64 (↑(UInt8.toNat (byteAt b 2)) : Int)) 8), Value.string (ByteArray.extract b 3 (Int.toNat (IntKind.wrap IntKind.i64 ((↑(ByteArray.size b) : Int) - 2))))] (by kernel_rfl) (by kernel_rfl) (by kernel_rfl) (by kernel_rfl) (by kernel_rfl) (fun cf => (by kernel_rfl)) ?_
      refine WpFun.of (c) ?_
      refine WpOps.keep 37 (Value.tuple #[Value.string (summed (ByteArray.extract b 0 (ByteArray.size b - 2))), Value.int IntKind.i64 0]) (by kernel_rfl) (by kernel_rfl) (by kernel_rfl) ?_ (fun cf => (by kernel_rfl))
      refine WpOps.keep 44 (Value.string (summed (ByteArray.extract b 0 (ByteArray.size b - 2)))) (by kernel_rfl) (by kernel_rfl) (by kernel_rfl) ?_ (fun cf => (by kernel_rfl))
      refine WpOps.keep 45 (Value.int IntKind.i64 0) (by kernel_rfl) (by kernel_rfl) (by kernel_rfl) ?_ (fun cf => (by kernel_rfl))
      refine WpOps.keep 8 (Value.string (summed (ByteArray.extract b 0 (ByteArray.size b - 2)))) (by kernel_rfl) (by kernel_rfl) (by kernel_rfl) ?_ (fun cf => (by kernel_rfl))
      refine WpOps.keep 9 (Value.int IntKind.i64 0) (by kernel_rfl) (by kernel_rfl) (by kernel_rfl) ?_ (fun cf => (by kernel_rfl))
      refine WpOps.nil ?_
      refine thenK_at ?_
      refine Wp.seq ?_
      refine Wp.text ?_
      refine WpOps.keep 46 (Value.int IntKind.i64 0) (by kernel_rfl) (by kernel_rfl) (by kernel_rfl) ?_ (fun cf => (by kernel_rfl))
      refine WpOps.keep 47 (Value.bool false) (by kernel_rfl) (by kernel_rfl) (by kernel_rfl) ?_ (fun cf => (by kernel_rfl))
      refine WpOps.keep 48 (Value.bool false) (by kernel_rfl) (by kernel_rfl) (by kernel_rfl) ?_ (fun cf => (by kernel_rfl))
      refine WpOps.keep 49 (Value.string (summed (ByteArray.extract b 0 (ByteArray.size b - 2)))) (by kernel_rfl) (by kernel_rfl) (by kernel_rfl) ?_ (fun cf => (by kernel_rfl))
      refine WpOps.keep 50 (Value.string b) (by kernel_rfl) (by kernel_rfl) (by kernel_rfl) ?_ (fun cf => (by kernel_rfl))
      refine WpOps.keep 51 (Value.bool true) (by kernel_rfl) (by kernel_rfl) (by kernel_rfl) ?_ (fun cf => by_fact n ((by kernel_rfl)))
      refine WpOps.keep 52 (Value.bool true) (by kernel_rfl) (by kernel_rfl) (by kernel_rfl) ?_ (fun cf => (by kernel_rfl))
      refine WpOps.nil ?_
      refine thenK_at ?_
      refine Wp.on (by kernel_rfl) ?_
      refine Wp.seq ?_
      refine Wp.text ?_
      refine WpOps.keep 2 (Value.int IntKind.i64 0) (by kernel_rfl) (by kernel_rfl) (by kernel_rfl) ?_ (fun cf => (by kernel_rfl))
      refine WpOps.keep 3 (Value.int IntKind.i64 0) (by kernel_rfl) (by kernel_rfl) (by kernel_rfl) ?_ (fun cf => (by kernel_rfl))
      refine WpOps.keep 4 (Value.int IntKind.i64 0) (by kernel_rfl) (by kernel_rfl) (by kernel_rfl) ?_ (fun cf => (by kernel_rfl))
      refine WpOps.keep 5 (Value.int IntKind.i64 0) (by kernel_rfl) (by kernel_rfl) (by kernel_rfl) ?_ (fun cf => (by kernel_rfl))
      refine WpOps.keep 6 (Value.string (ByteArray.mk #[])) (by kernel_rfl) (by kernel_rfl) (by kernel_rfl) ?_ (fun cf => (by kernel_rfl))
      refine WpOps.keep 7 (Value.int IntKind.i64 4) (by kernel_rfl) (by kernel_rfl) (by kernel_rfl) ?_ (fun cf => (by kernel_rfl))
      refine WpOps.nil ?_
      refine thenK_at ?_
      refine Wp.ret ?_
      refine thenK_ret ?_
      refine endK_retn [Value.int IntKind.i64 0, Value.int IntKind.i64 0, Value.int IntKind.i64 0, Value.int IntKind.i64 0, Value.string (ByteArray.mk #[]), Value.int IntKind.i64 4] (Value.tuple #[Value.int IntKind.i64 0, Value.int IntKind.i64 0, Value.int IntKind.i64 0, Value.int IntKind.i64 0, Value.string (ByteArray.mk #[]), Value.int IntKind.i64 4]) (by kernel_rfl) (by kernel_rfl) ?_
      kernel_rfl
  · rw [if_neg hf] at c
    have e : rdV b = _ := if_neg fun h => hf h.2.2
    rw [e]
    refine Wp.seq ?_
    refine Wp.text ?_
    refine WpOps.keep 2 (Value.int IntKind.i64 0) (by kernel_rfl) (by kernel_rfl) (by kernel_rfl) ?_ (fun cf => (by kernel_rfl))
    refine WpOps.keep 3 (Value.int IntKind.i64 0) (by kernel_rfl) (by kernel_rfl) (by kernel_rfl) ?_ (fun cf => (by kernel_rfl))
    refine WpOps.keep 4 (Value.int IntKind.i64 0) (by kernel_rfl) (by kernel_rfl) (by kernel_rfl) ?_ (fun cf => (by kernel_rfl))
    refine WpOps.keep 5 (Value.int IntKind.i64 0) (by kernel_rfl) (by kernel_rfl) (by kernel_rfl) ?_ (fun cf => (by kernel_rfl))
    refine WpOps.keep 6 (Value.string (ByteArray.mk #[])) (by kernel_rfl) (by kernel_rfl) (by kernel_rfl) ?_ (fun cf => (by kernel_rfl))
    refine WpOps.keep 7 (Value.int IntKind.i64 0) (by kernel_rfl) (by kernel_rfl) (by kernel_rfl) ?_ (fun cf => (by kernel_rfl))
    refine WpOps.nil ?_
    refine thenK_at ?_
    refine Wp.seq ?_
    refine Wp.seq ?_
    refine Wp.text ?_
    refine WpOps.keep 10 (Value.string b) (by kernel_rfl) (by kernel_rfl) (by kernel_rfl) ?_ (fun cf => (by kernel_rfl))
    refine WpOps.keep 11 (Value.int IntKind.i64 (↑(ByteArray.size b) : Int)) (by kernel_rfl) (by kernel_rfl) (by kernel_rfl) ?_ (fun cf => (by kernel_rfl))
    refine WpOps.keep 12 (Value.bool false) (by kernel_rfl) (by kernel_rfl) (by kernel_rfl) ?_ (fun cf => by_fact d1 ((by kernel_rfl)))
    refine WpOps.keep 13 (Value.bool false) (by kernel_rfl) (by kernel_rfl) (by kernel_rfl) ?_ (fun cf => (by kernel_rfl))
    refine WpOps.keep 14 (Value.string b) (by kernel_rfl) (by kernel_rfl) (by kernel_rfl) ?_ (fun cf => (by kernel_rfl))
    refine WpOps.keep 15 (Value.int IntKind.i64 (↑(ByteArray.size b) : Int)) (by kernel_rfl) (by kernel_rfl) (by kernel_rfl) ?_ (fun cf => (by kernel_rfl))
    refine WpOps.keep 16 (Value.bool false) (by kernel_rfl) (by kernel_rfl) (by kernel_rfl) ?_ (fun cf => by_fact d2 ((by kernel_rfl)))
    refine WpOps.keep 17 (Value.bool false) (by kernel_rfl) (by kernel_rfl) (by kernel_rfl) ?_ (fun cf => (by kernel_rfl))
    refine WpOps.nil ?_
    refine thenK_at ?_
    refine Wp.off (by kernel_rfl) ?_
    refine Wp.skip ?_
    refine thenK_at ?_
    refine Wp.seq ?_
    refine Wp.region (by kernel_rfl) ?_
    refine WpOps.keep 18 (Value.string b) (by kernel_rfl) (by kernel_rfl) (by kernel_rfl) ?_ (fun cf => (by kernel_rfl))
    refine WpOps.keep 19 (Value.int IntKind.u8 (↑(UInt8.toNat (byteAt b 0)) : Int)) (by kernel_rfl) (by kernel_rfl) (by kernel_rfl) ?_ (fun cf => o_indexStr (of_decide_eq_true (by kernel_rfl)) v0 (by kernel_rfl) (by kernel_rfl) (by kernel_rfl))
    refine WpOps.keep 20 (Value.int IntKind.i64 (IntKind.wrap IntKind.i64 (↑(UInt8.toNat (byteAt b 0)) : Int))) (by kernel_rfl) (by kernel_rfl) (by kernel_rfl) ?_ (fun cf => (by kernel_rfl))
    refine WpOps.keep 21 (Value.string b) (by kernel_rfl) (by kernel_rfl) (by kernel_rfl) ?_ (fun cf => (by kernel_rfl))
    refine WpOps.keep 22 (Value.int IntKind.u8 (↑(UInt8.toNat (byteAt b 1)) : Int)) (by kernel_rfl) (by kernel_rfl) (by kernel_rfl) ?_ (fun cf => o_indexStr (of_decide_eq_true (by kernel_rfl)) v1 (by kernel_rfl) (by kernel_rfl) (by kernel_rfl))
    refine WpOps.keep 23 (Value.int IntKind.i64 (IntKind.wrap IntKind.i64 (↑(UInt8.toNat (byteAt b 1)) : Int))) (by kernel_rfl) (by kernel_rfl) (by kernel_rfl) ?_ (fun cf => (by kernel_rfl))
    refine WpOps.keep 24 (Value.string b) (by kernel_rfl) (by kernel_rfl) (by kernel_rfl) ?_ (fun cf => (by kernel_rfl))
    refine WpOps.keep 25 (Value.int IntKind.u8 (↑(UInt8.toNat (byteAt b 2)) : Int)) (by kernel_rfl) (by kernel_rfl) (by kernel_rfl) ?_ (fun cf => o_indexStr (of_decide_eq_true (by kernel_rfl)) v2 (by kernel_rfl) (by kernel_rfl) (by kernel_rfl))
    refine WpOps.keep 26 (Value.int IntKind.i64 (IntKind.wrap IntKind.i64 (↑(UInt8.toNat (byteAt b 2)) : Int))) (by kernel_rfl) (by kernel_rfl) (by kernel_rfl) ?_ (fun cf => (by kernel_rfl))
    refine WpOps.keep 27 (Value.int IntKind.i64 (IntKind.wrap IntKind.i64 (Int.tdiv (IntKind.wrap IntKind.i64 (↑(UInt8.toNat (byteAt b 2)) : Int)) 8))) (by kernel_rfl) (by kernel_rfl) (by kernel_rfl) ?_ (fun cf => (by kernel_rfl))
    refine WpOps.keep 28 (Value.string b) (by kernel_rfl) (by kernel_rfl) (by kernel_rfl) ?_ (fun cf => (by kernel_rfl))
    refine WpOps.keep 29 (Value.int IntKind.u8 (↑(UInt8.toNat (byteAt b 2)) : Int)) (by kernel_rfl) (by kernel_rfl) (by kernel_rfl) ?_ (fun cf => o_indexStr (of_decide_eq_true (by kernel_rfl)) v2 (by kernel_rfl) (by kernel_rfl) (by kernel_rfl))
    refine WpOps.keep 30 (Value.int IntKind.i64 (IntKind.wrap IntKind.i64 (↑(UInt8.toNat (byteAt b 2)) : Int))) (by kernel_rfl) (by kernel_rfl) (by kernel_rfl) ?_ (fun cf => (by kernel_rfl))
    refine WpOps.keep 31 (Value.int IntKind.i64 (Int.tmod (IntKind.wrap IntKind.i64 (↑(UInt8.toNat (byteAt b 2)) : Int)) 8)) (by kernel_rfl) (by kernel_rfl) (by kernel_rfl) ?_ (fun cf => (by kernel_rfl))
    refine WpOps.keep 32 (Value.string b) (by kernel_rfl) (by kernel_rfl) (by kernel_rfl) ?_ (fun cf => (by kernel_rfl))
    refine WpOps.keep 33 (Value.string b) (by kernel_rfl) (by kernel_rfl) (by kernel_rfl) ?_ (fun cf => (by kernel_rfl))
    refine WpOps.keep 34 (Value.int IntKind.i64 (↑(ByteArray.size b) : Int)) (by kernel_rfl) (by kernel_rfl) (by kernel_rfl) ?_ (fun cf => (by kernel_rfl))
    refine WpOps.keep 35 (Value.int IntKind.i64 (IntKind.wrap IntKind.i64 ((↑(ByteArray.size b) : Int) - 2))) (by kernel_rfl) (by kernel_rfl) (by kernel_rfl) ?_ (fun cf => (by kernel_rfl))
    refine WpOps.keep 36 (Value.string (ByteArray.extract b 3 (Int.toNat (IntKind.wrap IntKind.i64 ((↑(ByteArray.size b) : Int) - 2))))) (by kernel_rfl) (by kernel_rfl) (by kernel_rfl) ?_ (fun cf => o_cutLH i3 i4 (by kernel_rfl) (by kernel_rfl) (by kernel_rfl) (by kernel_rfl))
    refine WpOps.keep 2 (Value.int IntKind.i64 (IntKind.wrap IntKind.i64 (↑(UInt8.toNat (byteAt b 0)) : Int))) (by kernel_rfl) (by kernel_rfl) (by kernel_rfl) ?_ (fun cf => (by kernel_rfl))
    refine WpOps.keep 3 (Value.int IntKind.i64 (IntKind.wrap IntKind.i64 (↑(UInt8.toNat (byteAt b 1)) : Int))) (by kernel_rfl) (by kernel_rfl) (by kernel_rfl) ?_ (fun cf => (by kernel_rfl))
    refine WpOps.keep 4 (Value.int IntKind.i64 (IntKind.wrap IntKind.i64 (Int.tdiv (IntKind.wrap IntKind.i64 (↑(UInt8.toNat (byteAt b 2)) : Int)) 8))) (by kernel_rfl) (by kernel_rfl) (by kernel_rfl) ?_ (fun cf => (by kernel_rfl))
    refine WpOps.keep 5 (Value.int IntKind.i64 (Int.tmod (IntKind.wrap IntKind.i64 (↑(UInt8.toNat (byteAt b 2)) : Int)) 8)) (by kernel_rfl) (by kernel_rfl) (by kernel_rfl) ?_ (fun cf => (by kernel_rfl))
    refine WpOps.keep 6 (Value.string (ByteArray.extract b 3 (Int.toNat (IntKind.wrap IntKind.i64 ((↑(ByteArray.size b) : Int) - 2))))) (by kernel_rfl) (by kernel_rfl) (by kernel_rfl) ?_ (fun cf => (by kernel_rfl))
    refine WpOps.nil ?_
    refine thenK_at ?_
    refine Wp.seq ?_
    refine Wp.seq ?_
    refine Wp.text ?_
    refine WpOps.keep 38 (Value.int IntKind.i64 (IntKind.wrap IntKind.i64 (↑(UInt8.toNat (byteAt b 0)) : Int))) (by kernel_rfl) (by kernel_rfl) (by kernel_rfl) ?_ (fun cf => (by kernel_rfl))
    refine WpOps.keep 39 (Value.int IntKind.i64 (IntKind.wrap IntKind.i64 (↑(UInt8.toNat (byteAt b 1)) : Int))) (by kernel_rfl) (by kernel_rfl) (by kernel_rfl) ?_ (fun cf => (by kernel_rfl))
    refine WpOps.keep 40 (Value.int IntKind.i64 (IntKind.wrap IntKind.i64 (Int.tdiv (IntKind.wrap IntKind.i64 (↑(UInt8.toNat (byteAt b 2)) : Int)) 8))) (by kernel_rfl) (by kernel_rfl) (by kernel_rfl) ?_ (fun cf => (by kernel_rfl))
    refine WpOps.keep 41 (Value.int IntKind.i64 (Int.tmod (IntKind.wrap IntKind.i64 (↑(UInt8.toNat (byteAt b 2)) : Int)) 8)) (by kernel_rfl) (by kernel_rfl) (by kernel_rfl) ?_ (fun cf => (by kernel_rfl))
    refine WpOps.keep 42 (Value.string (ByteArray.extract b 3 (Int.toNat (IntKind.wrap IntKind.i64 ((↑(ByteArray.size b) : Int) - 2))))) (by kernel_rfl) (by kernel_rfl) (by kernel_rfl) ?_ (fun cf => (by kernel_rfl))
    refine WpOps.framed 43 10 [Value.int IntKind.i64 (IntKind.wrap IntKind.i64 (↑(UInt8.toNat (byteAt b 0)) : Int)), Value.int IntKind.i64 (IntKind.wrap IntKind.i64 (↑(UInt8.toNat (byteAt b 1)) : Int)), Value.int IntKind.i64 (IntKind.wrap IntKind.i64 (Int.tdiv (IntKind.wrap IntKind.i64 (↑(UInt8.toNat (byteAt b 2)) : Int)) 8)), Value.int IntKind.i64 (Int.tmod (IntKind.wrap IntKind.i64 (↑(UInt8.toNat (byteAt b 2)) : Int)) 8), Value.string (ByteArray.extract b 3 (Int.toNat (IntKind.wrap IntKind.i64 ((↑(ByteArray.size b) : Int) - 2))))] (by kernel_rfl) (by kernel_rfl) (by kernel_rfl) (by kernel_rfl) (by kernel_rfl) (fun cf => (by kernel_rfl)) ?_
    refine WpFun.of (c) ?_
    refine WpOps.keep 37 (Value.tuple #[Value.string ByteArray.empty, Value.int IntKind.i64 1]) (by kernel_rfl) (by kernel_rfl) (by kernel_rfl) ?_ (fun cf => (by kernel_rfl))
    refine WpOps.keep 44 (Value.string ByteArray.empty) (by kernel_rfl) (by kernel_rfl) (by kernel_rfl) ?_ (fun cf => (by kernel_rfl))
    refine WpOps.keep 45 (Value.int IntKind.i64 1) (by kernel_rfl) (by kernel_rfl) (by kernel_rfl) ?_ (fun cf => (by kernel_rfl))
    refine WpOps.keep 8 (Value.string ByteArray.empty) (by kernel_rfl) (by kernel_rfl) (by kernel_rfl) ?_ (fun cf => (by kernel_rfl))
    refine WpOps.keep 9 (Value.int IntKind.i64 1) (by kernel_rfl) (by kernel_rfl) (by kernel_rfl) ?_ (fun cf => (by kernel_rfl))
    refine WpOps.nil ?_
    refine thenK_at ?_
    refine Wp.seq ?_
    refine Wp.text ?_
    refine WpOps.keep 46 (Value.int IntKind.i64 1) (by kernel_rfl) (by kernel_rfl) (by kernel_rfl) ?_ (fun cf => (by kernel_rfl))
    refine WpOps.keep 47 (Value.bool true) (by kernel_rfl) (by kernel_rfl) (by kernel_rfl) ?_ (fun cf => (by kernel_rfl))
    refine WpOps.keep 48 (Value.bool true) (by kernel_rfl) (by kernel_rfl) (by kernel_rfl) ?_ (fun cf => (by kernel_rfl))
    refine WpOps.unmet 49 (by kernel_rfl) (by kernel_rfl) (by kernel_rfl) ?_
    refine WpOps.unmet 50 (by kernel_rfl) (by kernel_rfl) (by kernel_rfl) ?_
    refine WpOps.unmet 51 (by kernel_rfl) (by kernel_rfl) (by kernel_rfl) ?_
    refine WpOps.keep 52 (Value.bool true) (by kernel_rfl) (by kernel_rfl) (by kernel_rfl) ?_ (fun cf => (by kernel_rfl))
    refine WpOps.nil ?_
    refine thenK_at ?_
    refine Wp.on (by kernel_rfl) ?_
    refine Wp.seq ?_
    refine Wp.text ?_
    refine WpOps.keep 2 (Value.int IntKind.i64 0) (by kernel_rfl) (by kernel_rfl) (by kernel_rfl) ?_ (fun cf => (by kernel_rfl))
    refine WpOps.keep 3 (Value.int IntKind.i64 0) (by kernel_rfl) (by kernel_rfl) (by kernel_rfl) ?_ (fun cf => (by kernel_rfl))
    refine WpOps.keep 4 (Value.int IntKind.i64 0) (by kernel_rfl) (by kernel_rfl) (by kernel_rfl) ?_ (fun cf => (by kernel_rfl))
    refine WpOps.keep 5 (Value.int IntKind.i64 0) (by kernel_rfl) (by kernel_rfl) (by kernel_rfl) ?_ (fun cf => (by kernel_rfl))
    refine WpOps.keep 6 (Value.string (ByteArray.mk #[])) (by kernel_rfl) (by kernel_rfl) (by kernel_rfl) ?_ (fun cf => (by kernel_rfl))
    refine WpOps.keep 7 (Value.int IntKind.i64 4) (by kernel_rfl) (by kernel_rfl) (by kernel_rfl) ?_ (fun cf => (by kernel_rfl))
    refine WpOps.nil ?_
    refine thenK_at ?_
    refine Wp.ret ?_
    refine thenK_ret ?_
    refine endK_retn [Value.int IntKind.i64 0, Value.int IntKind.i64 0, Value.int IntKind.i64 0, Value.int IntKind.i64 0, Value.string (ByteArray.mk #[]), Value.int IntKind.i64 4] (Value.tuple #[Value.int IntKind.i64 0, Value.int IntKind.i64 0, Value.int IntKind.i64 0, Value.int IntKind.i64 0, Value.string (ByteArray.mk #[]), Value.int IntKind.i64 4]) (by kernel_rfl) (by kernel_rfl) ?_
    kernel_rfl
theorem read13 (b : ByteArray) : Fun E 13 [.string b] (rdV b) := by
  by_cases h : 5 ≤ b.size ∧ b.size ≤ 1005
  · exact read13_ok b h.1 h.2
  · exact read13_bad b h
theorem read14_bad (b : ByteArray) (h : ¬ (5 ≤ b.size ∧ b.size ≤ 1005)) : Fun E 14 [.string b] (rdV b) := by
  refine Fun.of f14 rfl (of_decide_eq_true (by kernel_rfl)) (by unfold rdV; split <;> rfl) ?_
  have hn : rdV b = .tuple #[.int .i64 0, .int .i64 0, .int .i64 0, .int .i64 0, .string ByteArray.empty, .int .i64 4] := if_neg fun hr => h hr.1
  rw [hn]
  refine Wp.seq ?_
  refine Wp.text ?_
  refine WpOps.keep 2 (Value.int IntKind.i64 0) (by kernel_rfl) (by kernel_rfl) (by kernel_rfl) ?_ (fun cf => (by kernel_rfl))
  refine WpOps.keep 3 (Value.int IntKind.i64 0) (by kernel_rfl) (by kernel_rfl) (by kernel_rfl) ?_ (fun cf => (by kernel_rfl))
  refine WpOps.keep 4 (Value.int IntKind.i64 0) (by kernel_rfl) (by kernel_rfl) (by kernel_rfl) ?_ (fun cf => (by kernel_rfl))
  refine WpOps.keep 5 (Value.int IntKind.i64 0) (by kernel_rfl) (by kernel_rfl) (by kernel_rfl) ?_ (fun cf => (by kernel_rfl))
  refine WpOps.keep 6 (Value.string (ByteArray.mk #[])) (by kernel_rfl) (by kernel_rfl) (by kernel_rfl) ?_ (fun cf => (by kernel_rfl))
  refine WpOps.keep 7 (Value.int IntKind.i64 0) (by kernel_rfl) (by kernel_rfl) (by kernel_rfl) ?_ (fun cf => (by kernel_rfl))
  refine WpOps.nil ?_
  refine thenK_at ?_
  refine Wp.seq ?_
  refine Wp.seq ?_
  refine Wp.text ?_
  refine WpOps.keep 14 (Value.string b) (by kernel_rfl) (by kernel_rfl) (by kernel_rfl) ?_ (fun cf => (by kernel_rfl))
  refine WpOps.keep 15 (Value.int IntKind.i64 (↑(ByteArray.size b) : Int)) (by kernel_rfl) (by kernel_rfl) (by kernel_rfl) ?_ (fun cf => (by kernel_rfl))
  refine WpOps.keep 16 (Value.bool (decide ((↑(ByteArray.size b) : Int) < 5))) (by kernel_rfl) (by kernel_rfl) (by kernel_rfl) ?_ (fun cf => (by kernel_rfl))
  refine WpOps.keep 17 (Value.bool (decide ((↑(ByteArray.size b) : Int) < 5))) (by kernel_rfl) (by kernel_rfl) (by kernel_rfl) ?_ (fun cf => (by kernel_rfl))
  refine WpOps.fork 4 (decide ((↑(ByteArray.size b) : Int) < 5)) [18, 19, 20, 21] 21 (true) (decide ((↑(ByteArray.size b) : Int) > 1005)) (by kernel_rfl) (fun g21 => ?_) (fun g21 => ?_) (fun f_21 b21 hb21 => ?_)
  · refine WpOps.unmet 18 (by kernel_rfl) (by kernel_rfl) (wants_tf g21 (by kernel_rfl)) ?_
    refine WpOps.unmet 19 (by kernel_rfl) (by kernel_rfl) (wants_tf g21 (by kernel_rfl)) ?_
    refine WpOps.unmet 20 (by kernel_rfl) (by kernel_rfl) (wants_tf g21 (by kernel_rfl)) ?_
    refine WpOps.keep 21 (Value.bool true) (by kernel_rfl) (by kernel_rfl) (by kernel_rfl) ?_ (fun cf => o_pickT g21 (by kernel_rfl) (by kernel_rfl))
    refine WpOps.nil ?_
    exact ⟨rfl, (.upd rfl (.upd rfl (.upd rfl (.upd rfl .refl)))), (by kernel_rfl)⟩
  · refine WpOps.keep 18 (Value.string b) (by kernel_rfl) (by kernel_rfl) (wants_ff g21 (by kernel_rfl)) ?_ (fun cf => (by kernel_rfl))
    refine WpOps.keep 19 (Value.int IntKind.i64 (↑(ByteArray.size b) : Int)) (by kernel_rfl) (by kernel_rfl) (wants_ff g21 (by kernel_rfl)) ?_ (fun cf => (by kernel_rfl))
    refine WpOps.keep 20 (Value.bool (decide ((↑(ByteArray.size b) : Int) > 1005))) (by kernel_rfl) (by kernel_rfl) (wants_ff g21 (by kernel_rfl)) ?_ (fun cf => (by kernel_rfl))
    refine WpOps.keep 21 (Value.bool (decide ((↑(ByteArray.size b) : Int) > 1005))) (by kernel_rfl) (by kernel_rfl) (by kernel_rfl) ?_ (fun cf => o_pickF g21 (by kernel_rfl) (by kernel_rfl))
    refine WpOps.nil ?_
    exact ⟨rfl, (.upd rfl (.upd rfl (.upd rfl (.upd rfl .refl)))), (by kernel_rfl)⟩
  refine WpOps.nil ?_
  refine thenK_at ?_
  refine Wp.split (b21) (by kernel_rfl) (fun hc => ?_) (fun hc => ?_)
  · refine Wp.seq ?_
    refine Wp.text ?_
    refine WpOps.keep 2 (Value.int IntKind.i64 0) (by kernel_rfl) (by kernel_rfl) (by kernel_rfl) ?_ (fun cf => (by kernel_rfl))
    refine WpOps.keep 3 (Value.int IntKind.i64 0) (by kernel_rfl) (by kernel_rfl) (by kernel_rfl) ?_ (fun cf => (by kernel_rfl))
    refine WpOps.keep 4 (Value.int IntKind.i64 0) (by kernel_rfl) (by kernel_rfl) (by kernel_rfl) ?_ (fun cf => (by kernel_rfl))
    refine WpOps.keep 5 (Value.int IntKind.i64 0) (by kernel_rfl) (by kernel_rfl) (by kernel_rfl) ?_ (fun cf => (by kernel_rfl))
    refine WpOps.keep 6 (Value.string (ByteArray.mk #[])) (by kernel_rfl) (by kernel_rfl) (by kernel_rfl) ?_ (fun cf => (by kernel_rfl))
    refine WpOps.keep 7 (Value.int IntKind.i64 4) (by kernel_rfl) (by kernel_rfl) (by kernel_rfl) ?_ (fun cf => (by kernel_rfl))
    refine WpOps.nil ?_
    refine thenK_at ?_
    refine Wp.ret ?_
    refine thenK_ret ?_
    refine endK_retn [Value.int IntKind.i64 0, Value.int IntKind.i64 0, Value.int IntKind.i64 0, Value.int IntKind.i64 0, Value.string (ByteArray.mk #[]), Value.int IntKind.i64 4] (Value.tuple #[Value.int IntKind.i64 0, Value.int IntKind.i64 0, Value.int IntKind.i64 0, Value.int IntKind.i64 0, Value.string (ByteArray.mk #[]), Value.int IntKind.i64 4]) (by kernel_rfl) (by kernel_rfl) ?_
    kernel_rfl
  · exfalso
    rw [hb21] at hc
    simp only [cond_or, Bool.or_eq_false_iff, decide_eq_false_iff_not] at hc
    omega
section
variable {b : ByteArray} (h5 : 5 ≤ b.size) (hb : b.size ≤ 1005)
include h5 hb
theorem call34 : Fun E 34 [.string (b.extract 0 (IntKind.i64.wrap ((b.size : Int) - 2)).toNat)] (.tuple #[.string (sumS (b.extract 0 (b.size - 2))), .int .i64 0]) := by
  rw [w2 h5 hb]
  exact sum34 _ (by rw [ByteArray.size_extract]; omega)
theorem call33 : Fun E 33 [.int .i64 (IntKind.i64.wrap ((byteAt b 0).toNat : Int)), .int .i64 (IntKind.i64.wrap ((byteAt b 1).toNat : Int)), .int .i64 (IntKind.i64.wrap ((IntKind.i64.wrap ((byteAt b 2).toNat : Int)).tdiv 8)), .int .i64 ((IntKind.i64.wrap ((byteAt b 2).toNat : Int)).tmod 8), .string (b.extract 3 (IntKind.i64.wrap ((b.size : Int) - 2)).toNat)]
    (.bool (decide (Fit (at' b 0) (at' b 1) (at' b 2 / 8) (at' b 2 % 8) (b.size - 5)))) := by
  have c := fits33 (at' b 0) (at' b 1) (at' b 2 / 8) (at' b 2 % 8) (dat b)
  rw [dat_size b h5] at c
  rw [byte_w b 0, byte_w b 1, byte_w b 2, byte_d b, byte_m b, dat_w h5 hb]
  exact c
theorem sum_w : (!((sumS (b.extract 0 (b.size - 2))).toList == (b.extract (IntKind.i64.wrap ((b.size : Int) - 2)).toNat b.size).toList)) = !sumOk b := by
  rw [w2 h5 hb]
  rfl
end
set_option maxHeartbeats 4000000 in
theorem read14_ok (b : ByteArray) (h5 : 5 ≤ b.size) (hb : b.size ≤ 1005) : Fun E 14 [.string b] (rdV b) := by
  refine Fun.of f14 rfl (of_decide_eq_true (by kernel_rfl)) (by unfold rdV; split <;> rfl) ?_
  have d1 : decide ((b.size : Int) < 5) = false := decide_eq_false (by omega)
  have d2 : decide ((b.size : Int) > 1005) = false := decide_eq_false (by omega)
  have v0 := byte_get b 0 (by omega)
  have v1 := byte_get b 1 (by omega)
  have v2 := byte_get b 2 (by omega)
  have i0 : 0 ≤ (0 : Int) ∧ (0 : Int) < b.size := by omega
  have i1 : 0 ≤ (1 : Int) ∧ (1 : Int) < b.size := by omega
  have i2 : 0 ≤ (2 : Int) ∧ (2 : Int) < b.size := by omega
  have i3 : 0 ≤ IntKind.i64.wrap ((b.size : Int) - 2) ∧ IntKind.i64.wrap ((b.size : Int) - 2) ≤ b.size := by have := w2_in h5 hb; omega
  have i4 : 0 ≤ (3 : Int) ∧ (3 : Int) ≤ ((IntKind.i64.wrap ((b.size : Int) - 2)).toNat : Int) := by have := w2_in h5 hb; omega
  have c1 := call34 h5 hb
  have c2 := call33 h5 hb
  refine Wp.seq ?_
  refine Wp.text ?_
  refine WpOps.keep 2 (Value.int IntKind.i64 0) (by kernel_rfl) (by kernel_rfl) (by kernel_rfl) ?_ (fun cf => (by kernel_rfl))
  refine WpOps.keep 3 (Value.int IntKind.i64 0) (by kernel_rfl) (by kernel_rfl) (by kernel_rfl) ?_ (fun cf => (by kernel_rfl))
  refine WpOps.keep 4 (Value.int IntKind.i64 0) (by kernel_rfl) (by kernel_rfl) (by kernel_rfl) ?_ (fun cf => (by kernel_rfl))
  refine WpOps.keep 5 (Value.int IntKind.i64 0) (by kernel_rfl) (by kernel_rfl) (by kernel_rfl) ?_ (fun cf => (by kernel_rfl))
  refine WpOps.keep 6 (Value.string (ByteArray.mk #[])) (by kernel_rfl) (by kernel_rfl) (by kernel_rfl) ?_ (fun cf => (by kernel_rfl))
  refine WpOps.keep 7 (Value.int IntKind.i64 0) (by kernel_rfl) (by kernel_rfl) (by kernel_rfl) ?_ (fun cf => (by kernel_rfl))
  refine WpOps.nil ?_
  refine thenK_at ?_
  refine Wp.seq ?_
  refine Wp.seq ?_
  refine Wp.text ?_
  refine WpOps.keep 14 (Value.string b) (by kernel_rfl) (by kernel_rfl) (by kernel_rfl) ?_ (fun cf => (by kernel_rfl))
  refine WpOps.keep 15 (Value.int IntKind.i64 (↑(ByteArray.size b) : Int)) (by kernel_rfl) (by kernel_rfl) (by kernel_rfl) ?_ (fun cf => (by kernel_rfl))
  refine WpOps.keep 16 (Value.bool false) (by kernel_rfl) (by kernel_rfl) (by kernel_rfl) ?_ (fun cf => by_fact d1 ((by kernel_rfl)))
  refine WpOps.keep 17 (Value.bool false) (by kernel_rfl) (by kernel_rfl) (by kernel_rfl) ?_ (fun cf => (by kernel_rfl))
  refine WpOps.keep 18 (Value.string b) (by kernel_rfl) (by kernel_rfl) (by kernel_rfl) ?_ (fun cf => (by kernel_rfl))
  refine WpOps.keep 19 (Value.int IntKind.i64 (↑(ByteArray.size b) : Int)) (by kernel_rfl) (by kernel_rfl) (by kernel_rfl) ?_ (fun cf => (by kernel_rfl))
  refine WpOps.keep 20 (Value.bool false) (by kernel_rfl) (by kernel_rfl) (by kernel_rfl) ?_ (fun cf => by_fact d2 ((by kernel_rfl)))
  refine WpOps.keep 21 (Value.bool false) (by kernel_rfl) (by kernel_rfl) (by kernel_rfl) ?_ (fun cf => (by kernel_rfl))
  refine WpOps.nil ?_
  refine thenK_at ?_
  refine Wp.off (by kernel_rfl) ?_
  refine Wp.skip ?_
  refine thenK_at ?_
  refine Wp.seq ?_
  refine Wp.text ?_
  refine WpOps.keep 23 (Value.string b) (by kernel_rfl) (by kernel_rfl) (by kernel_rfl) ?_ (fun cf => (by kernel_rfl))
  refine WpOps.keep 24 (Value.string b) (by kernel_rfl) (by kernel_rfl) (by kernel_rfl) ?_ (fun cf => (by kernel_rfl))
  refine WpOps.keep 25 (Value.int IntKind.i64 (↑(ByteArray.size b) : Int)) (by kernel_rfl) (by kernel_rfl) (by kernel_rfl) ?_ (fun cf => (by kernel_rfl))
  refine WpOps.keep 26 (Value.int IntKind.i64 (IntKind.wrap IntKind.i64 ((↑(ByteArray.size b) : Int) - 2))) (by kernel_rfl) (by kernel_rfl) (by kernel_rfl) ?_ (fun cf => (by kernel_rfl))
  refine WpOps.keep 27 (Value.string (ByteArray.extract b 0 (Int.toNat (IntKind.wrap IntKind.i64 ((↑(ByteArray.size b) : Int) - 2))))) (by kernel_rfl) (by kernel_rfl) (by kernel_rfl) ?_ (fun cf => o_cut_hi i3 (by kernel_rfl) (by kernel_rfl) (by kernel_rfl))
  refine WpOps.framed 28 34 [Value.string (ByteArray.extract b 0 (Int.toNat (IntKind.wrap IntKind.i64 ((↑(ByteArray.size b) : Int) - 2))))] (by kernel_rfl) (by kernel_rfl) (by kernel_rfl) (by kernel_rfl) (by kernel_rfl) (fun cf => (by kernel_rfl)) ?_
  refine WpFun.of (c1) ?_
  refine WpOps.keep 22 (Value.tuple #[Value.string (sumS (ByteArray.extract b 0 (ByteArray.size b - 2))), Value.int IntKind.i64 0]) (by kernel_rfl) (by kernel_rfl) (by kernel_rfl) ?_ (fun cf => (by kernel_rfl))
  refine WpOps.keep 29 (Value.string (sumS (ByteArray.extract b 0 (ByteArray.size b - 2)))) (by kernel_rfl) (by kernel_rfl) (by kernel_rfl) ?_ (fun cf => (by kernel_rfl))
  refine WpOps.keep 30 (Value.int IntKind.i64 0) (by kernel_rfl) (by kernel_rfl) (by kernel_rfl) ?_ (fun cf => (by kernel_rfl))
  refine WpOps.keep 8 (Value.string (sumS (ByteArray.extract b 0 (ByteArray.size b - 2)))) (by kernel_rfl) (by kernel_rfl) (by kernel_rfl) ?_ (fun cf => (by kernel_rfl))
  refine WpOps.keep 9 (Value.int IntKind.i64 0) (by kernel_rfl) (by kernel_rfl) (by kernel_rfl) ?_ (fun cf => (by kernel_rfl))
  refine WpOps.nil ?_
  refine thenK_at ?_
  refine Wp.seq ?_
  refine Wp.region (by kernel_rfl) ?_
  refine WpOps.keep 31 (Value.string b) (by kernel_rfl) (by kernel_rfl) (by kernel_rfl) ?_ (fun cf => (by kernel_rfl))
  refine WpOps.keep 32 (Value.int IntKind.u8 (↑(UInt8.toNat (byteAt b 0)) : Int)) (by kernel_rfl) (by kernel_rfl) (by kernel_rfl) ?_ (fun cf => o_indexStr (of_decide_eq_true (by kernel_rfl)) v0 (by kernel_rfl) (by kernel_rfl) (by kernel_rfl))
  refine WpOps.keep 33 (Value.int IntKind.i64 (IntKind.wrap IntKind.i64 (↑(UInt8.toNat (byteAt b 0)) : Int))) (by kernel_rfl) (by kernel_rfl) (by kernel_rfl) ?_ (fun cf => (by kernel_rfl))
  refine WpOps.keep 34 (Value.string b) (by kernel_rfl) (by kernel_rfl) (by kernel_rfl) ?_ (fun cf => (by kernel_rfl))
  refine WpOps.keep 35 (Value.int IntKind.u8 (↑(UInt8.toNat (byteAt b 1)) : Int)) (by kernel_rfl) (by kernel_rfl) (by kernel_rfl) ?_ (fun cf => o_indexStr (of_decide_eq_true (by kernel_rfl)) v1 (by kernel_rfl) (by kernel_rfl) (by kernel_rfl))
  refine WpOps.keep 36 (Value.int IntKind.i64 (IntKind.wrap IntKind.i64 (↑(UInt8.toNat (byteAt b 1)) : Int))) (by kernel_rfl) (by kernel_rfl) (by kernel_rfl) ?_ (fun cf => (by kernel_rfl))
  refine WpOps.keep 37 (Value.string b) (by kernel_rfl) (by kernel_rfl) (by kernel_rfl) ?_ (fun cf => (by kernel_rfl))
  refine WpOps.keep 38 (Value.int IntKind.u8 (↑(UInt8.toNat (byteAt b 2)) : Int)) (by kernel_rfl) (by kernel_rfl) (by kernel_rfl) ?_ (fun cf => o_indexStr (of_decide_eq_true (by kernel_rfl)) v2 (by kernel_rfl) (by kernel_rfl) (by kernel_rfl))
  refine WpOps.keep 39 (Value.int IntKind.i64 (IntKind.wrap IntKind.i64 (↑(UInt8.toNat (byteAt b 2)) : Int))) (by kernel_rfl) (by kernel_rfl) (by kernel_rfl) ?_ (fun cf => (by kernel_rfl))
  refine WpOps.keep 40 (Value.string b) (by kernel_rfl) (by kernel_rfl) (by kernel_rfl) ?_ (fun cf => (by kernel_rfl))
  refine WpOps.keep 41 (Value.string b) (by kernel_rfl) (by kernel_rfl) (by kernel_rfl) ?_ (fun cf => (by kernel_rfl))
  refine WpOps.keep 42 (Value.int IntKind.i64 (↑(ByteArray.size b) : Int)) (by kernel_rfl) (by kernel_rfl) (by kernel_rfl) ?_ (fun cf => (by kernel_rfl))
  refine WpOps.keep 43 (Value.int IntKind.i64 (IntKind.wrap IntKind.i64 ((↑(ByteArray.size b) : Int) - 2))) (by kernel_rfl) (by kernel_rfl) (by kernel_rfl) ?_ (fun cf => (by kernel_rfl))
  refine WpOps.keep 44 (Value.string (ByteArray.extract b 3 (Int.toNat (IntKind.wrap IntKind.i64 ((↑(ByteArray.size b) : Int) - 2))))) (by kernel_rfl) (by kernel_rfl) (by kernel_rfl) ?_ (fun cf => o_cutLH i3 i4 (by kernel_rfl) (by kernel_rfl) (by kernel_rfl) (by kernel_rfl))
  refine WpOps.keep 10 (Value.int IntKind.i64 (IntKind.wrap IntKind.i64 (↑(UInt8.toNat (byteAt b 0)) : Int))) (by kernel_rfl) (by kernel_rfl) (by kernel_rfl) ?_ (fun cf => (by kernel_rfl))
  refine WpOps.keep 11 (Value.int IntKind.i64 (IntKind.wrap IntKind.i64 (↑(UInt8.toNat (byteAt b 1)) : Int))) (by kernel_rfl) (by kernel_rfl) (by kernel_rfl) ?_ (fun cf => (by kernel_rfl))
  refine WpOps.keep 12 (Value.int IntKind.i64 (IntKind.wrap IntKind.i64 (↑(UInt8.toNat (byteAt b 2)) : Int))) (by kernel_rfl) (by kernel_rfl) (by kernel_rfl) ?_ (fun cf => (by kernel_rfl))
  refine WpOps.keep 13 (Value.string (ByteArray.extract b 3 (Int.toNat (IntKind.wrap IntKind.i64 ((↑(ByteArray.size b) : Int) - 2))))) (by kernel_rfl) (by kernel_rfl) (by kernel_rfl) ?_ (fun cf => (by kernel_rfl))
  refine WpOps.nil ?_
  refine thenK_at ?_
  refine Wp.seq ?_
  refine Wp.seq ?_
  refine Wp.text ?_
  refine WpOps.keep 45 (Value.string (sumS (ByteArray.extract b 0 (ByteArray.size b - 2)))) (by kernel_rfl) (by kernel_rfl) (by kernel_rfl) ?_ (fun cf => (by kernel_rfl))
  refine WpOps.keep 46 (Value.string b) (by kernel_rfl) (by kernel_rfl) (by kernel_rfl) ?_ (fun cf => (by kernel_rfl))
  refine WpOps.keep 47 (Value.string b) (by kernel_rfl) (by kernel_rfl) (by kernel_rfl) ?_ (fun cf => (by kernel_rfl))
  refine WpOps.keep 48 (Value.int IntKind.i64 (↑(ByteArray.size b) : Int)) (by kernel_rfl) (by kernel_rfl) (by kernel_rfl) ?_ (fun cf => (by kernel_rfl))
  refine WpOps.keep 49 (Value.int IntKind.i64 (IntKind.wrap IntKind.i64 ((↑(ByteArray.size b) : Int) - 2))) (by kernel_rfl) (by kernel_rfl) (by kernel_rfl) ?_ (fun cf => (by kernel_rfl))
  refine WpOps.keep 50 (Value.string (ByteArray.extract b (Int.toNat (IntKind.wrap IntKind.i64 ((↑(ByteArray.size b) : Int) - 2))) (ByteArray.size b))) (by kernel_rfl) (by kernel_rfl) (by kernel_rfl) ?_ (fun cf => o_cut_lo i3 (by kernel_rfl) (by kernel_rfl) (by kernel_rfl))
  refine WpOps.keep 51 (Value.bool !ByteArray.toList (sumS (ByteArray.extract b 0 (ByteArray.size b - 2))) == ByteArray.toList (ByteArray.extract b (Int.toNat (IntKind.wrap IntKind.i64 ((↑(ByteArray.size b) : Int) - 2))) (ByteArray.size b))) (by kernel_rfl) (by kernel_rfl) (by kernel_rfl) ?_ (fun cf => (by kernel_rfl))
  refine WpOps.keep 52 (Value.bool !ByteArray.toList (sumS (ByteArray.extract b 0 (ByteArray.size b - 2))) == ByteArray.toList (ByteArray.extract b (Int.toNat (IntKind.wrap IntKind.i64 ((↑(ByteArray.size b) : Int) - 2))) (ByteArray.size b))) (by kernel_rfl) (by kernel_rfl) (by kernel_rfl) ?_ (fun cf => (by kernel_rfl))
  refine WpOps.fork 3 (!ByteArray.toList (sumS (ByteArray.extract b 0 (ByteArray.size b - 2))) == ByteArray.toList (ByteArray.extract b (Int.toNat (IntKind.wrap IntKind.i64 ((↑(ByteArray.size b) : Int) - 2))) (ByteArray.size b))) [53, 54, 55] 55 (true) (decide (IntKind.wrap IntKind.i64 (↑(UInt8.toNat (byteAt b 2)) : Int) > 63)) (by kernel_rfl) (fun g55 => ?_) (fun g55 => ?_) (fun f_55 b55 hb55 => ?_)
  · refine WpOps.unmet 53 (by kernel_rfl) (by kernel_rfl) (wants_tf g55 (by kernel_rfl)) ?_
    refine WpOps.unmet 54 (by kernel_rfl) (by kernel_rfl) (wants_tf g55 (by kernel_rfl)) ?_
    refine WpOps.keep 55 (Value.bool true) (by kernel_rfl) (by kernel_rfl) (by kernel_rfl) ?_ (fun cf => o_pickT g55 (by kernel_rfl) (by kernel_rfl))
    refine WpOps.nil ?_
    exact ⟨rfl, (.upd rfl (.upd rfl (.upd rfl .refl))), (by kernel_rfl)⟩
  · refine WpOps.keep 53 (Value.int IntKind.i64 (IntKind.wrap IntKind.i64 (↑(UInt8.toNat (byteAt b 2)) : Int))) (by kernel_rfl) (by kernel_rfl) (wants_ff g55 (by kernel_rfl)) ?_ (fun cf => (by kernel_rfl))
    refine WpOps.keep 54 (Value.bool (decide (IntKind.wrap IntKind.i64 (↑(UInt8.toNat (byteAt b 2)) : Int) > 63))) (by kernel_rfl) (by kernel_rfl) (wants_ff g55 (by kernel_rfl)) ?_ (fun cf => (by kernel_rfl))
    refine WpOps.keep 55 (Value.bool (decide (IntKind.wrap IntKind.i64 (↑(UInt8.toNat (byteAt b 2)) : Int) > 63))) (by kernel_rfl) (by kernel_rfl) (by kernel_rfl) ?_ (fun cf => o_pickF g55 (by kernel_rfl) (by kernel_rfl))
    refine WpOps.nil ?_
    exact ⟨rfl, (.upd rfl (.upd rfl (.upd rfl .refl))), (by kernel_rfl)⟩
  refine WpOps.keep 56 (Value.bool b55) (by kernel_rfl) (by kernel_rfl) (by kernel_rfl) ?_ (fun cf => (by kernel_rfl))
  refine WpOps.fork 10 (b55) [57, 58, 59, 60, 61, 62, 63, 64, 65, 66] 66 (true) (!decide (Fit (at' b 0) (at' b 1) (at' b 2 / 8) (at' b 2 % 8) (ByteArray.size b - 5))) (by kernel_rfl) (fun g66 => ?_) (fun g66 => ?_) (fun f_66 b66 hb66 => ?_)
  · refine WpOps.unmet 57 (by kernel_rfl) (by kernel_rfl) (wants_tf g66 (by kernel_rfl)) ?_
    refine WpOps.unmet 58 (by kernel_rfl) (by kernel_rfl) (wants_tf g66 (by kernel_rfl)) ?_
    refine WpOps.unmet 59 (by kernel_rfl) (by kernel_rfl) (wants_tf g66 (by kernel_rfl)) ?_
    refine WpOps.unmet 60 (by kernel_rfl) (by kernel_rfl) (wants_tf g66 (by kernel_rfl)) ?_
    refine WpOps.unmet 61 (by kernel_rfl) (by kernel_rfl) (wants_tf g66 (by kernel_rfl)) ?_
    refine WpOps.unmet 62 (by kernel_rfl) (by kernel_rfl) (wants_tf g66 (by kernel_rfl)) ?_
    refine WpOps.unmet 63 (by kernel_rfl) (by kernel_rfl) (wants_tf g66 (by kernel_rfl)) ?_
    refine WpOps.unmet 64 (by kernel_rfl) (by kernel_rfl) (wants_tf g66 (by kernel_rfl)) ?_
    refine WpOps.unmet 65 (by kernel_rfl) (by kernel_rfl) (wants_tf g66 (by kernel_rfl)) ?_
    refine WpOps.keep 66 (Value.bool true) (by kernel_rfl) (by kernel_rfl) (by kernel_rfl) ?_ (fun cf => o_pickT g66 (by kernel_rfl) (by kernel_rfl))
    refine WpOps.nil ?_
    exact ⟨rfl, (.upd rfl (.upd rfl (.upd rfl (.upd rfl (.upd rfl (.upd rfl (.upd rfl (.upd rfl (.upd rfl (.upd rfl .refl)))))))))), (by kernel_rfl)⟩
  · refine WpOps.keep 57 (Value.int IntKind.i64 (IntKind.wrap IntKind.i64 (↑(UInt8.toNat (byteAt b 0)) : Int))) (by kernel_rfl) (by kernel_rfl) (wants_ff g66 (by kernel_rfl)) ?_ (fun cf => (by kernel_rfl))
    refine WpOps.keep 58 (Value.int IntKind.i64 (IntKind.wrap IntKind.i64 (↑(UInt8.toNat (byteAt b 1)) : Int))) (by kernel_rfl) (by kernel_rfl) (wants_ff g66 (by kernel_rfl)) ?_ (fun cf => (by kernel_rfl))
    refine WpOps.keep 59 (Value.int IntKind.i64 (IntKind.wrap IntKind.i64 (↑(UInt8.toNat (byteAt b 2)) : Int))) (by kernel_rfl) (by kernel_rfl) (wants_ff g66 (by kernel_rfl)) ?_ (fun cf => (by kernel_rfl))
    refine WpOps.keep 60 (Value.int IntKind.i64 (IntKind.wrap IntKind.i64 (Int.tdiv (IntKind.wrap IntKind.i64 (↑(UInt8.toNat (byteAt b 2)) : Int)) 8))) (by kernel_rfl) (by kernel_rfl) (wants_ff g66 (by kernel_rfl)) ?_ (fun cf => (by kernel_rfl))
    refine WpOps.keep 61 (Value.int IntKind.i64 (IntKind.wrap IntKind.i64 (↑(UInt8.toNat (byteAt b 2)) : Int))) (by kernel_rfl) (by kernel_rfl) (wants_ff g66 (by kernel_rfl)) ?_ (fun cf => (by kernel_rfl))
    refine WpOps.keep 62 (Value.int IntKind.i64 (Int.tmod (IntKind.wrap IntKind.i64 (↑(UInt8.toNat (byteAt b 2)) : Int)) 8)) (by kernel_rfl) (by kernel_rfl) (wants_ff g66 (by kernel_rfl)) ?_ (fun cf => (by kernel_rfl))
    refine WpOps.keep 63 (Value.string (ByteArray.extract b 3 (Int.toNat (IntKind.wrap IntKind.i64 ((↑(ByteArray.size b) : Int) - 2))))) (by kernel_rfl) (by kernel_rfl) (wants_ff g66 (by kernel_rfl)) ?_ (fun cf => (by kernel_rfl))
    refine WpOps.framed 64 33 [Value.int IntKind.i64 (IntKind.wrap IntKind.i64 (↑(UInt8.toNat (byteAt b 0)) : Int)), Value.int IntKind.i64 (IntKind.wrap IntKind.i64 (↑(UInt8.toNat (byteAt b 1)) : Int)), Value.int IntKind.i64 (IntKind.wrap IntKind.i64 (Int.tdiv (IntKind.wrap IntKind.i64 (↑(UInt8.toNat (byteAt b 2)) : Int)) 8)), Value.int IntKind.i64 (Int.tmod (IntKind.wrap IntKind.i64 (↑(UInt8.toNat (byteAt b 2)) : Int)) 8), Value.string (ByteArray.extract b 3 (Int.toNat (IntKind.wrap IntKind.i64 ((↑(ByteArray.size b) : Int) - 2))))] (by kernel_rfl) (by kernel_rfl) (wants_ff g66 (by kernel_rfl)) (by kernel_rfl) (by kernel_rfl) (fun cf => (by kernel_rfl)) ?_
    refine WpFun.of (c2) ?_
    refine WpOps.keep 65 (Value.bool !decide (Fit (at' b 0) (at' b 1) (at' b 2 / 8) (at' b 2 % 8) (ByteArray.size b - 5))) (by kernel_rfl) (by kernel_rfl) (wants_ff g66 (by kernel_rfl)) ?_ (fun cf => (by kernel_rfl))
    refine WpOps.keep 66 (Value.bool !decide (Fit (at' b 0) (at' b 1) (at' b 2 / 8) (at' b 2 % 8) (ByteArray.size b - 5))) (by kernel_rfl) (by kernel_rfl) (by kernel_rfl) ?_ (fun cf => o_pickF g66 (by kernel_rfl) (by kernel_rfl))
    refine WpOps.nil ?_
    exact ⟨rfl, (.upd rfl (.upd rfl (.upd rfl (.upd rfl (.upd rfl (.upd rfl (.upd rfl (.upd rfl (.upd rfl (.upd rfl .refl)))))))))), (by kernel_rfl)⟩
  refine WpOps.nil ?_
  refine thenK_at ?_
  have he : b66 = !decide (RdOk b) := by
    have hi : (decide (RdOk b)) = (sumOk b && decide (Fit (at' b 0) (at' b 1) (at' b 2 / 8) (at' b 2 % 8) (b.size - 5))) := by
      rw [Bool.eq_iff_iff, Bool.and_eq_true, decide_eq_true_eq, decide_eq_true_eq]
      exact ⟨fun h => h.2, fun h => ⟨⟨h5, hb⟩, h⟩⟩
    rw [hb66, hb55, sum_w h5 hb, byte_w b 2, hi]
    by_cases hf : Fit (at' b 0) (at' b 1) (at' b 2 / 8) (at' b 2 % 8) (b.size - 5)
    · have h3 : at' b 2 / 8 ≤ 7 := hf.2.2.1.2
      rw [decide_eq_true hf, decide_eq_false (show ¬ (at' b 2 > 63) by omega)]
      cases sumOk b <;> rfl
    · rw [decide_eq_false hf, Bool.and_false, cond_or]
      cases (bif !sumOk b then true else decide (at' b 2 > 63)) <;> rfl
  refine Wp.split (b66) (by kernel_rfl) (fun hc => ?_) (fun hc => ?_)
  · rw [hc] at he
    have e : rdV b = _ := if_neg fun h => by rw [decide_eq_true h] at he; cases he
    rw [e]
    refine Wp.seq ?_
    refine Wp.text ?_
    refine WpOps.keep 2 (Value.int IntKind.i64 0) (by kernel_rfl) (by kernel_rfl) (by kernel_rfl) ?_ (fun cf => (by kernel_rfl))
    refine WpOps.keep 3 (Value.int IntKind.i64 0) (by kernel_rfl) (by kernel_rfl) (by kernel_rfl) ?_ (fun cf => (by kernel_rfl))
    refine WpOps.keep 4 (Value.int IntKind.i64 0) (by kernel_rfl) (by kernel_rfl) (by kernel_rfl) ?_ (fun cf => (by kernel_rfl))
    refine WpOps.keep 5 (Value.int IntKind.i64 0) (by kernel_rfl) (by kernel_rfl) (by kernel_rfl) ?_ (fun cf => (by kernel_rfl))
    refine WpOps.keep 6 (Value.string (ByteArray.mk #[])) (by kernel_rfl) (by kernel_rfl) (by kernel_rfl) ?_ (fun cf => (by kernel_rfl))
    refine WpOps.keep 7 (Value.int IntKind.i64 4) (by kernel_rfl) (by kernel_rfl) (by kernel_rfl) ?_ (fun cf => (by kernel_rfl))
    refine WpOps.nil ?_
    refine thenK_at ?_
    refine Wp.ret ?_
    refine thenK_ret ?_
    refine endK_retn [Value.int IntKind.i64 0, Value.int IntKind.i64 0, Value.int IntKind.i64 0, Value.int IntKind.i64 0, Value.string (ByteArray.mk #[]), Value.int IntKind.i64 4] (Value.tuple #[Value.int IntKind.i64 0, Value.int IntKind.i64 0, Value.int IntKind.i64 0, Value.int IntKind.i64 0, Value.string (ByteArray.mk #[]), Value.int IntKind.i64 4]) (by kernel_rfl) (by kernel_rfl) ?_
    kernel_rfl
  · rw [hc] at he
    have hr : RdOk b := of_decide_eq_true (by simpa using he.symm)
    have e : rdV b = _ := if_pos hr
    rw [e]
    refine Wp.skip ?_
    refine thenK_at ?_
    refine Wp.seq ?_
    refine Wp.text ?_
    refine WpOps.keep 67 (Value.int IntKind.i64 (IntKind.wrap IntKind.i64 (↑(UInt8.toNat (byteAt b 0)) : Int))) (by kernel_rfl) (by kernel_rfl) (by kernel_rfl) ?_ (fun cf => (by kernel_rfl))
    refine WpOps.keep 68 (Value.int IntKind.i64 (IntKind.wrap IntKind.i64 (↑(UInt8.toNat (byteAt b 1)) : Int))) (by kernel_rfl) (by kernel_rfl) (by kernel_rfl) ?_ (fun cf => (by kernel_rfl))
    refine WpOps.keep 69 (Value.int IntKind.i64 (IntKind.wrap IntKind.i64 (↑(UInt8.toNat (byteAt b 2)) : Int))) (by kernel_rfl) (by kernel_rfl) (by kernel_rfl) ?_ (fun cf => (by kernel_rfl))
    refine WpOps.keep 70 (Value.int IntKind.i64 (IntKind.wrap IntKind.i64 (Int.tdiv (IntKind.wrap IntKind.i64 (↑(UInt8.toNat (byteAt b 2)) : Int)) 8))) (by kernel_rfl) (by kernel_rfl) (by kernel_rfl) ?_ (fun cf => (by kernel_rfl))
    refine WpOps.keep 71 (Value.int IntKind.i64 (IntKind.wrap IntKind.i64 (↑(UInt8.toNat (byteAt b 2)) : Int))) (by kernel_rfl) (by kernel_rfl) (by kernel_rfl) ?_ (fun cf => (by kernel_rfl))
    refine WpOps.keep 72 (Value.int IntKind.i64 (Int.tmod (IntKind.wrap IntKind.i64 (↑(UInt8.toNat (byteAt b 2)) : Int)) 8)) (by kernel_rfl) (by kernel_rfl) (by kernel_rfl) ?_ (fun cf => (by kernel_rfl))
    refine WpOps.keep 73 (Value.string (ByteArray.extract b 3 (Int.toNat (IntKind.wrap IntKind.i64 ((↑(ByteArray.size b) : Int) - 2))))) (by kernel_rfl) (by kernel_rfl) (by kernel_rfl) ?_ (fun cf => (by kernel_rfl))
    refine WpOps.keep 2 (Value.int IntKind.i64 (IntKind.wrap IntKind.i64 (↑(UInt8.toNat (byteAt b 0)) : Int))) (by kernel_rfl) (by kernel_rfl) (by kernel_rfl) ?_ (fun cf => (by kernel_rfl))
    refine WpOps.keep 3 (Value.int IntKind.i64 (IntKind.wrap IntKind.i64 (↑(UInt8.toNat (byteAt b 1)) : Int))) (by kernel_rfl) (by kernel_rfl) (by kernel_rfl) ?_ (fun cf => (by kernel_rfl))
    refine WpOps.keep 4 (Value.int IntKind.i64 (IntKind.wrap IntKind.i64 (Int.tdiv (IntKind.wrap IntKind.i64 (↑(UInt8.toNat (byteAt b 2)) : Int)) 8))) (by kernel_rfl) (by kernel_rfl) (by kernel_rfl) ?_ (fun cf => (by kernel_rfl))
    refine WpOps.keep 5 (Value.int IntKind.i64 (Int.tmod (IntKind.wrap IntKind.i64 (↑(UInt8.toNat (byteAt b 2)) : Int)) 8)) (by kernel_rfl) (by kernel_rfl) (by kernel_rfl) ?_ (fun cf => (by kernel_rfl))
    refine WpOps.keep 6 (Value.string (ByteArray.extract b 3 (Int.toNat (IntKind.wrap IntKind.i64 ((↑(ByteArray.size b) : Int) - 2))))) (by kernel_rfl) (by kernel_rfl) (by kernel_rfl) ?_ (fun cf => (by kernel_rfl))
    refine WpOps.keep 7 (Value.int IntKind.i64 0) (by kernel_rfl) (by kernel_rfl) (by kernel_rfl) ?_ (fun cf => (by kernel_rfl))
    refine WpOps.nil ?_
    refine thenK_at ?_
    refine Wp.ret ?_
    refine endK_retn [Value.int IntKind.i64 (IntKind.wrap IntKind.i64 (↑(UInt8.toNat (byteAt b 0)) : Int)), Value.int IntKind.i64 (IntKind.wrap IntKind.i64 (↑(UInt8.toNat (byteAt b 1)) : Int)), Value.int IntKind.i64 (IntKind.wrap IntKind.i64 (Int.tdiv (IntKind.wrap IntKind.i64 (↑(UInt8.toNat (byteAt b 2)) : Int)) 8)), Value.int IntKind.i64 (Int.tmod (IntKind.wrap IntKind.i64 (↑(UInt8.toNat (byteAt b 2)) : Int)) 8), Value.string (ByteArray.extract b 3 (Int.toNat (IntKind.wrap IntKind.i64 ((↑(ByteArray.size b) : Int) - 2)))), Value.int IntKind.i64 0] (Value.tuple #[Value.int IntKind.i64 (IntKind.wrap IntKind.i64 (↑(UInt8.toNat (byteAt b 0)) : Int)), Value.int IntKind.i64 (IntKind.wrap IntKind.i64 (↑(UInt8.toNat (byteAt b 1)) : Int)), Value.int IntKind.i64 (IntKind.wrap IntKind.i64 (Int.tdiv (IntKind.wrap IntKind.i64 (↑(UInt8.toNat (byteAt b 2)) : Int)) 8)), Value.int IntKind.i64 (Int.tmod (IntKind.wrap IntKind.i64 (↑(UInt8.toNat (byteAt b 2)) : Int)) 8), Value.string (ByteArray.extract b 3 (Int.toNat (IntKind.wrap IntKind.i64 ((↑(ByteArray.size b) : Int) - 2)))), Value.int IntKind.i64 0]) (by kernel_rfl) (by kernel_rfl) ?_
    rw [byte_w b 0, byte_w b 1, byte_w b 2, byte_d b, byte_m b, dat_w h5 hb]
    rfl
theorem read14 (b : ByteArray) : Fun E 14 [.string b] (rdV b) := by
  by_cases h : 5 ≤ b.size ∧ b.size ≤ 1005
  · exact read14_ok b h.1 h.2
  · exact read14_bad b h
end Go.Proofs.Ytgefohjickhldaa.D
