/- The law BitsBack. -/
import Derived.Test.YthhlfddpacmhfaaDoorFwLem
import Derived.Test.YthhlfddpacmhfaaDoorD01g
import Derived.Test.YthhlfddpacmhfaaDoorD01d
namespace Go.Proofs.YthhlfddpacmhfaaDoor.D
open Go.Fw Go.RowKit

theorem byteAt_left (a b : ByteArray) (i : Nat) (h : i < a.size) : byteAt (a ++ b) i = byteAt a i := by
  unfold byteAt
  rw [ByteArray.data_append, Array.toList_append, List.getD_eq_getElem?_getD, List.getD_eq_getElem?_getD, List.getElem?_append_left (by rw [Array.length_toList]; exact h)]
theorem byteAt_right (a b : ByteArray) (i : Nat) : byteAt (a ++ b) (a.size + i) = byteAt b i := by
  unfold byteAt
  rw [ByteArray.data_append, Array.toList_append, List.getD_eq_getElem?_getD, List.getD_eq_getElem?_getD, List.getElem?_append_right (by rw [Array.length_toList]; exact Nat.le_add_right _ _), Array.length_toList, show a.size + i - a.data.size = i from Nat.add_sub_cancel_left ..]
theorem top_iff (s : ByteArray) (p m : Nat) (h : 1 ≤ m) : 2 ^ (m - 1) ≤ numN s p m ↔ byteAt s p = 49 := by
  have hh := numN_head s (m - 1) p
  rw [show m - 1 + 1 = m by omega] at hh
  have hl := numN_lt s (p + 1) (m - 1)
  rw [hh]
  unfold bitN
  split
  · rename_i h
    exact ⟨fun _ => h, fun _ => by omega⟩
  · rename_i h
    exact ⟨fun h2 => by omega, fun h2 => absurd h2 h⟩
set_option linter.unusedSectionVars false
section
variable {fq : ByteArray} {N m : Nat} (hv : VP fq) (hf : fq.size ≤ 1000) (h0 : 1 ≤ m) (h1 : m ≤ 60)
include hv hf h0 h1
theorem cat_size : (fq ++ wrS N m).size = fq.size + m := by rw [ByteArray.size_append]; unfold wrS; rw [mkB_size]
theorem cat_at (i : Nat) (hi : i < m) : byteAt (fq ++ wrS N m) (fq.size + i) = wB N m i := by
  rw [byteAt_right]
  exact mkB_at _ _ _ hi
theorem cat_VP : VP (fq ++ wrS N m) := by
  have hz := cat_size (N := N) hv hf h0 h1
  refine ⟨by omega, fun i hi => ?_⟩
  by_cases h : i < fq.size
  · rw [byteAt_left _ _ _ h]
    exact hv.2 i h
  · obtain ⟨k, rfl⟩ : ∃ k, i = fq.size + k := ⟨i - fq.size, by omega⟩
    rw [cat_at hv hf h0 h1 k (by omega)]
    unfold wB
    split
    · exact .inr rfl
    · exact .inl rfl
theorem cat_num : numN (fq ++ wrS N m) fq.size m = N % 2 ^ m := by
  rw [numN_wr (fq ++ wrS N m) N m fq.size m (Nat.le_refl _) fun i hi => cat_at hv hf h0 h1 i hi, Nat.sub_self, Nat.pow_zero, Nat.div_one]
theorem cat_ins (l : Int) (hl : l ≤ 1) : Ins (fq ++ wrS N m) fq.size m l ∧ Fit (fq ++ wrS N m) fq.size m := by
  have hz := cat_size (N := N) hv hf h0 h1
  exact ⟨⟨cat_VP hv hf h0 h1, by omega, by omega, by omega, by omega⟩, by unfold Fit; omega⟩
theorem cat_get (hN : N < 2 ^ m) : Fun E 7 [.string (fq ++ wrS N m), .int .i64 fq.size, .int .i64 m] (.tuple #[.int .i64 N, .int .i64 0]) := by
  have hz := cat_size (N := N) hv hf h0 h1
  have c := get7 (fq ++ wrS N m) fq.size m (by omega)
  have hi := cat_ins (N := N) hv hf h0 h1 0 (by decide)
  have e1 : cutN (fq ++ wrS N m) fq.size m 0 = N := by
    unfold cutN getN
    rw [if_pos hi]
    show numN (fq ++ wrS N m) fq.size m = N
    rw [cat_num hv hf h0 h1, Nat.mod_eq_of_lt hN]
  have e2 : cutE (fq ++ wrS N m) fq.size m 0 = 0 := by
    unfold cutE
    rw [if_pos hi.1, if_pos hi.2]
  rw [e1, e2] at c
  exact c
theorem cat_signed (v : Int) (hvv : -((2 ^ (m - 1) : Nat) : Int) ≤ v ∧ v < ((2 ^ (m - 1) : Nat) : Int)) : Fun E 9 [.string (fq ++ wrS (v % 18446744073709551616).toNat m), .int .i64 fq.size, .int .i64 m] (.tuple #[.int .i64 v, .int .i64 0]) := by
  have hz := cat_size (N := (v % 18446744073709551616).toNat) hv hf h0 h1
  have c := getSigned9 (fq ++ wrS (v % 18446744073709551616).toNat m) fq.size m (by omega)
  have hi := cat_ins (N := (v % 18446744073709551616).toNat) hv hf h0 h1 1 (by decide)
  have e1 : cutS (fq ++ wrS (v % 18446744073709551616).toNat m) fq.size m = v := by
    unfold cutS getS getN
    rw [if_pos hi]
    show (if byteAt _ fq.size = 49 then (numN _ fq.size m : Int) - (2 ^ m : Nat) else (numN _ fq.size m : Int)) = v
    have ht := top_iff (fq ++ wrS (v % 18446744073709551616).toNat m) fq.size m h0
    rw [cat_num hv hf h0 h1] at ht ⊢
    have hd : ((2 ^ m : Nat) : Int) ∣ 18446744073709551616 := by
      refine ⟨((2 ^ (64 - m) : Nat) : Int), ?_⟩
      rw [← Int.natCast_mul, ← Nat.pow_add, show m + (64 - m) = 64 by omega]
      decide
    have hP : 2 ^ m = 2 * 2 ^ (m - 1) := by
      rw [Nat.mul_comm, ← Nat.pow_succ, show (m - 1).succ = m by omega]
    have e : (((v % 18446744073709551616).toNat % 2 ^ m : Nat) : Int) = v % ((2 ^ m : Nat) : Int) := by
      rw [Int.natCast_emod, Int.toNat_of_nonneg (Int.emod_nonneg _ (by decide)), Int.emod_emod_of_dvd _ hd]
    generalize (v % 18446744073709551616).toNat % 2 ^ m = G at *
    rw [hP] at e ⊢
    generalize 2 ^ (m - 1) = D at *
    by_cases h : v < 0
    · have e3 : v % ((2 * D : Nat) : Int) = v + (2 * D : Nat) := by
        rw [← Int.add_emod_right, Int.emod_eq_of_lt (by omega) (by omega)]
      rw [if_pos (ht.1 (by omega))]
      omega
    · rw [Int.emod_eq_of_lt (by omega) (by omega)] at e
      rw [if_neg fun h9 => by have := ht.2 h9; omega]
      exact e
  have e2 : cutE (fq ++ wrS (v % 18446744073709551616).toNat m) fq.size m 1 = 0 := by
    unfold cutE
    rw [if_pos hi.1, if_pos hi.2]
  rw [e1, e2] at c
  exact c
end
theorem f4 : E.funcs 4 = some Tryd.f4 := by kernel_rfl
set_option maxHeartbeats 4000000 in
theorem law4 (fq : ByteArray) (n w : Int) (hs : fq.size ≤ 140737488351232) (hn : -9223372036854775808 ≤ n ∧ n ≤ 9223372036854775807) : Fun E 4 [.string fq, .int .i64 n, .int .i64 w] (.bool true) := by
  refine Fun.of f4 rfl (of_decide_eq_true (by kernel_rfl)) rfl ?_
  have c1 := valid12 fq hs
  have c13 := sane13
  refine Wp.seq (Wp.text ?_)
  refine kp 6 (.bool false) ?_
  refine WpOps.nil (thenK_at (Wp.seq (Wp.seq (Wp.text ?_))))
  refine kp 14 (.string fq) ?_
  refine fr 15 12 [Value.string fq] ?_
  refine WpFun.of (c1) ?_
  refine kp 16 (.bool !decide (VP fq)) ?_
  refine kp 17 (.bool !decide (VP fq)) ?_
  refine WpOps.fork 4 (!decide (VP fq)) [18, 19, 20, 21] 21 (true) (decide ((↑(ByteArray.size fq) : Int) > 1000)) (by kernel_rfl) (fun g21 => ?_) (fun g21 => ?_) (fun f_21 b21 hb21 => ?_)
  · refine um 18 ?_ (hw := wants_tf g21)
    refine um 19 ?_ (hw := wants_tf g21)
    refine um 20 ?_ (hw := wants_tf g21)
    refine kp 21 (.bool true) ?_ (hop := fun _ => o_pickT g21)
    refine WpOps.nil ?_
    exact ⟨rfl, (.upd rfl (.upd rfl (.upd rfl (.upd rfl .refl)))), (by kernel_rfl)⟩
  · refine kp 18 (.string fq) ?_ (hw := wants_ff g21)
    refine kp 19 (.int IntKind.i64 (↑(ByteArray.size fq) : Int)) ?_ (hw := wants_ff g21)
    refine kp 20 (.bool (decide ((↑(ByteArray.size fq) : Int) > 1000))) ?_ (hw := wants_ff g21)
    refine kp 21 (.bool (decide ((↑(ByteArray.size fq) : Int) > 1000))) ?_ (hop := fun _ => o_pickF g21)
    refine WpOps.nil ?_
    exact ⟨rfl, (.upd rfl (.upd rfl (.upd rfl (.upd rfl .refl)))), (by kernel_rfl)⟩
  refine kp 22 (.bool b21) ?_
  refine WpOps.fork 3 (b21) [23, 24, 25] 25 (true) (decide (w < 1)) (by kernel_rfl) (fun g25 => ?_) (fun g25 => ?_) (fun f_25 b25 hb25 => ?_)
  · refine um 23 ?_ (hw := wants_tf g25)
    refine um 24 ?_ (hw := wants_tf g25)
    refine kp 25 (.bool true) ?_ (hop := fun _ => o_pickT g25)
    refine WpOps.nil ?_
    exact ⟨rfl, (.upd rfl (.upd rfl (.upd rfl .refl))), (by kernel_rfl)⟩
  · refine kp 23 (.int IntKind.i64 w) ?_ (hw := wants_ff g25)
    refine kp 24 (.bool (decide (w < 1))) ?_ (hw := wants_ff g25)
    refine kp 25 (.bool (decide (w < 1))) ?_ (hop := fun _ => o_pickF g25)
    refine WpOps.nil ?_
    exact ⟨rfl, (.upd rfl (.upd rfl (.upd rfl .refl))), (by kernel_rfl)⟩
  refine kp 26 (.bool b25) ?_
  refine WpOps.fork 3 (b25) [27, 28, 29] 29 (true) (decide (w > 60)) (by kernel_rfl) (fun g29 => ?_) (fun g29 => ?_) (fun f_29 b29 hb29 => ?_)
  · refine um 27 ?_ (hw := wants_tf g29)
    refine um 28 ?_ (hw := wants_tf g29)
    refine kp 29 (.bool true) ?_ (hop := fun _ => o_pickT g29)
    refine WpOps.nil ?_
    exact ⟨rfl, (.upd rfl (.upd rfl (.upd rfl .refl))), (by kernel_rfl)⟩
  · refine kp 27 (.int IntKind.i64 w) ?_ (hw := wants_ff g29)
    refine kp 28 (.bool (decide (w > 60))) ?_ (hw := wants_ff g29)
    refine kp 29 (.bool (decide (w > 60))) ?_ (hop := fun _ => o_pickF g29)
    refine WpOps.nil ?_
    exact ⟨rfl, (.upd rfl (.upd rfl (.upd rfl .refl))), (by kernel_rfl)⟩
  refine WpOps.nil (thenK_at ?_)
  have e : b29 = !decide (VP fq ∧ fq.size ≤ 1000 ∧ 1 ≤ w ∧ w ≤ 60) := by
    rw [hb29, hb25, hb21, cond_or', cond_or', cond_or', Bool.eq_iff_iff]
    simp only [Bool.or_eq_true, decide_eq_true_eq, Bool.not_eq_true', decide_eq_false_iff_not]
    by_cases h : VP fq
    · simp only [h, true_and, not_true, false_or]
      omega
    · simp only [h, false_and, not_false_iff, true_or]
  clear hb29
  refine Wp.split (b29) (by kernel_rfl) (fun hd => ?_) (fun hd => ?_)
  · refine Wp.seq (Wp.text ?_)
    refine fr 30 13 [] ?_
    refine WpFun.of (c13) ?_
    refine kp 6 (.bool true) ?_
    refine WpOps.nil (thenK_at (Wp.ret (thenK_ret ?_)))
    refine endK_retn [Value.bool true] (Value.bool true) (by kernel_rfl) (by kernel_rfl) ?_
    rfl
  · rw [hd] at e
    have hi : VP fq ∧ fq.size ≤ 1000 ∧ 1 ≤ w ∧ w ≤ 60 := of_decide_eq_true (Eq.mp (Bool.not_eq_false' _) e.symm)
    clear e
    obtain ⟨hv, hf, h0, h1⟩ := hi
    obtain ⟨m, rfl⟩ : ∃ m : Nat, w = m := ⟨w.toNat, by omega⟩
    have hm0 : 1 ≤ m := by omega
    have hm1 : m ≤ 60 := by omega
    have hp := pow_le60 hm1
    have hp0 : 0 < 2 ^ m := Nat.pow_pos (by decide)
    have hp2 := pow_le60 (k := m - 1) (by omega)
    have hP : 2 ^ m = 2 * 2 ^ (m - 1) := by rw [Nat.mul_comm, ← Nat.pow_succ, show (m - 1).succ = m by omega]
    have c2 : Fun E 15 [.int .i64 (m : Int)] (.int .i64 (pw m)) := power15 m (by omega) (by omega)
    have c3 : Fun E 14 [.int .i64 n, .int .i64 (pw m)] (.int .i64 (modP n (pw m))) := mod14 n (pw m) hp0 hp
    have hU : modP n (pw m) < 2 ^ m := by
      unfold modP pw
      have := Int.emod_lt_of_pos n (b := ((2 ^ m : Nat) : Int)) (by omega)
      have := Int.emod_nonneg n (b := ((2 ^ m : Nat) : Int)) (by omega)
      omega
    obtain ⟨U, hUe⟩ : ∃ U, U = modP n (pw m) := ⟨_, rfl⟩
    rw [← hUe] at c3 hU
    have c4 := put16 U m hm1 hU
    have c5 := cat_get hv hf hm0 hm1 hU
    have hz := cat_size (N := U) hv hf hm0 hm1
    have z1 : (wrS U m).size = m := mkB_size _ _
    have d1 : (((wrS U m).size : Int) != (m : Int)) = false := by rw [z1]; exact bne_self_eq_false _
    have d2 : ((U : Int) != (U : Int)) = false := bne_self_eq_false _
    have r1 : (((fq.size + (wrS U m).size : Nat)) : Int) ≤ 9223372036854775807 := by omega
    have e1 : IntKind.i64.wrap ((m : Int) - 1) = ((m - 1 : Nat) : Int) := by rw [wr _ (by omega) (by omega)]; omega
    have c6 : Fun E 15 [.int .i64 (IntKind.i64.wrap ((m : Int) - 1))] (.int .i64 (pw (m - 1))) := by rw [e1]; exact power15 (m - 1 : Nat) (by omega) (by omega)
    have e2 : IntKind.i64.wrap ((U : Int) - (pw (m - 1) : Int)) = (U : Int) - (pw (m - 1) : Int) := by
      unfold pw
      generalize 2 ^ (m - 1) = D at *
      exact wrs _ (by omega) (by omega)
    obtain ⟨v, hve⟩ : ∃ v, v = IntKind.i64.wrap ((U : Int) - (pw (m - 1) : Int)) := ⟨_, rfl⟩
    have hvv : -((2 ^ (m - 1) : Nat) : Int) ≤ v ∧ v < ((2 ^ (m - 1) : Nat) : Int) := by
      rw [hve, e2]
      unfold pw
      generalize 2 ^ (m - 1) = D at *
      omega
    have c7 := signed17 v m hm0 hm1 hvv
    have c8 := cat_signed hv hf hm0 hm1 v hvv
    have z2 : (wrS (v % 18446744073709551616).toNat m).size = m := mkB_size _ _
    have d3 : (((wrS (v % 18446744073709551616).toNat m).size : Int) != (m : Int)) = false := by rw [z2]; exact bne_self_eq_false _
    have r2 : (((fq.size + (wrS (v % 18446744073709551616).toNat m).size : Nat)) : Int) ≤ 9223372036854775807 := by omega
    have d4 : (v != v) = false := bne_self_eq_false _
    rw [hve] at c7 c8 d3 r2 d4
    have hm : -1000000000000000 ≤ n.tmod 1000000000000001 ∧ n.tmod 1000000000000001 ≤ 1000000000000000 := by
      have t1 := Int.tmod_lt_of_pos n (b := 1000000000000001) (by decide)
      have t2 := Int.lt_tmod_of_pos n (b := 1000000000000001) (by decide)
      omega
    obtain ⟨j, j1, j2, c9⟩ := octets (n.tmod 1000000000000001) hm
    have c10 := number19 (n.tmod 1000000000000001) j hm j1 j2
    have d5 : (n.tmod 1000000000000001 == n.tmod 1000000000000001) = true := BEq.rfl
    refine Wp.skip (thenK_at (Wp.seq (Wp.text ?_)))
    refine kp 31 (.int IntKind.i64 n) ?_
    refine kp 32 (.int IntKind.i64 (↑m : Int)) ?_
    refine fr 33 15 [Value.int .i64 (↑m : Int)] ?_
    refine WpFun.of (c2) ?_
    refine fr 34 14 [Value.int .i64 n, Value.int .i64 (↑(pw m) : Int)] ?_
    refine WpFun.of (c3) ?_
    refine kp 7 (.int IntKind.i64 (↑U : Int)) ?_
    refine WpOps.nil (thenK_at (Wp.seq (Wp.text ?_)))
    refine kp 36 (.int IntKind.i64 (↑U : Int)) ?_
    refine kp 37 (.int IntKind.i64 (↑m : Int)) ?_
    refine fr 38 16 [Value.int .i64 (↑U : Int), Value.int .i64 (↑m : Int)] ?_
    refine WpFun.of (c4) ?_
    refine kp 35 (.tuple #[Value.string (wrS U m), Value.int .i64 0]) ?_
    refine kp 39 (.string (wrS U m)) ?_
    refine kp 40 (.int IntKind.i64 0) ?_
    refine kp 8 (.string (wrS U m)) ?_
    refine kp 9 (.int IntKind.i64 0) ?_
    refine WpOps.nil (thenK_at (Wp.seq (Wp.seq (Wp.text ?_))))
    refine kp 41 (.int IntKind.i64 0) ?_
    refine kp 42 (.bool false) ?_
    refine kp 43 (.bool false) ?_
    refine kp 44 (.string (wrS U m)) ?_
    refine kp 45 (.int IntKind.i64 (↑(ByteArray.size (wrS U m)) : Int)) ?_
    refine kp 46 (.int IntKind.i64 (↑m : Int)) ?_
    refine kp 47 (.bool false) ?_ (hop := fun _ => by_fact d1)
    refine kp 48 (.bool false) ?_
    refine WpOps.nil (thenK_at (off' (Wp.skip (thenK_at (Wp.seq (Wp.text ?_))))))
    refine kp 50 (.string fq) ?_
    refine kp 51 (.string (wrS U m)) ?_
    refine kp 52 (.string (fq ++ wrS U m)) ?_ (hop := fun _ => o_add r1)
    refine kp 53 (.string fq) ?_
    refine kp 54 (.int IntKind.i64 (↑(ByteArray.size fq) : Int)) ?_
    refine kp 55 (.int IntKind.i64 (↑m : Int)) ?_
    refine fr 56 7 [Value.string (fq ++ wrS U m), Value.int .i64 (↑(ByteArray.size fq) : Int), Value.int .i64 (↑m : Int)] ?_
    refine WpFun.of (c5) ?_
    refine kp 49 (.tuple #[Value.int .i64 (↑U : Int), Value.int .i64 0]) ?_
    refine kp 57 (.int IntKind.i64 (↑U : Int)) ?_
    refine kp 58 (.int IntKind.i64 0) ?_
    refine kp 10 (.int IntKind.i64 (↑U : Int)) ?_
    refine kp 9 (.int IntKind.i64 0) ?_
    refine WpOps.nil (thenK_at (Wp.seq (Wp.seq (Wp.text ?_))))
    refine kp 59 (.int IntKind.i64 0) ?_
    refine kp 60 (.bool false) ?_
    refine kp 61 (.bool false) ?_
    refine kp 62 (.int IntKind.i64 (↑U : Int)) ?_
    refine kp 63 (.int IntKind.i64 (↑U : Int)) ?_
    refine kp 64 (.bool false) ?_ (hop := fun _ => by_fact d2)
    refine kp 65 (.bool false) ?_
    refine WpOps.nil (thenK_at (off' (Wp.skip (thenK_at (Wp.seq (Wp.text ?_))))))
    refine kp 66 (.int IntKind.i64 (↑U : Int)) ?_
    refine kp 67 (.int IntKind.i64 (↑m : Int)) ?_
    refine kp 68 (.int IntKind.i64 (IntKind.wrap .i64 ((↑m : Int) - 1))) ?_
    refine fr 69 15 [Value.int .i64 (IntKind.wrap .i64 ((↑m : Int) - 1))] ?_
    refine WpFun.of (c6) ?_
    refine kp 70 (.int IntKind.i64 (IntKind.wrap .i64 ((↑U : Int) - (↑(pw (m - 1)) : Int)))) ?_
    refine kp 11 (.int IntKind.i64 (IntKind.wrap .i64 ((↑U : Int) - (↑(pw (m - 1)) : Int)))) ?_
    refine WpOps.nil (thenK_at (Wp.seq (Wp.text ?_)))
    refine kp 72 (.int IntKind.i64 (IntKind.wrap .i64 ((↑U : Int) - (↑(pw (m - 1)) : Int)))) ?_
    refine kp 73 (.int IntKind.i64 (↑m : Int)) ?_
    refine fr 74 17 [Value.int .i64 (IntKind.wrap .i64 ((↑U : Int) - (↑(pw (m - 1)) : Int))), Value.int .i64 (↑m : Int)] ?_
    refine WpFun.of (c7) ?_
    refine kp 71 (.tuple #[Value.string (wrS (Int.toNat (IntKind.wrap .i64 ((↑U : Int) - (↑(pw (m - 1)) : Int)) % 18446744073709551616)) m), Value.int .i64 0]) ?_
    refine kp 75 (.string (wrS (Int.toNat (IntKind.wrap .i64 ((↑U : Int) - (↑(pw (m - 1)) : Int)) % 18446744073709551616)) m)) ?_
    refine kp 76 (.int IntKind.i64 0) ?_
    refine kp 8 (.string (wrS (Int.toNat (IntKind.wrap .i64 ((↑U : Int) - (↑(pw (m - 1)) : Int)) % 18446744073709551616)) m)) ?_
    refine kp 9 (.int IntKind.i64 0) ?_
    refine WpOps.nil (thenK_at (Wp.seq (Wp.seq (Wp.text ?_))))
    refine kp 77 (.int IntKind.i64 0) ?_
    refine kp 78 (.bool false) ?_
    refine kp 79 (.bool false) ?_
    refine kp 80 (.string (wrS (Int.toNat (IntKind.wrap .i64 ((↑U : Int) - (↑(pw (m - 1)) : Int)) % 18446744073709551616)) m)) ?_
    refine kp 81 (.int IntKind.i64 (↑(ByteArray.size (wrS (Int.toNat (IntKind.wrap .i64 ((↑U : Int) - (↑(pw (m - 1)) : Int)) % 18446744073709551616)) m)) : Int)) ?_
    refine kp 82 (.int IntKind.i64 (↑m : Int)) ?_
    refine kp 83 (.bool false) ?_ (hop := fun _ => by_fact d3)
    refine kp 84 (.bool false) ?_
    refine WpOps.nil (thenK_at (off' (Wp.skip (thenK_at (Wp.seq (Wp.text ?_))))))
    refine kp 86 (.string fq) ?_
    refine kp 87 (.string (wrS (Int.toNat (IntKind.wrap .i64 ((↑U : Int) - (↑(pw (m - 1)) : Int)) % 18446744073709551616)) m)) ?_
    refine kp 88 (.string (fq ++ wrS (Int.toNat (IntKind.wrap .i64 ((↑U : Int) - (↑(pw (m - 1)) : Int)) % 18446744073709551616)) m)) ?_ (hop := fun _ => o_add r2)
    refine kp 89 (.string fq) ?_
    refine kp 90 (.int IntKind.i64 (↑(ByteArray.size fq) : Int)) ?_
    refine kp 91 (.int IntKind.i64 (↑m : Int)) ?_
    refine fr 92 9 [Value.string (fq ++ wrS (Int.toNat (IntKind.wrap .i64 ((↑U : Int) - (↑(pw (m - 1)) : Int)) % 18446744073709551616)) m), Value.int .i64 (↑(ByteArray.size fq) : Int), Value.int .i64 (↑m : Int)] ?_
    refine WpFun.of (c8) ?_
    refine kp 85 (.tuple #[Value.int .i64 (IntKind.wrap .i64 ((↑U : Int) - (↑(pw (m - 1)) : Int))), Value.int .i64 0]) ?_
    refine kp 93 (.int IntKind.i64 (IntKind.wrap .i64 ((↑U : Int) - (↑(pw (m - 1)) : Int)))) ?_
    refine kp 94 (.int IntKind.i64 0) ?_
    refine kp 10 (.int IntKind.i64 (IntKind.wrap .i64 ((↑U : Int) - (↑(pw (m - 1)) : Int)))) ?_
    refine kp 9 (.int IntKind.i64 0) ?_
    refine WpOps.nil (thenK_at (Wp.seq (Wp.seq (Wp.text ?_))))
    refine kp 95 (.int IntKind.i64 0) ?_
    refine kp 96 (.bool false) ?_
    refine kp 97 (.bool false) ?_
    refine kp 98 (.int IntKind.i64 (IntKind.wrap .i64 ((↑U : Int) - (↑(pw (m - 1)) : Int)))) ?_
    refine kp 99 (.int IntKind.i64 (IntKind.wrap .i64 ((↑U : Int) - (↑(pw (m - 1)) : Int)))) ?_
    refine kp 100 (.bool false) ?_ (hop := fun _ => by_fact d4)
    refine kp 101 (.bool false) ?_
    refine WpOps.nil (thenK_at (off' (Wp.skip (thenK_at (Wp.seq (Wp.text ?_))))))
    refine kp 102 (.int IntKind.i64 n) ?_
    refine kp 103 (.int IntKind.i64 (Int.tmod n 1000000000000001)) ?_
    refine kp 12 (.int IntKind.i64 (Int.tmod n 1000000000000001)) ?_
    refine WpOps.nil (thenK_at (Wp.seq (Wp.text ?_)))
    refine kp 105 (.int IntKind.i64 (Int.tmod n 1000000000000001)) ?_
    refine fr 106 18 [Value.int .i64 (Int.tmod n 1000000000000001)] ?_
    refine WpFun.of (c9) ?_
    refine kp 104 (.tuple #[Value.string (octS (Int.tmod n 1000000000000001) (j + 1)), Value.int .i64 0]) ?_
    refine kp 107 (.string (octS (Int.tmod n 1000000000000001) (j + 1))) ?_
    refine kp 108 (.int IntKind.i64 0) ?_
    refine kp 13 (.string (octS (Int.tmod n 1000000000000001) (j + 1))) ?_
    refine kp 9 (.int IntKind.i64 0) ?_
    refine WpOps.nil (thenK_at (Wp.seq (Wp.seq (Wp.text ?_))))
    refine kp 109 (.int IntKind.i64 0) ?_
    refine kp 110 (.bool false) ?_
    refine WpOps.nil (thenK_at (off' (Wp.skip (thenK_at (Wp.seq (Wp.text ?_))))))
    refine kp 112 (.string (octS (Int.tmod n 1000000000000001) (j + 1))) ?_
    refine fr 113 19 [Value.string (octS (Int.tmod n 1000000000000001) (j + 1))] ?_
    refine WpFun.of (c10) ?_
    refine kp 111 (.tuple #[Value.int .i64 (Int.tmod n 1000000000000001), Value.int .i64 0]) ?_
    refine kp 114 (.int IntKind.i64 (Int.tmod n 1000000000000001)) ?_
    refine kp 115 (.int IntKind.i64 0) ?_
    refine kp 10 (.int IntKind.i64 (Int.tmod n 1000000000000001)) ?_
    refine kp 9 (.int IntKind.i64 0) ?_
    refine WpOps.nil (thenK_at (Wp.seq (Wp.text ?_)))
    refine kp 116 (.int IntKind.i64 0) ?_
    refine kp 117 (.bool true) ?_
    refine kp 118 (.bool true) ?_
    refine kp 119 (.int IntKind.i64 (Int.tmod n 1000000000000001)) ?_
    refine kp 120 (.int IntKind.i64 (Int.tmod n 1000000000000001)) ?_
    refine kp 121 (.bool true) ?_ (hop := fun _ => by_fact d5)
    refine kp 122 (.bool true) ?_
    refine kp 123 (.bool true) ?_
    refine fr 124 13 [] ?_
    refine WpFun.of (c13) ?_
    refine kp 125 (.bool true) ?_
    refine kp 6 (.bool true) ?_
    refine WpOps.nil (thenK_at (Wp.ret ?_))
    refine endK_retn [Value.bool true] (Value.bool true) (by kernel_rfl) (by kernel_rfl) ?_
    rfl
end Go.Proofs.YthhlfddpacmhfaaDoor.D
