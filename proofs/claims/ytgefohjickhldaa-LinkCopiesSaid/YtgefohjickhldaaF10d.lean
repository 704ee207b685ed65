/- The laws LinkFrames, LinkReads, LinkSpoilt. -/
import Derived.Test.YtgefohjickhldaaFwLem
import Derived.Test.YtgefohjickhldaaF10c
namespace Go.Proofs.Ytgefohjickhldaa.D
open Go.Fw Go.RowKit

def cv (k g s r : Int) (d : ByteArray) : Value := .agg #[.int .i64 k, .int .i64 g, .int .i64 s, .int .i64 r, .string d]
/-- A frame. -/
def frm (k g s r : Int) (d : ByteArray) : ByteArray := summed (fr3 k g s r ++ d)
theorem frm_size (k g s r : Int) (d : ByteArray) : (frm k g s r d).size = d.size + 5 := by
  rw [frm, summed_size, ByteArray.size_append, fr3_size]
  omega
theorem frm_head (k g s r : Int) (d : ByteArray) : (frm k g s r d).extract 0 ((frm k g s r d).size - 2) = fr3 k g s r ++ d := by
  have h : (frm k g s r d).size - 2 = (fr3 k g s r ++ d).size := by rw [frm_size, ByteArray.size_append, fr3_size]; omega
  rw [h]
  exact ext_left _ _
theorem frm_at {k g s r : Int} {d : ByteArray} (h : Fit k g s r d.size) : at' (frm k g s r d) 0 = k ∧ at' (frm k g s r d) 1 = g ∧ at' (frm k g s r d) 2 = 8 * s + r := by
  obtain ⟨h1, h2, h3, h4, _⟩ := h
  have e : IntKind.i64.wrap (IntKind.i64.wrap (8 * s) + r) = 8 * s + r := by
    rw [wr (8 * s) (by omega) (by omega), wr _ (by omega) (by omega)]
  have l : (frm k g s r d).data.toList = (fr3 k g s r).data.toList ++ (d.data.toList ++ (sumS (fr3 k g s r ++ d)).data.toList) := by
    rw [frm, summed, ByteArray.data_append, ByteArray.data_append, Array.toList_append, Array.toList_append, List.append_assoc]
  have u : ∀ n : Int, 0 ≤ n → n < 256 → ((UInt8.ofNat (IntKind.u8.wrap n).toNat).toNat : Int) = n := fun n h0 h1 => by
    rw [wu8 n h0 h1, UInt8.toNat_ofNat']
    omega
  unfold at' byteAt
  rw [l]
  refine ⟨?_, ?_, ?_⟩
  · exact u k (by omega) (by omega)
  · exact u g (by omega) (by omega)
  · show ((UInt8.ofNat (IntKind.u8.wrap (IntKind.i64.wrap (IntKind.i64.wrap (8 * s) + r))).toNat).toNat : Int) = _
    rw [e]
    exact u _ (by omega) (by omega)
theorem frm_dat (k g s r : Int) (d : ByteArray) : dat (frm k g s r d) = d := by
  have h : (frm k g s r d).size - 2 = 3 + d.size := by rw [frm_size]; omega
  have e : (frm k g s r d).extract 3 ((frm k g s r d).size - 2) = ((frm k g s r d).extract 0 ((frm k g s r d).size - 2)).extract 3 (3 + d.size) := by
    rw [h]
    apply ByteArray.ext
    simp only [ByteArray.data_extract, Array.extract_extract]
    congr 1
    omega
  rw [dat, e, frm_head]
  exact ext_right (fr3 k g s r) d
theorem frm_ok {k g s r : Int} {d : ByteArray} (h : Fit k g s r d.size) : RdOk (frm k g s r d) ∧ rdV (frm k g s r d) = .tuple #[.int .i64 k, .int .i64 g, .int .i64 s, .int .i64 r, .string d, .int .i64 0] := by
  obtain ⟨a0, a1, a2⟩ := frm_at h
  obtain ⟨h1, h2, h3, h4, h5, h6, h7⟩ := id h
  have e1 : (8 * s + r) / 8 = s := by omega
  have e2 : (8 * s + r) % 8 = r := by omega
  have hs := frm_size k g s r d
  have hr : RdOk (frm k g s r d) := by
    refine ⟨by omega, summed_ok _, ?_⟩
    rw [a0, a1, a2, e1, e2, hs, Nat.add_sub_cancel]
    exact h
  refine ⟨hr, ?_⟩
  rw [rdV, if_pos hr, a0, a1, a2, e1, e2, frm_dat]
theorem f3 : E.funcs 3 = some Try.f3 := by kernel_rfl
theorem law3 (k g s r : Int) (d : ByteArray) : Fun E 3 [cv k g s r d] (.bool true) := by
  refine Fun.of f3 rfl (of_decide_eq_true (by kernel_rfl)) rfl ?_
  have c1 := frame10 k g s r d
  have c2 := frame11 k g s r d
  have c3 := sane12
  by_cases h : Fit k g s r d.size
  · rw [frame, if_pos h] at c1 c2
    have c4 := read13 (frm k g s r d)
    rw [(frm_ok h).2] at c4
    unfold frm at c4
    have n1 : (!((summed (fr3 k g s r ++ d)).toList == (summed (fr3 k g s r ++ d)).toList)) = false := by rw [beq_self_eq_true]; rfl
    have n2 : (k == k) = true := beq_self_eq_true _
    have n3 : (g == g) = true := beq_self_eq_true _
    have n4 : (s == s) = true := beq_self_eq_true _
    have n5 : (r == r) = true := beq_self_eq_true _
    have n6 : (d.toList == d.toList) = true := beq_self_eq_true _
    refine Wp.seq (Wp.text (md 1 (vP 0 0) (Blk.mk 23 true [vI k, vI g, vI s, vI r, Value.string d]) (kp 2 vF (WpOps.nil (thenK_at (Wp.seq (Wp.text (kp 13 (vP 0 0) (kp 14 (vI k) (kp 15 (vP 0 1) (kp 16 (vI g) (kp 17 (vP 0 2) (kp 18 (vI s) (kp 19 (vP 0 3) (kp 20 (vI r) (kp 21 (vP 0 4) (kp 22 (.string d) (fr 23 10 [vI k, vI g, vI s, vI r, Value.string d] (WpFun.of (c1) (kp 12 (.tuple #[Value.string (summed (fr3 k g s r ++ d)), vI 0]) (kp 24 (.string (summed (fr3 k g s r ++ d))) (kp 25 (vI 0) (kp 3 (.string (summed (fr3 k g s r ++ d))) (kp 4 (vI 0) (WpOps.nil (thenK_at (Wp.seq (Wp.text (kp 27 (vP 0 0) (kp 28 (vI k) (kp 29 (vP 0 1) (kp 30 (vI g) (kp 31 (vP 0 2) (kp 32 (vI s) (kp 33 (vP 0 3) (kp 34 (vI r) (kp 35 (vP 0 4) (kp 36 (.string d) (fr 37 11 [vI k, vI g, vI s, vI r, Value.string d] (WpFun.of (c2) (kp 26 (.tuple #[Value.string (summed (fr3 k g s r ++ d)), vI 0]) (kp 38 (.string (summed (fr3 k g s r ++ d))) (kp 39 (vI 0) (kp 5 (.string (summed (fr3 k g s r ++ d))) ?_))))))))))))))))))))))))))))))))))))))))))))
    refine kp 6 (vI 0) (WpOps.nil (thenK_at (Wp.seq (Wp.seq (Wp.text (kp 40 (.string (summed (fr3 k g s r ++ d))) (kp 41 (.string (summed (fr3 k g s r ++ d))) (kp 42 vF (kp 43 vF (kp 44 (vI 0) (kp 45 (vI 0) (kp 46 vF (kp 47 vF (WpOps.nil (thenK_at (off' (Wp.skip (thenK_at (Wp.seq (Wp.seq (Wp.text (kp 48 (vI 0) (kp 49 vF (WpOps.nil (thenK_at (off' (Wp.skip (thenK_at (Wp.seq (Wp.text (kp 52 (.string (summed (fr3 k g s r ++ d))) (fr 53 13 [Value.string (summed (fr3 k g s r ++ d))] (WpFun.of (c4) (kp 51 (.tuple #[vI k, vI g, vI s, vI r, Value.string d, vI 0]) (kp 54 (vI k) (kp 55 (vI g) (kp 56 (vI s) (kp 57 (vI r) (kp 58 (.string d) (kp 59 (vI 0) (kp 7 (vI k) (kp 8 (vI g) (kp 9 (vI s) (kp 10 (vI r) (kp 11 (.string d) (kp 4 (vI 0) (WpOps.nil (thenK_at (Wp.seq (Wp.text (kp 60 (vI 0) (kp 61 vT (kp 62 vT (kp 63 (vI k) (kp 64 (vP 0 0) (kp 65 (vI k) (kp 66 vT (kp 67 vT (kp 68 vT (kp 69 (vI g) (kp 70 (vP 0 1) (kp 71 (vI g) (kp 72 vT (kp 73 vT (kp 74 vT (kp 75 (vI s) (kp 76 (vP 0 2) ?_)))) (hop := fun _ => by_fact n3))))))) (hop := fun _ => by_fact n2)))))))))))))))))))))))))))))))))))))))))))))))))) (hop := fun _ => by_fact n1)))))))))
    refine kp 77 (vI s) (kp 78 vT (kp 79 vT (kp 80 vT (kp 81 (vI r) (kp 82 (vP 0 3) (kp 83 (vI r) (kp 84 vT (kp 85 vT (kp 86 vT (kp 87 (.string d) (kp 88 (vP 0 4) (kp 89 (.string d) (kp 90 vT (kp 91 vT (kp 92 vT (fr 93 12 [] (WpFun.of (c3) (kp 94 vT (kp 2 vT (WpOps.nil (thenK_at (Wp.ret (endK_retn [vT] vT (by kernel_rfl) (by kernel_rfl) ?_)))))))))) (hop := fun _ => by_fact n6))))))) (hop := fun _ => by_fact n5))))))) (hop := fun _ => by_fact n4))
    kernel_rfl
  · rw [frame, if_neg h] at c1 c2
    refine Wp.seq (Wp.text (md 1 (vP 0 0) (Blk.mk 23 true [vI k, vI g, vI s, vI r, Value.string d]) (kp 2 vF (WpOps.nil (thenK_at (Wp.seq (Wp.text (kp 13 (vP 0 0) (kp 14 (vI k) (kp 15 (vP 0 1) (kp 16 (vI g) (kp 17 (vP 0 2) (kp 18 (vI s) (kp 19 (vP 0 3) (kp 20 (vI r) (kp 21 (vP 0 4) (kp 22 (.string d) (fr 23 10 [vI k, vI g, vI s, vI r, Value.string d] (WpFun.of (c1) (kp 12 (.tuple #[Value.string ByteArray.empty, vI 1]) (kp 24 (.string ByteArray.empty) (kp 25 (vI 1) (kp 3 (.string ByteArray.empty) (kp 4 (vI 1) (WpOps.nil (thenK_at (Wp.seq (Wp.text (kp 27 (vP 0 0) (kp 28 (vI k) (kp 29 (vP 0 1) (kp 30 (vI g) (kp 31 (vP 0 2) (kp 32 (vI s) (kp 33 (vP 0 3) (kp 34 (vI r) (kp 35 (vP 0 4) (kp 36 (.string d) (fr 37 11 [vI k, vI g, vI s, vI r, Value.string d] (WpFun.of (c2) (kp 26 (.tuple #[Value.string ByteArray.empty, vI 1]) (kp 38 (.string ByteArray.empty) (kp 39 (vI 1) (kp 5 (.string ByteArray.empty) (kp 6 (vI 1) (WpOps.nil (thenK_at (Wp.seq (Wp.seq (Wp.text ?_))))))))))))))))))))))))))))))))))))))))))))))))))
    refine kp 40 (.string ByteArray.empty) (kp 41 (.string ByteArray.empty) (kp 42 vF (kp 43 vF (kp 44 (vI 1) (kp 45 (vI 1) (kp 46 vF (kp 47 vF (WpOps.nil (thenK_at (off' (Wp.skip (thenK_at (Wp.seq (Wp.seq (Wp.text (kp 48 (vI 1) (kp 49 vT (WpOps.nil (thenK_at (on' (Wp.seq (Wp.text (fr 50 12 [] (WpFun.of (c3) (kp 2 vT (WpOps.nil (thenK_at (Wp.ret (thenK_ret (endK_retn [vT] vT (by kernel_rfl) (by kernel_rfl) ?_))))))))))))))))))))))))))))))
    kernel_rfl
theorem f4 : E.funcs 4 = some Try.f4 := by kernel_rfl
theorem law4 (b : ByteArray) : Fun E 4 [.string b] (.bool true) := by
  refine Fun.of f4 rfl (of_decide_eq_true (by kernel_rfl)) rfl ?_
  have c1 := read13 b
  have c2 := read14 b
  have c3 := sane12
  by_cases h : RdOk b
  · rw [rdV, if_pos h] at c1 c2
    have n2 : (at' b 0 == at' b 0) = true := beq_self_eq_true _
    have n3 : (at' b 1 == at' b 1) = true := beq_self_eq_true _
    have n4 : (at' b 2 / 8 == at' b 2 / 8) = true := beq_self_eq_true _
    have n5 : (at' b 2 % 8 == at' b 2 % 8) = true := beq_self_eq_true _
    have n6 : ((dat b).toList == (dat b).toList) = true := beq_self_eq_true _
    refine Wp.seq (Wp.text (kp 2 vF (WpOps.nil (thenK_at (Wp.seq (Wp.text (kp 16 (.string b) (fr 17 13 [Value.string b] (WpFun.of (c1) (kp 15 (.tuple #[vI (at' b 0), vI (at' b 1), vI (at' b 2 / 8), vI (at' b 2 % 8), Value.string (dat b), vI 0]) (kp 18 (vI (at' b 0)) (kp 19 (vI (at' b 1)) (kp 20 (vI (at' b 2 / 8)) (kp 21 (vI (at' b 2 % 8)) (kp 22 (.string (dat b)) (kp 23 (vI 0) (kp 3 (vI (at' b 0)) (kp 4 (vI (at' b 1)) (kp 5 (vI (at' b 2 / 8)) (kp 6 (vI (at' b 2 % 8)) (kp 7 (.string (dat b)) (kp 8 (vI 0) (WpOps.nil (thenK_at (Wp.seq (Wp.text (kp 25 (.string b) (fr 26 14 [Value.string b] (WpFun.of (c2) (kp 24 (.tuple #[vI (at' b 0), vI (at' b 1), vI (at' b 2 / 8), vI (at' b 2 % 8), Value.string (dat b), vI 0]) (kp 27 (vI (at' b 0)) (kp 28 (vI (at' b 1)) (kp 29 (vI (at' b 2 / 8)) (kp 30 (vI (at' b 2 % 8)) (kp 31 (.string (dat b)) (kp 32 (vI 0) (kp 9 (vI (at' b 0)) (kp 10 (vI (at' b 1)) (kp 11 (vI (at' b 2 / 8)) (kp 12 (vI (at' b 2 % 8)) (kp 13 (.string (dat b)) (kp 14 (vI 0) (WpOps.nil (thenK_at (Wp.seq (Wp.text (kp 33 (vI (at' b 0)) (kp 34 (vI (at' b 0)) (kp 35 vT (kp 36 vT (kp 37 (vI (at' b 1)) (kp 38 (vI (at' b 1)) ?_))) (hop := fun _ => by_fact n2))))))))))))))))))))))))))))))))))))))))))))))))))
    refine kp 39 vT (kp 40 vT (kp 41 vT (kp 42 (vI (at' b 2 / 8)) (kp 43 (vI (at' b 2 / 8)) (kp 44 vT (kp 45 vT (kp 46 vT (kp 47 (vI (at' b 2 % 8)) (kp 48 (vI (at' b 2 % 8)) (kp 49 vT (kp 50 vT (kp 51 vT (kp 52 (.string (dat b)) (kp 53 (.string (dat b)) (kp 54 vT (kp 55 vT (kp 56 vT (kp 57 (vI 0) (kp 58 (vI 0) (kp 59 vT (kp 60 vT (kp 61 vT (fr 62 12 [] (WpFun.of (c3) (kp 63 vT (kp 2 vT (WpOps.nil (thenK_at (Wp.ret (endK_retn [vT] vT (by kernel_rfl) (by kernel_rfl) ?_))))))))))))))) (hop := fun _ => by_fact n6)))))) (hop := fun _ => by_fact n5)))))) (hop := fun _ => by_fact n4)))))) (hop := fun _ => by_fact n3)
    kernel_rfl
  · rw [rdV, if_neg h] at c1 c2
    refine Wp.seq (Wp.text (kp 2 vF (WpOps.nil (thenK_at (Wp.seq (Wp.text (kp 16 (.string b) (fr 17 13 [Value.string b] (WpFun.of (c1) (kp 15 (.tuple #[vI 0, vI 0, vI 0, vI 0, Value.string ByteArray.empty, vI 4]) (kp 18 (vI 0) (kp 19 (vI 0) (kp 20 (vI 0) (kp 21 (vI 0) (kp 22 (.string ByteArray.empty) (kp 23 (vI 4) (kp 3 (vI 0) (kp 4 (vI 0) (kp 5 (vI 0) (kp 6 (vI 0) (kp 7 (.string ByteArray.empty) (kp 8 (vI 4) (WpOps.nil (thenK_at (Wp.seq (Wp.text (kp 25 (.string b) (fr 26 14 [Value.string b] (WpFun.of (c2) (kp 24 (.tuple #[vI 0, vI 0, vI 0, vI 0, Value.string ByteArray.empty, vI 4]) (kp 27 (vI 0) (kp 28 (vI 0) (kp 29 (vI 0) (kp 30 (vI 0) (kp 31 (.string ByteArray.empty) (kp 32 (vI 4) (kp 9 (vI 0) (kp 10 (vI 0) (kp 11 (vI 0) (kp 12 (vI 0) (kp 13 (.string ByteArray.empty) (kp 14 (vI 4) (WpOps.nil (thenK_at (Wp.seq (Wp.text (kp 33 (vI 0) (kp 34 (vI 0) (kp 35 vT (kp 36 vT (kp 37 (vI 0) (kp 38 (vI 0) (kp 39 vT (kp 40 vT (kp 41 vT (kp 42 (vI 0) (kp 43 (vI 0) (kp 44 vT (kp 45 vT (kp 46 vT (kp 47 (vI 0) (kp 48 (vI 0) (kp 49 vT ?_)))))))))))))))))))))))))))))))))))))))))))))))))))))))))))))))
    refine kp 50 vT (kp 51 vT (kp 52 (.string ByteArray.empty) (kp 53 (.string ByteArray.empty) (kp 54 vT (kp 55 vT (kp 56 vT (kp 57 (vI 4) (kp 58 (vI 4) (kp 59 vT (kp 60 vT (kp 61 vT (fr 62 12 [] (WpFun.of (c3) (kp 63 vT (kp 2 vT (WpOps.nil (thenK_at (Wp.ret (endK_retn [vT] vT (by kernel_rfl) (by kernel_rfl) ?_)))))))))))))))))))
    kernel_rfl
theorem f16 : E.funcs 16 = some Try.f16 := by kernel_rfl
theorem mod16 (x : Int) (n : Nat) (hn : 0 < n) (h : n ≤ 5000) : Fun E 16 [.int .i64 x, .int .i64 n] (.int .i64 (modN x n)) := by
  refine Fun.of f16 rfl (of_decide_eq_true (by kernel_rfl)) rfl ?_
  have c0 : decide ((n : Int) < 1) = false := decide_eq_false (by omega)
  have n0 : (n : Int) ≠ 0 := by omega
  have h1 := Int.tmod_lt_of_pos x (b := n) (by omega)
  have h2 := Int.lt_tmod_of_pos x (b := n) (by omega)
  refine Wp.seq (Wp.text (kp 4 (vI 0) (WpOps.nil (thenK_at (Wp.seq (Wp.seq (Wp.text (kp 6 (vI n) (kp 7 vF (WpOps.nil (thenK_at (off' (Wp.skip (thenK_at (Wp.seq (Wp.text (kp 8 (vI x) (kp 9 (vI n) (kp 10 (vI (Int.tmod x (↑n : Int))) (kp 5 (vI (Int.tmod x (↑n : Int))) (WpOps.nil (thenK_at (Wp.seq (Wp.seq (Wp.text (kp 11 (vI (Int.tmod x (↑n : Int))) (kp 12 (.bool (decide (Int.tmod x (↑n : Int) < 0))) (WpOps.nil (thenK_at ?_)))))))))) (hop := fun _ => o_rem n0))))))))))) (hop := fun _ => by_fact c0))))))))))
  refine Wp.split (decide (Int.tmod x (↑n : Int) < 0)) (by kernel_rfl) (fun hc => ?_) (fun hc => ?_)
  · have hm : modN x n = x.tmod n + n := if_pos (of_decide_eq_true hc)
    have hw : IntKind.i64.wrap (x.tmod n + n) = modN x n := by rw [hm, wr _ (by omega) (by omega)]
    refine Wp.text (kp 13 (vI (Int.tmod x (↑n : Int))) (kp 14 (vI n) (kp 15 (vI (IntKind.wrap .i64 (Int.tmod x (↑n : Int) + (↑n : Int)))) (kp 5 (vI (IntKind.wrap .i64 (Int.tmod x (↑n : Int) + (↑n : Int)))) (WpOps.nil (thenK_at (Wp.seq (Wp.text (kp 16 (vI (IntKind.wrap .i64 (Int.tmod x (↑n : Int) + (↑n : Int)))) (kp 4 (vI (IntKind.wrap .i64 (Int.tmod x (↑n : Int) + (↑n : Int)))) (WpOps.nil (thenK_at (Wp.ret (endK_retn [vI (IntKind.wrap IntKind.i64 (Int.tmod x (↑n : Int) + (↑n : Int)))] (vI (IntKind.wrap IntKind.i64 (Int.tmod x (↑n : Int) + (↑n : Int)))) (by kernel_rfl) (by kernel_rfl) ?_))))))))))))))
    rw [hw]
    rfl
  · have hm : modN x n = x.tmod n := if_neg (of_decide_eq_false hc)
    refine Wp.skip (thenK_at (Wp.seq (Wp.text (kp 16 (vI (Int.tmod x (↑n : Int))) (kp 4 (vI (Int.tmod x (↑n : Int))) (WpOps.nil (thenK_at (Wp.ret (endK_retn [vI (Int.tmod x (↑n : Int))] (vI (Int.tmod x (↑n : Int))) (by kernel_rfl) (by kernel_rfl) ?_)))))))))
    rw [hm]
    rfl
theorem f15 : E.funcs 15 = some Try.f15 := by kernel_rfl
theorem spoil15 (b : ByteArray) (j : Nat) (hj : j < b.size) (hb : b.size ≤ 5000) : Fun E 15 [.string b, .int .i64 j] (.tuple #[.string (spo b j), .int .i64 0]) := by
  refine Fun.of f15 rfl (of_decide_eq_true (by kernel_rfl)) rfl ?_
  have c0 : (b.toList == ByteArray.toList (ByteArray.mk #[])) = false := str_ne fun h => by rw [h] at hj; exact absurd hj (Nat.not_lt_zero _)
  have c1 := mod16 (j : Int) b.size (by omega) hb
  have e1 : modN (j : Int) b.size = j := by
    unfold modN
    rw [Int.tmod_eq_of_lt (by omega) (by omega), if_neg (by omega)]
  rw [e1] at c1
  have h0 : 0 ≤ (j : Int) ∧ (j : Int) < b.size := by omega
  have h1 : 0 ≤ (j : Int) ∧ (j : Int) ≤ b.size := by omega
  have hv := byte_get b j hj
  have w1 : IntKind.i64.wrap ((j : Int) + 1) = ((j + 1 : Nat) : Int) := by rw [wr _ (by omega) (by omega)]; rfl
  have s1 : (((b.extract 0 (j : Int).toNat).size + (⟨#[UInt8.ofNat (IntKind.u8.wrap (((byteAt b j).toNat : Int).tmod 255 + 1)).toNat]⟩ : ByteArray).size : Nat) : Int) ≤ 9223372036854775807 := by
    rw [ByteArray.size_extract]
    show ((_ + 1 : Nat) : Int) ≤ _
    omega
  have s2 : 0 ≤ IntKind.i64.wrap ((j : Int) + 1) ∧ IntKind.i64.wrap ((j : Int) + 1) ≤ b.size := by rw [w1]; omega
  have s3 : (((b.extract 0 (j : Int).toNat ++ (⟨#[UInt8.ofNat (IntKind.u8.wrap (((byteAt b j).toNat : Int).tmod 255 + 1)).toNat]⟩ : ByteArray)).size + (b.extract (IntKind.i64.wrap ((j : Int) + 1)).toNat b.size).size : Nat) : Int) ≤ 9223372036854775807 := by
    rw [ByteArray.size_append, ByteArray.size_extract, ByteArray.size_extract]
    show (((_ + 1) + _ : Nat) : Int) ≤ _
    omega
  refine Wp.seq (Wp.text (kp 4 (.string (ByteArray.mk #[])) (kp 5 (vI 0) (WpOps.nil (thenK_at (Wp.seq (Wp.seq (Wp.text (kp 7 (.string b) (kp 8 vF (WpOps.nil (thenK_at (off' (Wp.skip (thenK_at (Wp.seq (Wp.text (kp 9 (vI j) (kp 10 (.string b) (kp 11 (vI (ByteArray.size b)) (fr 12 16 [vI j, vI (ByteArray.size b)] (WpFun.of (c1) (kp 6 (vI j) (WpOps.nil (thenK_at (Wp.seq (Wp.region (by kernel_rfl) (kp 13 (.string b) (kp 14 (vI j) (kp 15 (.string (ByteArray.extract b 0 (Int.toNat (↑j : Int)))) (kp 16 (.string b) (kp 17 (vI j) (kp 18 (.int .u8 (↑(UInt8.toNat (byteAt b j)) : Int)) (kp 19 (.int .u8 (Int.tmod (↑(UInt8.toNat (byteAt b j)) : Int) 255)) (kp 20 (.int .u8 (IntKind.wrap .u8 (Int.tmod (↑(UInt8.toNat (byteAt b j)) : Int) 255 + 1))) (md 21 (.slice (some ⟨0, 0, none⟩) 1 1) (Blk.mk 5 true [Value.int .u8 (IntKind.wrap .u8 (Int.tmod (↑(UInt8.toNat (byteAt b j)) : Int) 255 + 1))]) (kp 22 (.string (ByteArray.mk #[UInt8.ofNat (Int.toNat (IntKind.wrap .u8 (Int.tmod (↑(UInt8.toNat (byteAt b j)) : Int) 255 + 1)))])) (kp 23 (.string (ByteArray.extract b 0 (Int.toNat (↑j : Int)) ++ ByteArray.mk #[UInt8.ofNat (Int.toNat (IntKind.wrap .u8 (Int.tmod (↑(UInt8.toNat (byteAt b j)) : Int) 255 + 1)))])) (kp 24 (.string b) (kp 25 (vI j) ?_)) (hop := fun _ => o_add s1)))))) (hop := fun _ => o_indexStr (of_decide_eq_true (by kernel_rfl)) hv)))) (hop := fun _ => o_cut_hi h1))))))))))))))))))))) (hop := fun _ => by_fact c0)))))))))))
  refine kp 26 (vI (IntKind.wrap .i64 ((↑j : Int) + 1))) (kp 27 (.string (ByteArray.extract b (Int.toNat (IntKind.wrap .i64 ((↑j : Int) + 1))) (ByteArray.size b))) (kp 28 (.string (ByteArray.extract b 0 (Int.toNat (↑j : Int)) ++ ByteArray.mk #[UInt8.ofNat (Int.toNat (IntKind.wrap .u8 (Int.tmod (↑(UInt8.toNat (byteAt b j)) : Int) 255 + 1)))] ++ ByteArray.extract b (Int.toNat (IntKind.wrap .i64 ((↑j : Int) + 1))) (ByteArray.size b))) (kp 4 (.string (ByteArray.extract b 0 (Int.toNat (↑j : Int)) ++ ByteArray.mk #[UInt8.ofNat (Int.toNat (IntKind.wrap .u8 (Int.tmod (↑(UInt8.toNat (byteAt b j)) : Int) 255 + 1)))] ++ ByteArray.extract b (Int.toNat (IntKind.wrap .i64 ((↑j : Int) + 1))) (ByteArray.size b))) (kp 5 (vI 0) (WpOps.nil (thenK_at (Wp.ret (endK_retn [Value.string (ByteArray.extract b 0 (Int.toNat (↑j : Int)) ++ ByteArray.mk #[UInt8.ofNat (Int.toNat (IntKind.wrap IntKind.u8 (Int.tmod (↑(UInt8.toNat (byteAt b j)) : Int) 255 + 1)))] ++ ByteArray.extract b (Int.toNat (IntKind.wrap IntKind.i64 ((↑j : Int) + 1))) (ByteArray.size b)), vI 0] (Value.tuple #[Value.string (ByteArray.extract b 0 (Int.toNat (↑j : Int)) ++ ByteArray.mk #[UInt8.ofNat (Int.toNat (IntKind.wrap IntKind.u8 (Int.tmod (↑(UInt8.toNat (byteAt b j)) : Int) 255 + 1)))] ++ ByteArray.extract b (Int.toNat (IntKind.wrap IntKind.i64 ((↑j : Int) + 1))) (ByteArray.size b)), vI 0]) (by kernel_rfl) (by kernel_rfl) ?_)))))) (hop := fun _ => o_add s3)) (hop := fun _ => o_cut_lo s2))
  rw [w1]
  rfl
theorem f5 : E.funcs 5 = some Try.f5 := by kernel_rfl
theorem law5 (k g s r : Int) (d : ByteArray) (x : Int) : Fun E 5 [cv k g s r d, .int .i64 x] (.bool true) := by
  refine Fun.of f5 rfl (of_decide_eq_true (by kernel_rfl)) rfl ?_
  have c1 := frame10 k g s r d
  have c3 := sane12
  by_cases h : Fit k g s r d.size
  · rw [frame, if_pos h] at c1
    have hs := frm_size k g s r d
    have hd := h.2.2.2.2.2.2
    have z0 : (((summed (fr3 k g s r ++ d)).size : Int) == 0) = false := beq_eq_false_iff_ne.2 (by unfold frm at hs; omega)
    obtain ⟨m1, m2⟩ := modN_in x (frm k g s r d).size (by omega)
    obtain ⟨j, hj⟩ : ∃ j : Nat, modN x (frm k g s r d).size = j := ⟨(modN x (frm k g s r d).size).toNat, by omega⟩
    have c4 := mod16 x (frm k g s r d).size (by omega) (by omega)
    rw [hj] at c4
    have c5 := spoil15 (frm k g s r d) j (by omega) (by omega)
    have c6 := read13 (spo (frm k g s r d) j)
    have hn : ¬ RdOk (spo (frm k g s r d) j) := fun h => by
      have h1 := h.2.1
      rw [frm, spoilt_sum _ j (by unfold frm at hj m2; omega)] at h1
      cases h1
    rw [rdV, if_neg hn] at c6
    unfold frm at c4 c5 c6
    refine Wp.seq (Wp.text (md 2 (vP 0 0) (Blk.mk 23 true [vI k, vI g, vI s, vI r, Value.string d]) (kp 4 vF (WpOps.nil (thenK_at (Wp.seq (Wp.text (kp 10 (vP 0 0) (kp 11 (vI k) (kp 12 (vP 0 1) (kp 13 (vI g) (kp 14 (vP 0 2) (kp 15 (vI s) (kp 16 (vP 0 3) (kp 17 (vI r) (kp 18 (vP 0 4) (kp 19 (.string d) (fr 20 10 [vI k, vI g, vI s, vI r, Value.string d] (WpFun.of (c1) (kp 9 (.tuple #[Value.string (summed (fr3 k g s r ++ d)), vI 0]) (kp 21 (.string (summed (fr3 k g s r ++ d))) (kp 22 (vI 0) (kp 5 (.string (summed (fr3 k g s r ++ d))) (kp 6 (vI 0) (WpOps.nil (thenK_at (Wp.seq (Wp.seq (Wp.text (kp 23 (vI 0) (kp 24 vF (WpOps.nil (thenK_at (off' (Wp.skip (thenK_at (Wp.seq (Wp.seq (Wp.text (kp 26 (.string (summed (fr3 k g s r ++ d))) (kp 27 (vI (ByteArray.size (summed (fr3 k g s r ++ d)))) (kp 28 (.bool ((↑(ByteArray.size (summed (fr3 k g s r ++ d))) : Int) == 0)) (WpOps.nil (thenK_at (off' (Wp.skip (thenK_at (Wp.seq (Wp.text (kp 30 (.string (summed (fr3 k g s r ++ d))) (kp 31 (vI x) (kp 32 (.string (summed (fr3 k g s r ++ d))) (kp 33 (vI (ByteArray.size (summed (fr3 k g s r ++ d)))) (fr 34 16 [vI x, vI (ByteArray.size (summed (fr3 k g s r ++ d)))] ?_))))))))))))))))))))))))))))))))))))))))))))))))))))))
    refine WpFun.of (c4) (fr 35 15 [Value.string (summed (fr3 k g s r ++ d)), vI j] (WpFun.of (c5) (kp 29 (.tuple #[Value.string (spo (summed (fr3 k g s r ++ d)) j), vI 0]) (kp 36 (.string (spo (summed (fr3 k g s r ++ d)) j)) (kp 37 (vI 0) (kp 7 (.string (spo (summed (fr3 k g s r ++ d)) j)) (kp 8 (vI 0) (WpOps.nil (thenK_at (Wp.seq (Wp.text (kp 39 (.string (spo (summed (fr3 k g s r ++ d)) j)) (fr 40 13 [Value.string (spo (summed (fr3 k g s r ++ d)) j)] (WpFun.of (c6) (kp 38 (.tuple #[vI 0, vI 0, vI 0, vI 0, Value.string ByteArray.empty, vI 4]) (kp 41 (vI 0) (kp 42 (vI 0) (kp 43 (vI 0) (kp 44 (vI 0) (kp 45 (.string ByteArray.empty) (kp 46 (vI 4) (kp 6 (vI 4) (WpOps.nil (thenK_at (Wp.seq (Wp.text (kp 47 (vI 4) (kp 48 vT (kp 49 vT (fr 50 12 [] (WpFun.of (c3) (kp 51 vT (kp 4 vT (WpOps.nil (thenK_at (Wp.ret (endK_retn [vT] vT (by kernel_rfl) (by kernel_rfl) ?_)))))))))))))))))))))))))))))))))))))
    kernel_rfl
  · rw [frame, if_neg h] at c1
    refine Wp.seq (Wp.text (md 2 (vP 0 0) (Blk.mk 23 true [vI k, vI g, vI s, vI r, Value.string d]) (kp 4 vF (WpOps.nil (thenK_at (Wp.seq (Wp.text (kp 10 (vP 0 0) (kp 11 (vI k) (kp 12 (vP 0 1) (kp 13 (vI g) (kp 14 (vP 0 2) (kp 15 (vI s) (kp 16 (vP 0 3) (kp 17 (vI r) (kp 18 (vP 0 4) (kp 19 (.string d) (fr 20 10 [vI k, vI g, vI s, vI r, Value.string d] (WpFun.of (c1) (kp 9 (.tuple #[Value.string ByteArray.empty, vI 1]) (kp 21 (.string ByteArray.empty) (kp 22 (vI 1) (kp 5 (.string ByteArray.empty) (kp 6 (vI 1) (WpOps.nil (thenK_at (Wp.seq (Wp.seq (Wp.text (kp 23 (vI 1) (kp 24 vT (WpOps.nil (thenK_at (on' (Wp.seq (Wp.text (fr 25 12 [] (WpFun.of (c3) (kp 4 vT (WpOps.nil (thenK_at (Wp.ret (thenK_ret (endK_retn [vT] vT (by kernel_rfl) (by kernel_rfl) ?_))))))))))))))))))))))))))))))))))))))))))))
    kernel_rfl
end Go.Proofs.Ytgefohjickhldaa.D
