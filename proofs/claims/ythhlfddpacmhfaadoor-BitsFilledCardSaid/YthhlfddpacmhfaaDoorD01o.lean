/- The law BitsFilled. -/
import Derived.Test.YthhlfddpacmhfaaDoorFwLem
import Derived.Test.YthhlfddpacmhfaaDoorD01n
import Derived.Test.YthhlfddpacmhfaaDoorD01m
namespace Go.Proofs.YthhlfddpacmhfaaDoor.D
open Go.Fw Go.RowKit

theorem numN_down (s : ByteArray) (p k : Nat) : ∀ d, numN s p (k + d) / 2 ^ d = numN s p k
  | 0 => by simp
  | d + 1 => by
    have hb := bitN_le (byteAt s (p + (k + d)))
    rw [← Nat.add_assoc, numN, Nat.pow_succ, Nat.mul_comm (2 ^ d) 2, ← Nat.div_div_eq_div_mul, show (2 * numN s p (k + d) + bitN (byteAt s (p + (k + d)))) / 2 = numN s p (k + d) by omega, numN_down s p k d]
theorem numN_bit (s : ByteArray) (p j : Nat) (h : j < 8) : numN s p 8 / 2 ^ (7 - j) % 2 = bitN (byteAt s (p + j)) := by
  have e := numN_down s p (j + 1) (7 - j)
  rw [show j + 1 + (7 - j) = 8 by omega] at e
  have hb := bitN_le (byteAt s (p + j))
  rw [e, numN]
  omega
theorem full_back (s : ByteArray) (hv : VP s) : unS (pk s) (pkN s) = s ++ zer (gap s.size 8) := by
  have hg := gap_eq s.size 8 (by decide)
  have hN : pkN s = (s.size + 7) / 8 := rfl
  have hsz : 8 * pkN s = s.size + gap s.size 8 := by
    rw [hg]
    split <;> omega
  have hz : (zer (gap s.size 8)).size = gap s.size 8 := mkB_size _ _
  refine ext_at ?_ fun i hi => ?_
  · rw [unS_size, ByteArray.size_append, hz, hsz]
  · rw [unS_size] at hi
    rw [unS_at _ _ _ hi]
    have e1 : byteAt (pk s) (i / 8) = pkF s (i / 8) := mkB_at _ _ _ (by omega)
    have e2 : (pkF s (i / 8)).toNat = numN s (8 * (i / 8)) 8 := by
      have h := numN_lt s (8 * (i / 8)) 8
      unfold pkF
      rw [UInt8.toNat_ofNat', Nat.mod_eq_of_lt h]
    have e3 := numN_bit s (8 * (i / 8)) (i % 8) (by omega)
    rw [show 8 * (i / 8) + i % 8 = i by omega] at e3
    unfold wB
    rw [e1, e2, show 8 - 1 - i % 8 = 7 - i % 8 by omega, e3]
    by_cases h : i < s.size
    · rw [byteAt_left _ _ _ h]
      rcases hv.2 i h with h1 | h1 <;> rw [h1] <;> rfl
    · obtain ⟨k, rfl⟩ : ∃ k, i = s.size + k := ⟨i - s.size, by omega⟩
      rw [byteAt_right, byteAt_out s _ (by omega)]
      have : byteAt (zer (gap s.size 8)) k = 48 := mkB_at _ _ _ (by omega)
      rw [this]
      rfl
theorem flS_size (s : ByteArray) (k : Nat) : (flS s k).size = s.size := mkB_size _ _
theorem flS_at (s : ByteArray) (k i : Nat) (h : i < s.size) : byteAt (flS s k) i = if i = k then flB (byteAt s i) else byteAt s i := mkB_at _ _ _ h
theorem flB_ok (b : UInt8) : flB b = 48 ∨ flB b = 49 := by
  unfold flB
  split
  · exact .inl rfl
  · exact .inr rfl
theorem flS_VP (s : ByteArray) (k : Nat) (hv : VP s) : VP (flS s k) := by
  refine ⟨by rw [flS_size]; exact hv.1, fun i hi => ?_⟩
  rw [flS_size] at hi
  rw [flS_at s k i hi]
  split
  · exact flB_ok _
  · exact hv.2 i hi
theorem flS_twice (s : ByteArray) (k : Nat) (hv : VP s) : flS (flS s k) k = s := by
  refine ext_at (by rw [flS_size, flS_size]) fun i hi => ?_
  rw [flS_size, flS_size] at hi
  rw [flS_at _ _ _ (by rw [flS_size]; exact hi), flS_at _ _ _ hi]
  split
  · unfold flB
    rcases hv.2 i hi with h | h <;> rw [h] <;> rfl
  · rfl
theorem ones_flip (s : ByteArray) (k : Nat) (hk : k < s.size) : ∀ m, m ≤ s.size → onesN (flS s k) m + (if k < m then bitN (byteAt s k) else 0) = onesN s m + (if k < m then bitN (flB (byteAt s k)) else 0)
  | 0, _ => rfl
  | m + 1, h => by
    have ih := ones_flip s k hk m (by omega)
    rw [onesN_succ _ m (by rw [flS_size]; omega), onesN_succ s m (by omega), flS_at s k m (by omega)]
    by_cases e : m = k
    · subst e
      have n1 : ¬ m < m := Nat.lt_irrefl m
      have n2 : m < m + 1 := Nat.lt_succ_self m
      rw [if_neg n1, if_neg n1] at ih
      rw [if_pos n2, if_pos n2, if_pos (rfl : m = m)]
      unfold bitN
      omega
    · rw [if_neg e]
      by_cases h1 : k < m
      · have n2 : k < m + 1 := by omega
        rw [if_pos h1, if_pos h1] at ih
        rw [if_pos n2, if_pos n2]
        omega
      · have n2 : ¬ k < m + 1 := by omega
        rw [if_neg h1, if_neg h1] at ih
        rw [if_neg n2, if_neg n2]
        omega
theorem ones_near (s : ByteArray) (k : Nat) (hk : k < s.size) (hv : VP s) : onesN s s.size = onesN (flS s k) s.size + 1 ∨ onesN (flS s k) s.size = onesN s s.size + 1 := by
  have h := ones_flip s k hk s.size (Nat.le_refl _)
  rw [if_pos hk, if_pos hk] at h
  rcases hv.2 k hk with e | e <;> rw [e] at h
  · rw [show bitN 48 = 0 from rfl, show bitN (flB 48) = 1 from rfl] at h
    omega
  · rw [show bitN 49 = 1 from rfl, show bitN (flB 49) = 0 from rfl] at h
    omega
theorem f6 : E.funcs 6 = some Tryd.f6 := by kernel_rfl
theorem law6 (s : ByteArray) (a : Int) (hs : s.size ≤ 140737488351232) : Fun E 6 [.string s, .int .i64 a] (.bool true) := by
  refine Fun.of f6 rfl (of_decide_eq_true (by kernel_rfl)) rfl ?_
  have c1 := valid12 s hs
  have c0 := sane13
  by_cases hv : VP s
  · rw [decide_eq_true hv] at c1
    have hv1 := hv.1
    have c2 : Fun E 20 [.string s] (.tuple #[.string (pk s), .int .i64 0]) := by
      have h := pack20 s hs
      unfold packV at h
      rwa [if_pos hv] at h
    have z1 : (pk s).size = pkN s := mkB_size _ _
    have hN : pkN s = (s.size + 7) / 8 := rfl
    have c3 : Fun E 28 [.string (pk s)] (.tuple #[.string (s ++ zer (gap s.size 8)), .int .i64 0]) := by
      have h := unpack28 (pk s)
      unfold unpackV at h
      rwa [if_pos (by omega), z1, full_back s hv] at h
    have hg := gap_eq s.size 8 (by decide)
    have hg2 : s.size + gap s.size 8 ≤ 32000 := by
      rw [hg]
      split <;> omega
    have c4 : Fun E 22 [.string s, .int .i64 8] (.tuple #[.string (s ++ zer (gap s.size 8)), .int .i64 0]) := by
      have h := fill22 s 8 hs
      unfold fillV at h
      rw [if_pos ⟨hv, by decide, by decide⟩] at h
      rwa [show (8 : Int).toNat = 8 from rfl, if_pos hg2] at h
    have d1 : (!((s ++ zer (gap s.size 8)).toList == (s ++ zer (gap s.size 8)).toList)) = false := by rw [beq_self_eq_true]; rfl
    by_cases h0 : s.size = 0
    · have e0 : s = ⟨#[]⟩ := ext_at h0 fun i hi => absurd hi (by omega)
      have d2 : (s.toList == ByteArray.toList ⟨#[]⟩) = true := by rw [e0]; exact beq_self_eq_true _
      refine Wp.seq (Wp.text ?_)
      refine kp 4 (.bool false) ?_
      refine WpOps.nil (thenK_at (Wp.seq (Wp.seq (Wp.text ?_))))
      refine kp 14 (.string s) ?_
      refine fr 15 12 [Value.string s] ?_
      refine WpFun.of (c1) ?_
      refine kp 16 (.bool false) ?_
      refine WpOps.nil (thenK_at (off' (Wp.skip (thenK_at (Wp.seq (Wp.text ?_))))))
      refine kp 19 (.string s) ?_
      refine fr 20 20 [Value.string s] ?_
      refine WpFun.of (c2) ?_
      refine kp 18 (.tuple #[Value.string (pk s), Value.int .i64 0]) ?_
      refine kp 21 (.string (pk s)) ?_
      refine kp 22 (.int IntKind.i64 0) ?_
      refine kp 5 (.string (pk s)) ?_
      refine kp 6 (.int IntKind.i64 0) ?_
      refine WpOps.nil (thenK_at (Wp.seq (Wp.seq (Wp.text ?_))))
      refine kp 23 (.int IntKind.i64 0) ?_
      refine kp 24 (.bool false) ?_
      refine WpOps.nil (thenK_at (off' (Wp.skip (thenK_at (Wp.seq (Wp.text ?_))))))
      refine kp 26 (.string (pk s)) ?_
      refine fr 27 28 [Value.string (pk s)] ?_
      refine WpFun.of (c3) ?_
      refine kp 25 (.tuple #[Value.string (s ++ zer (gap (ByteArray.size s) 8)), Value.int .i64 0]) ?_
      refine kp 28 (.string (s ++ zer (gap (ByteArray.size s) 8))) ?_
      refine kp 29 (.int IntKind.i64 0) ?_
      refine kp 7 (.string (s ++ zer (gap (ByteArray.size s) 8))) ?_
      refine kp 6 (.int IntKind.i64 0) ?_
      refine WpOps.nil (thenK_at (Wp.seq (Wp.seq (Wp.text ?_))))
      refine kp 30 (.int IntKind.i64 0) ?_
      refine kp 31 (.bool false) ?_
      refine WpOps.nil (thenK_at (off' (Wp.skip (thenK_at (Wp.seq (Wp.text ?_))))))
      refine kp 33 (.string s) ?_
      refine fr 34 22 [Value.string s, Value.int .i64 8] ?_
      refine WpFun.of (c4) ?_
      refine kp 32 (.tuple #[Value.string (s ++ zer (gap (ByteArray.size s) 8)), Value.int .i64 0]) ?_
      refine kp 35 (.string (s ++ zer (gap (ByteArray.size s) 8))) ?_
      refine kp 36 (.int IntKind.i64 0) ?_
      refine kp 8 (.string (s ++ zer (gap (ByteArray.size s) 8))) ?_
      refine kp 6 (.int IntKind.i64 0) ?_
      refine WpOps.nil (thenK_at (Wp.seq (Wp.seq (Wp.text ?_))))
      refine kp 37 (.int IntKind.i64 0) ?_
      refine kp 38 (.bool false) ?_
      refine kp 39 (.bool false) ?_
      refine kp 40 (.string (s ++ zer (gap (ByteArray.size s) 8))) ?_
      refine kp 41 (.string (s ++ zer (gap (ByteArray.size s) 8))) ?_
      refine kp 42 (.bool false) ?_ (hop := fun _ => by_fact d1)
      refine kp 43 (.bool false) ?_
      refine WpOps.nil (thenK_at (off' (Wp.skip (thenK_at (Wp.seq (Wp.seq (Wp.text ?_)))))))
      refine kp 44 (.string s) ?_
      refine kp 45 (.bool true) ?_ (hop := fun _ => by_fact d2)
      refine WpOps.nil (thenK_at (on' (Wp.seq (Wp.text ?_))))
      refine fr 46 13 [] ?_
      refine WpFun.of (c0) ?_
      refine kp 4 (.bool true) ?_
      refine WpOps.nil (thenK_at (Wp.ret (thenK_ret ?_)))
      refine endK_retn [Value.bool true] (Value.bool true) (by kernel_rfl) (by kernel_rfl) ?_
      rfl
    · have d2 : (s.toList == ByteArray.toList ⟨#[]⟩) = false := by
        rw [beq_str]
        exact decide_eq_false fun e => h0 (by rw [e]; rfl)
      have c5 := mod14 a s.size (by omega) (by omega)
      have hk : modP a s.size < s.size := by
        unfold modP
        have := Int.emod_lt_of_pos a (b := (s.size : Int)) (by omega)
        have := Int.emod_nonneg a (b := (s.size : Int)) (by omega)
        omega
      generalize modP a s.size = k at c5 hk
      have c6 : Fun E 24 [.string s, .int .i64 k] (.tuple #[.string (flS s k), .int .i64 0]) := by
        have h := flip24 s k hs
        unfold flipV at h
        rwa [if_pos ⟨hv, by omega, by omega⟩] at h
      have c7 : Fun E 24 [.string (flS s k), .int .i64 k] (.tuple #[.string s, .int .i64 0]) := by
        have h := flip24 (flS s k) k (by rw [flS_size]; exact hs)
        unfold flipV at h
        rw [if_pos ⟨flS_VP s k hv, by omega, by rw [flS_size]; omega⟩] at h
        rw [show ((k : Int)).toNat = k from rfl, flS_twice s k hv] at h
        exact h
      have c8 : Fun E 26 [.string s] (.tuple #[.int .i64 (onesN s s.size), .int .i64 0]) := by
        have h := ones26 s hs
        unfold onesV at h
        rwa [if_pos hv] at h
      have c9 : Fun E 26 [.string (flS s k)] (.tuple #[.int .i64 (onesN (flS s k) s.size), .int .i64 0]) := by
        have h := ones26 (flS s k) (by rw [flS_size]; exact hs)
        unfold onesV at h
        rwa [if_pos (flS_VP s k hv), flS_size] at h
      have d3 : (!(s.toList == s.toList)) = false := by rw [beq_self_eq_true]; rfl
      have hn := ones_near s k hk hv
      have l1 := onesN_le s s.size
      have l2 := onesN_le (flS s k) s.size
      have w1 : IntKind.i64.wrap ((onesN s s.size : Int) + 1) = (onesN s s.size : Int) + 1 := wr _ (by omega) (by omega)
      have w2 : IntKind.i64.wrap ((onesN (flS s k) s.size : Int) + 1) = (onesN (flS s k) s.size : Int) + 1 := wr _ (by omega) (by omega)
      rcases hn with hn | hn
      · have d4 : ((onesN s s.size : Int) == IntKind.i64.wrap ((onesN (flS s k) s.size : Int) + 1)) = true := by rw [w2]; exact beq_iff_eq.2 (by omega)
        refine Wp.seq (Wp.text ?_)
        refine kp 4 (.bool false) ?_
        refine WpOps.nil (thenK_at (Wp.seq (Wp.seq (Wp.text ?_))))
        refine kp 14 (.string s) ?_
        refine fr 15 12 [Value.string s] ?_
        refine WpFun.of (c1) ?_
        refine kp 16 (.bool false) ?_
        refine WpOps.nil (thenK_at (off' (Wp.skip (thenK_at (Wp.seq (Wp.text ?_))))))
        refine kp 19 (.string s) ?_
        refine fr 20 20 [Value.string s] ?_
        refine WpFun.of (c2) ?_
        refine kp 18 (.tuple #[Value.string (pk s), Value.int .i64 0]) ?_
        refine kp 21 (.string (pk s)) ?_
        refine kp 22 (.int IntKind.i64 0) ?_
        refine kp 5 (.string (pk s)) ?_
        refine kp 6 (.int IntKind.i64 0) ?_
        refine WpOps.nil (thenK_at (Wp.seq (Wp.seq (Wp.text ?_))))
        refine kp 23 (.int IntKind.i64 0) ?_
        refine kp 24 (.bool false) ?_
        refine WpOps.nil (thenK_at (off' (Wp.skip (thenK_at (Wp.seq (Wp.text ?_))))))
        refine kp 26 (.string (pk s)) ?_
        refine fr 27 28 [Value.string (pk s)] ?_
        refine WpFun.of (c3) ?_
        refine kp 25 (.tuple #[Value.string (s ++ zer (gap (ByteArray.size s) 8)), Value.int .i64 0]) ?_
        refine kp 28 (.string (s ++ zer (gap (ByteArray.size s) 8))) ?_
        refine kp 29 (.int IntKind.i64 0) ?_
        refine kp 7 (.string (s ++ zer (gap (ByteArray.size s) 8))) ?_
        refine kp 6 (.int IntKind.i64 0) ?_
        refine WpOps.nil (thenK_at (Wp.seq (Wp.seq (Wp.text ?_))))
        refine kp 30 (.int IntKind.i64 0) ?_
        refine kp 31 (.bool false) ?_
        refine WpOps.nil (thenK_at (off' (Wp.skip (thenK_at (Wp.seq (Wp.text ?_))))))
        refine kp 33 (.string s) ?_
        refine fr 34 22 [Value.string s, Value.int .i64 8] ?_
        refine WpFun.of (c4) ?_
        refine kp 32 (.tuple #[Value.string (s ++ zer (gap (ByteArray.size s) 8)), Value.int .i64 0]) ?_
        refine kp 35 (.string (s ++ zer (gap (ByteArray.size s) 8))) ?_
        refine kp 36 (.int IntKind.i64 0) ?_
        refine kp 8 (.string (s ++ zer (gap (ByteArray.size s) 8))) ?_
        refine kp 6 (.int IntKind.i64 0) ?_
        refine WpOps.nil (thenK_at (Wp.seq (Wp.seq (Wp.text ?_))))
        refine kp 37 (.int IntKind.i64 0) ?_
        refine kp 38 (.bool false) ?_
        refine kp 39 (.bool false) ?_
        refine kp 40 (.string (s ++ zer (gap (ByteArray.size s) 8))) ?_
        refine kp 41 (.string (s ++ zer (gap (ByteArray.size s) 8))) ?_
        refine kp 42 (.bool false) ?_ (hop := fun _ => by_fact d1)
        refine kp 43 (.bool false) ?_
        refine WpOps.nil (thenK_at (off' (Wp.skip (thenK_at (Wp.seq (Wp.seq (Wp.text ?_)))))))
        refine kp 44 (.string s) ?_
        refine kp 45 (.bool false) ?_ (hop := fun _ => by_fact d2)
        refine WpOps.nil (thenK_at (off' (Wp.skip (thenK_at (Wp.seq (Wp.text ?_))))))
        refine kp 47 (.int IntKind.i64 a) ?_
        refine kp 48 (.string s) ?_
        refine kp 49 (.int IntKind.i64 (↑(ByteArray.size s) : Int)) ?_
        refine fr 50 14 [Value.int .i64 a, Value.int .i64 (↑(ByteArray.size s) : Int)] ?_
        refine WpFun.of (c5) ?_
        refine kp 1 (.int IntKind.i64 (↑k : Int)) ?_
        refine WpOps.nil (thenK_at (Wp.seq (Wp.text ?_)))
        refine kp 52 (.string s) ?_
        refine kp 53 (.int IntKind.i64 (↑k : Int)) ?_
        refine fr 54 24 [Value.string s, Value.int .i64 (↑k : Int)] ?_
        refine WpFun.of (c6) ?_
        refine kp 51 (.tuple #[Value.string (flS s k), Value.int .i64 0]) ?_
        refine kp 55 (.string (flS s k)) ?_
        refine kp 56 (.int IntKind.i64 0) ?_
        refine kp 9 (.string (flS s k)) ?_
        refine kp 6 (.int IntKind.i64 0) ?_
        refine WpOps.nil (thenK_at (Wp.seq (Wp.seq (Wp.text ?_))))
        refine kp 57 (.int IntKind.i64 0) ?_
        refine kp 58 (.bool false) ?_
        refine WpOps.nil (thenK_at (off' (Wp.skip (thenK_at (Wp.seq (Wp.text ?_))))))
        refine kp 60 (.string (flS s k)) ?_
        refine kp 61 (.int IntKind.i64 (↑k : Int)) ?_
        refine fr 62 24 [Value.string (flS s k), Value.int .i64 (↑k : Int)] ?_
        refine WpFun.of (c7) ?_
        refine kp 59 (.tuple #[Value.string s, Value.int .i64 0]) ?_
        refine kp 63 (.string s) ?_
        refine kp 64 (.int IntKind.i64 0) ?_
        refine kp 10 (.string s) ?_
        refine kp 6 (.int IntKind.i64 0) ?_
        refine WpOps.nil (thenK_at (Wp.seq (Wp.seq (Wp.text ?_))))
        refine kp 65 (.int IntKind.i64 0) ?_
        refine kp 66 (.bool false) ?_
        refine kp 67 (.bool false) ?_
        refine kp 68 (.string s) ?_
        refine kp 69 (.string s) ?_
        refine kp 70 (.bool false) ?_ (hop := fun _ => by_fact d3)
        refine kp 71 (.bool false) ?_
        refine WpOps.nil (thenK_at (off' (Wp.skip (thenK_at (Wp.seq (Wp.text ?_))))))
        refine kp 73 (.string s) ?_
        refine fr 74 26 [Value.string s] ?_
        refine WpFun.of (c8) ?_
        refine kp 72 (.tuple #[Value.int .i64 (↑(onesN s (ByteArray.size s)) : Int), Value.int .i64 0]) ?_
        refine kp 75 (.int IntKind.i64 (↑(onesN s (ByteArray.size s)) : Int)) ?_
        refine kp 76 (.int IntKind.i64 0) ?_
        refine kp 11 (.int IntKind.i64 (↑(onesN s (ByteArray.size s)) : Int)) ?_
        refine kp 6 (.int IntKind.i64 0) ?_
        refine WpOps.nil (thenK_at (Wp.seq (Wp.text ?_)))
        refine kp 78 (.string (flS s k)) ?_
        refine fr 79 26 [Value.string (flS s k)] ?_
        refine WpFun.of (c9) ?_
        refine kp 77 (.tuple #[Value.int .i64 (↑(onesN (flS s k) (ByteArray.size s)) : Int), Value.int .i64 0]) ?_
        refine kp 80 (.int IntKind.i64 (↑(onesN (flS s k) (ByteArray.size s)) : Int)) ?_
        refine kp 81 (.int IntKind.i64 0) ?_
        refine kp 12 (.int IntKind.i64 (↑(onesN (flS s k) (ByteArray.size s)) : Int)) ?_
        refine kp 13 (.int IntKind.i64 0) ?_
        refine WpOps.nil (thenK_at (Wp.seq (Wp.text ?_)))
        refine kp 82 (.int IntKind.i64 0) ?_
        refine kp 83 (.bool true) ?_
        refine kp 84 (.bool true) ?_
        refine kp 85 (.int IntKind.i64 0) ?_
        refine kp 86 (.bool true) ?_
        refine kp 87 (.bool true) ?_
        refine kp 88 (.bool true) ?_
        refine kp 89 (.int IntKind.i64 (↑(onesN s (ByteArray.size s)) : Int)) ?_
        refine kp 90 (.int IntKind.i64 (↑(onesN (flS s k) (ByteArray.size s)) : Int)) ?_
        refine kp 91 (.int IntKind.i64 (IntKind.wrap .i64 ((↑(onesN (flS s k) (ByteArray.size s)) : Int) + 1))) ?_
        refine kp 92 (.bool true) ?_ (hop := fun _ => by_fact d4)
        refine kp 93 (.bool true) ?_
        refine um 94 ?_
        refine um 95 ?_
        refine um 96 ?_
        refine um 97 ?_
        refine kp 98 (.bool true) ?_
        refine kp 99 (.bool true) ?_
        refine kp 100 (.bool true) ?_
        refine fr 101 13 [] ?_
        refine WpFun.of (c0) ?_
        refine kp 102 (.bool true) ?_
        refine kp 4 (.bool true) ?_
        refine WpOps.nil (thenK_at (Wp.ret ?_))
        refine endK_retn [Value.bool true] (Value.bool true) (by kernel_rfl) (by kernel_rfl) ?_
        rfl
      · have d4 : ((onesN s s.size : Int) == IntKind.i64.wrap ((onesN (flS s k) s.size : Int) + 1)) = false := by rw [w2]; exact beq_eq_false_iff_ne.2 (by omega)
        have d5 : ((onesN (flS s k) s.size : Int) == IntKind.i64.wrap ((onesN s s.size : Int) + 1)) = true := by rw [w1]; exact beq_iff_eq.2 (by omega)
        refine Wp.seq (Wp.text ?_)
        refine kp 4 (.bool false) ?_
        refine WpOps.nil (thenK_at (Wp.seq (Wp.seq (Wp.text ?_))))
        refine kp 14 (.string s) ?_
        refine fr 15 12 [Value.string s] ?_
        refine WpFun.of (c1) ?_
        refine kp 16 (.bool false) ?_
        refine WpOps.nil (thenK_at (off' (Wp.skip (thenK_at (Wp.seq (Wp.text ?_))))))
        refine kp 19 (.string s) ?_
        refine fr 20 20 [Value.string s] ?_
        refine WpFun.of (c2) ?_
        refine kp 18 (.tuple #[Value.string (pk s), Value.int .i64 0]) ?_
        refine kp 21 (.string (pk s)) ?_
        refine kp 22 (.int IntKind.i64 0) ?_
        refine kp 5 (.string (pk s)) ?_
        refine kp 6 (.int IntKind.i64 0) ?_
        refine WpOps.nil (thenK_at (Wp.seq (Wp.seq (Wp.text ?_))))
        refine kp 23 (.int IntKind.i64 0) ?_
        refine kp 24 (.bool false) ?_
        refine WpOps.nil (thenK_at (off' (Wp.skip (thenK_at (Wp.seq (Wp.text ?_))))))
        refine kp 26 (.string (pk s)) ?_
        refine fr 27 28 [Value.string (pk s)] ?_
        refine WpFun.of (c3) ?_
        refine kp 25 (.tuple #[Value.string (s ++ zer (gap (ByteArray.size s) 8)), Value.int .i64 0]) ?_
        refine kp 28 (.string (s ++ zer (gap (ByteArray.size s) 8))) ?_
        refine kp 29 (.int IntKind.i64 0) ?_
        refine kp 7 (.string (s ++ zer (gap (ByteArray.size s) 8))) ?_
        refine kp 6 (.int IntKind.i64 0) ?_
        refine WpOps.nil (thenK_at (Wp.seq (Wp.seq (Wp.text ?_))))
        refine kp 30 (.int IntKind.i64 0) ?_
        refine kp 31 (.bool false) ?_
        refine WpOps.nil (thenK_at (off' (Wp.skip (thenK_at (Wp.seq (Wp.text ?_))))))
        refine kp 33 (.string s) ?_
        refine fr 34 22 [Value.string s, Value.int .i64 8] ?_
        refine WpFun.of (c4) ?_
        refine kp 32 (.tuple #[Value.string (s ++ zer (gap (ByteArray.size s) 8)), Value.int .i64 0]) ?_
        refine kp 35 (.string (s ++ zer (gap (ByteArray.size s) 8))) ?_
        refine kp 36 (.int IntKind.i64 0) ?_
        refine kp 8 (.string (s ++ zer (gap (ByteArray.size s) 8))) ?_
        refine kp 6 (.int IntKind.i64 0) ?_
        refine WpOps.nil (thenK_at (Wp.seq (Wp.seq (Wp.text ?_))))
        refine kp 37 (.int IntKind.i64 0) ?_
        refine kp 38 (.bool false) ?_
        refine kp 39 (.bool false) ?_
        refine kp 40 (.string (s ++ zer (gap (ByteArray.size s) 8))) ?_
        refine kp 41 (.string (s ++ zer (gap (ByteArray.size s) 8))) ?_
        refine kp 42 (.bool false) ?_ (hop := fun _ => by_fact d1)
        refine kp 43 (.bool false) ?_
        refine WpOps.nil (thenK_at (off' (Wp.skip (thenK_at (Wp.seq (Wp.seq (Wp.text ?_)))))))
        refine kp 44 (.string s) ?_
        refine kp 45 (.bool false) ?_ (hop := fun _ => by_fact d2)
        refine WpOps.nil (thenK_at (off' (Wp.skip (thenK_at (Wp.seq (Wp.text ?_))))))
        refine kp 47 (.int IntKind.i64 a) ?_
        refine kp 48 (.string s) ?_
        refine kp 49 (.int IntKind.i64 (↑(ByteArray.size s) : Int)) ?_
        refine fr 50 14 [Value.int .i64 a, Value.int .i64 (↑(ByteArray.size s) : Int)] ?_
        refine WpFun.of (c5) ?_
        refine kp 1 (.int IntKind.i64 (↑k : Int)) ?_
        refine WpOps.nil (thenK_at (Wp.seq (Wp.text ?_)))
        refine kp 52 (.string s) ?_
        refine kp 53 (.int IntKind.i64 (↑k : Int)) ?_
        refine fr 54 24 [Value.string s, Value.int .i64 (↑k : Int)] ?_
        refine WpFun.of (c6) ?_
        refine kp 51 (.tuple #[Value.string (flS s k), Value.int .i64 0]) ?_
        refine kp 55 (.string (flS s k)) ?_
        refine kp 56 (.int IntKind.i64 0) ?_
        refine kp 9 (.string (flS s k)) ?_
        refine kp 6 (.int IntKind.i64 0) ?_
        refine WpOps.nil (thenK_at (Wp.seq (Wp.seq (Wp.text ?_))))
        refine kp 57 (.int IntKind.i64 0) ?_
        refine kp 58 (.bool false) ?_
        refine WpOps.nil (thenK_at (off' (Wp.skip (thenK_at (Wp.seq (Wp.text ?_))))))
        refine kp 60 (.string (flS s k)) ?_
        refine kp 61 (.int IntKind.i64 (↑k : Int)) ?_
        refine fr 62 24 [Value.string (flS s k), Value.int .i64 (↑k : Int)] ?_
        refine WpFun.of (c7) ?_
        refine kp 59 (.tuple #[Value.string s, Value.int .i64 0]) ?_
        refine kp 63 (.string s) ?_
        refine kp 64 (.int IntKind.i64 0) ?_
        refine kp 10 (.string s) ?_
        refine kp 6 (.int IntKind.i64 0) ?_
        refine WpOps.nil (thenK_at (Wp.seq (Wp.seq (Wp.text ?_))))
        refine kp 65 (.int IntKind.i64 0) ?_
        refine kp 66 (.bool false) ?_
        refine kp 67 (.bool false) ?_
        refine kp 68 (.string s) ?_
        refine kp 69 (.string s) ?_
        refine kp 70 (.bool false) ?_ (hop := fun _ => by_fact d3)
        refine kp 71 (.bool false) ?_
        refine WpOps.nil (thenK_at (off' (Wp.skip (thenK_at (Wp.seq (Wp.text ?_))))))
        refine kp 73 (.string s) ?_
        refine fr 74 26 [Value.string s] ?_
        refine WpFun.of (c8) ?_
        refine kp 72 (.tuple #[Value.int .i64 (↑(onesN s (ByteArray.size s)) : Int), Value.int .i64 0]) ?_
        refine kp 75 (.int IntKind.i64 (↑(onesN s (ByteArray.size s)) : Int)) ?_
        refine kp 76 (.int IntKind.i64 0) ?_
        refine kp 11 (.int IntKind.i64 (↑(onesN s (ByteArray.size s)) : Int)) ?_
        refine kp 6 (.int IntKind.i64 0) ?_
        refine WpOps.nil (thenK_at (Wp.seq (Wp.text ?_)))
        refine kp 78 (.string (flS s k)) ?_
        refine fr 79 26 [Value.string (flS s k)] ?_
        refine WpFun.of (c9) ?_
        refine kp 77 (.tuple #[Value.int .i64 (↑(onesN (flS s k) (ByteArray.size s)) : Int), Value.int .i64 0]) ?_
        refine kp 80 (.int IntKind.i64 (↑(onesN (flS s k) (ByteArray.size s)) : Int)) ?_
        refine kp 81 (.int IntKind.i64 0) ?_
        refine kp 12 (.int IntKind.i64 (↑(onesN (flS s k) (ByteArray.size s)) : Int)) ?_
        refine kp 13 (.int IntKind.i64 0) ?_
        refine WpOps.nil (thenK_at (Wp.seq (Wp.text ?_)))
        refine kp 82 (.int IntKind.i64 0) ?_
        refine kp 83 (.bool true) ?_
        refine kp 84 (.bool true) ?_
        refine kp 85 (.int IntKind.i64 0) ?_
        refine kp 86 (.bool true) ?_
        refine kp 87 (.bool true) ?_
        refine kp 88 (.bool true) ?_
        refine kp 89 (.int IntKind.i64 (↑(onesN s (ByteArray.size s)) : Int)) ?_
        refine kp 90 (.int IntKind.i64 (↑(onesN (flS s k) (ByteArray.size s)) : Int)) ?_
        refine kp 91 (.int IntKind.i64 (IntKind.wrap .i64 ((↑(onesN (flS s k) (ByteArray.size s)) : Int) + 1))) ?_
        refine kp 92 (.bool false) ?_ (hop := fun _ => by_fact d4)
        refine kp 93 (.bool false) ?_
        refine kp 94 (.int IntKind.i64 (↑(onesN (flS s k) (ByteArray.size s)) : Int)) ?_
        refine kp 95 (.int IntKind.i64 (↑(onesN s (ByteArray.size s)) : Int)) ?_
        refine kp 96 (.int IntKind.i64 (IntKind.wrap .i64 ((↑(onesN s (ByteArray.size s)) : Int) + 1))) ?_
        refine kp 97 (.bool true) ?_ (hop := fun _ => by_fact d5)
        refine kp 98 (.bool true) ?_
        refine kp 99 (.bool true) ?_
        refine kp 100 (.bool true) ?_
        refine fr 101 13 [] ?_
        refine WpFun.of (c0) ?_
        refine kp 102 (.bool true) ?_
        refine kp 4 (.bool true) ?_
        refine WpOps.nil (thenK_at (Wp.ret ?_))
        refine endK_retn [Value.bool true] (Value.bool true) (by kernel_rfl) (by kernel_rfl) ?_
        rfl
  · rw [decide_eq_false hv] at c1
    refine Wp.seq (Wp.text ?_)
    refine kp 4 (.bool false) ?_
    refine WpOps.nil (thenK_at (Wp.seq (Wp.seq (Wp.text ?_))))
    refine kp 14 (.string s) ?_
    refine fr 15 12 [Value.string s] ?_
    refine WpFun.of (c1) ?_
    refine kp 16 (.bool true) ?_
    refine WpOps.nil (thenK_at (on' (Wp.seq (Wp.text ?_))))
    refine fr 17 13 [] ?_
    refine WpFun.of (c0) ?_
    refine kp 4 (.bool true) ?_
    refine WpOps.nil (thenK_at (Wp.ret (thenK_ret ?_)))
    refine endK_retn [Value.bool true] (Value.bool true) (by kernel_rfl) (by kernel_rfl) ?_
    rfl
end Go.Proofs.YthhlfddpacmhfaaDoor.D
