/- Bits: Ones, Fill; the law BitsRows. -/
import Derived.Test.YthhlfddpacmhfaaDoorFwLem
import Derived.Test.YthhlfddpacmhfaaDoorD01k
namespace Go.Proofs.YthhlfddpacmhfaaDoor.D
open Go.Fw Go.RowKit Go.Shelf Go.Lib

theorem extra105 : Go.Proofs.Builder.Extra Tryd.prog ren105 where
  sizeBuilder := by kernel_rfl
  liesBuilder := by kernel_rfl
  t5 := Tryd.underlying5
  a5 := Tryd.isAgg5
  z5 := Tryd.sizeOf5
  v5 := Tryd.zeroValue5
  infoByte := by kernel_rfl
  cellsByte := by kernel_rfl
  sizeByte := by kernel_rfl
  neB5 := by decide
def zer (d : Nat) : ByteArray := mkB d fun _ => 48
theorem rep_zer : ∀ d, Go.Lib.repeatL [48] d = (zer d).data.toList
  | 0 => rfl
  | d + 1 => by
    rw [Go.Lib.repeatL, rep_zer d]
    unfold zer mkB
    simp only [List.map_const', List.length_range]
    rfl
theorem f35 : E.funcs 35 = some Tryd.f35 := by kernel_rfl
theorem repeat35 (d : Nat) (hd : d ≤ 1000) : Fun E 35 [.string ⟨#[48]⟩, .int .i64 d] (.string (zer d)) := by
  have h : Fun E 35 [.string ⟨#[48]⟩, .int .i64 d] (.string ⟨(Go.Lib.repeatL [48] d).toArray⟩) :=
    Fun.lib f35 rfl rfl rfl rfl fun w => Go.Proofs.Any.strings_Repeat lays105 extra105 ⟨#[48]⟩ d w (by omega) (by show 1 * d ≤ _; omega)
  rw [rep_zer] at h
  exact h
theorem f36 : E.funcs 36 = some Tryd.f36 := by kernel_rfl
def onesN (s : ByteArray) (k : Nat) : Nat := (s.data.toList.take k).count 49
theorem onesN_succ (s : ByteArray) (k : Nat) (h : k < s.size) : onesN s (k + 1) = onesN s k + if byteAt s k = 49 then 1 else 0 := by
  unfold onesN
  rw [List.take_add_one, byteAt_get s k h, List.count_append]
  by_cases h9 : byteAt s k = 49
  · rw [h9]; rfl
  · rw [if_neg h9]
    simp [h9]
theorem onesN_le (s : ByteArray) (k : Nat) : onesN s k ≤ k := by
  unfold onesN
  refine Nat.le_trans List.count_le_length ?_
  rw [List.length_take]
  omega
theorem count36 (s : ByteArray) : Fun E 36 [.string s, .string ⟨#[49]⟩] (.int .i64 (onesN s s.size)) := by
  have h : Fun E 36 [.string s, .string ⟨#[49]⟩] (.int .i64 (Go.Lib.countByte s.data.toList 49)) :=
    Fun.lib f36 rfl rfl rfl rfl fun w => (Go.Proofs.Any.strings_Count_one lays138 s 49 w).mono fun e w' ⟨he, hw⟩ => ⟨he, hw ▸ Below.refl _ _⟩
  have e : Go.Lib.countByte s.data.toList 49 = onesN s s.size := by
    unfold Go.Lib.countByte onesN
    rw [List.take_of_length_le (by rw [Array.length_toList]; exact Nat.le_refl _)]
  rw [e] at h
  exact h
def onesV (s : ByteArray) : Value := if VP s then .tuple #[.int .i64 (onesN s s.size), .int .i64 0] else .tuple #[.int .i64 0, .int .i64 1]
theorem f26 : E.funcs 26 = some Tryd.f26 := by kernel_rfl
theorem ones26 (s : ByteArray) (hs : s.size ≤ 140737488351232) : Fun E 26 [.string s] (onesV s) := by
  have c1 := valid11 s hs
  have c2 := count36 s
  unfold onesV
  by_cases hv : VP s
  · rw [decide_eq_true hv] at c1
    rw [if_pos hv]
    refine Fun.of f26 rfl (of_decide_eq_true (by kernel_rfl)) rfl ?_
    refine Wp.seq (Wp.text ?_)
    refine kp 2 (.int IntKind.i64 0) ?_
    refine kp 3 (.int IntKind.i64 0) ?_
    refine WpOps.nil (thenK_at (Wp.seq (Wp.seq (Wp.text ?_))))
    refine kp 4 (.string s) ?_
    refine fr 5 11 [Value.string s] ?_
    refine WpFun.of (c1) ?_
    refine kp 6 (.bool false) ?_
    refine WpOps.nil (thenK_at (off' (Wp.skip (thenK_at (Wp.seq (Wp.text ?_))))))
    refine kp 7 (.string s) ?_
    refine fr 8 36 [Value.string s, Value.string (ByteArray.mk #[49])] ?_
    refine WpFun.of (c2) ?_
    refine kp 2 (.int IntKind.i64 (↑(onesN s (ByteArray.size s)) : Int)) ?_
    refine kp 3 (.int IntKind.i64 0) ?_
    refine WpOps.nil (thenK_at (Wp.ret ?_))
    refine endK_retn [Value.int IntKind.i64 (↑(onesN s (ByteArray.size s)) : Int), Value.int IntKind.i64 0] (Value.tuple #[Value.int IntKind.i64 (↑(onesN s (ByteArray.size s)) : Int), Value.int IntKind.i64 0]) (by kernel_rfl) (by kernel_rfl) ?_
    rfl
  · rw [decide_eq_false hv] at c1
    rw [if_neg hv]
    refine Fun.of f26 rfl (of_decide_eq_true (by kernel_rfl)) rfl ?_
    refine Wp.seq (Wp.text ?_)
    refine kp 2 (.int IntKind.i64 0) ?_
    refine kp 3 (.int IntKind.i64 0) ?_
    refine WpOps.nil (thenK_at (Wp.seq (Wp.seq (Wp.text ?_))))
    refine kp 4 (.string s) ?_
    refine fr 5 11 [Value.string s] ?_
    refine WpFun.of (c1) ?_
    refine kp 6 (.bool true) ?_
    refine WpOps.nil (thenK_at (on' (Wp.seq (Wp.text ?_))))
    refine kp 2 (.int IntKind.i64 0) ?_
    refine kp 3 (.int IntKind.i64 1) ?_
    refine WpOps.nil (thenK_at (Wp.ret (thenK_ret ?_)))
    refine endK_retn [Value.int IntKind.i64 0, Value.int IntKind.i64 1] (Value.tuple #[Value.int IntKind.i64 0, Value.int IntKind.i64 1]) (by kernel_rfl) (by kernel_rfl) ?_
    rfl
theorem f27 : E.funcs 27 = some Tryd.f27 := by kernel_rfl
theorem ones27 (s : ByteArray) (hs : s.size ≤ 140737488351232) : Fun E 27 [.string s] (onesV s) := by
  have c1 := valid12 s hs
  unfold onesV
  by_cases hv : VP s
  · rw [decide_eq_true hv] at c1
    rw [if_pos hv]
    have hv1 := hv.1
    refine Fun.of f27 rfl (of_decide_eq_true (by kernel_rfl)) rfl ?_
    refine Wp.seq (Wp.text ?_)
    refine kp 2 (.int IntKind.i64 0) ?_
    refine kp 3 (.int IntKind.i64 0) ?_
    refine WpOps.nil (thenK_at (Wp.seq (Wp.seq (Wp.text ?_))))
    refine kp 6 (.string s) ?_
    refine fr 7 12 [Value.string s] ?_
    refine WpFun.of (c1) ?_
    refine kp 8 (.bool false) ?_
    refine WpOps.nil (thenK_at (off' (Wp.skip (thenK_at (Wp.seq (Wp.text ?_))))))
    refine kp 4 (.int IntKind.i64 0) ?_
    refine WpOps.nil (thenK_at (Wp.seq (Wp.seq (Wp.text ?_))))
    refine kp 5 (.int IntKind.i64 0) ?_
    refine WpOps.nil (thenK_at (Wp.block ?_))
    refine Wp.loop (G := Nat) (fun k => layj [(0, .string s), (4, .int .i64 (onesN s k)), (5, .int .i64 k)]) (fun _ => heapOf []) (fun k => s.size - k) (fun k => k ≤ s.size) 0
      (View.of [] [] _ (by decide) rfl trivial ⟨⟨by kernel_rfl, rfl⟩, ⟨by kernel_rfl, rfl⟩, ⟨by kernel_rfl, rfl⟩, trivial⟩) (Nat.zero_le _) ?_
    intro k hk
    refine Wp.seq (Wp.seq (Wp.text ?_))
    refine kp 9 (.int IntKind.i64 (↑k : Int)) ?_
    refine kp 10 (.string s) ?_
    refine kp 11 (.int IntKind.i64 (↑(ByteArray.size s) : Int)) ?_
    refine kp 12 (.bool (decide ((↑k : Int) < (↑(ByteArray.size s) : Int)))) ?_
    refine WpOps.nil (thenK_at ?_)
    refine Wp.split (decide ((↑k : Int) < (↑(ByteArray.size s) : Int))) (by kernel_rfl) (fun hd => ?_) (fun hd => ?_)
    · have hlt : (k : Int) < s.size := of_decide_eq_true hd
      have m3 : 0 ≤ (k : Int) := by omega
      have n3 := byte_get s k (by omega)
      have e49 := byte49 (byteAt s k)
      have hl := onesN_le s k
      have hn := onesN_succ s k (by omega)
      by_cases h9 : byteAt s k = 49
      · rw [decide_eq_true h9] at e49
        rw [if_pos h9] at hn
        have e1 : IntKind.i64.wrap ((onesN s k : Int) + 1) = (onesN s (k + 1) : Int) := by rw [wr _ (by omega) (by omega)]; omega
        refine Wp.skip (thenK_at (Wp.seq (Wp.block (Wp.seq (Wp.text ?_)))))
        refine kp 15 (.string s) ?_
        refine kp 16 (.int IntKind.i64 (↑k : Int)) ?_
        refine kp 17 (.int IntKind.u8 (↑(UInt8.toNat (byteAt s k)) : Int)) ?_ (hop := fun _ => o_indexStr m3 n3)
        refine kp 18 (.bool true) ?_ (hop := fun _ => by_fact e49)
        refine WpOps.nil (thenK_at (on' (Wp.text ?_)))
        refine kp 19 (.int IntKind.i64 (↑(onesN s k) : Int)) ?_
        refine kp 20 (.int IntKind.i64 (IntKind.wrap .i64 ((↑(onesN s k) : Int) + 1))) ?_
        refine kp 4 (.int IntKind.i64 (IntKind.wrap .i64 ((↑(onesN s k) : Int) + 1))) ?_
        refine WpOps.nil (blockK_norm (thenK_at (Wp.text ?_)))
        refine kp 13 (.int IntKind.i64 (↑k : Int)) ?_
        refine kp 14 (.int IntKind.i64 (IntKind.wrap .i64 ((↑k : Int) + 1))) ?_
        refine kp 5 (.int IntKind.i64 (IntKind.wrap .i64 ((↑k : Int) + 1))) ?_
        refine WpOps.nil (thenK_at ?_)
        exact ⟨k + 1, by omega, by omega, View.of [] [] _ (by decide) rfl trivial ⟨⟨by kernel_rfl, rfl⟩, ⟨congrArg (Value.int .i64) e1, rfl⟩, ⟨congrArg (Value.int .i64) (wr _ (by omega) (by omega)), rfl⟩, trivial⟩⟩
      · rw [decide_eq_false h9] at e49
        rw [if_neg h9] at hn
        have e1 : (onesN s k : Int) = (onesN s (k + 1) : Int) := by omega
        refine Wp.skip (thenK_at (Wp.seq (Wp.block (Wp.seq (Wp.text ?_)))))
        refine kp 15 (.string s) ?_
        refine kp 16 (.int IntKind.i64 (↑k : Int)) ?_
        refine kp 17 (.int IntKind.u8 (↑(UInt8.toNat (byteAt s k)) : Int)) ?_ (hop := fun _ => o_indexStr m3 n3)
        refine kp 18 (.bool false) ?_ (hop := fun _ => by_fact e49)
        refine WpOps.nil (thenK_at (off' (Wp.skip (blockK_norm (thenK_at (Wp.text ?_))))))
        refine kp 13 (.int IntKind.i64 (↑k : Int)) ?_
        refine kp 14 (.int IntKind.i64 (IntKind.wrap .i64 ((↑k : Int) + 1))) ?_
        refine kp 5 (.int IntKind.i64 (IntKind.wrap .i64 ((↑k : Int) + 1))) ?_
        refine WpOps.nil (thenK_at ?_)
        exact ⟨k + 1, by omega, by omega, View.of [] [] _ (by decide) rfl trivial ⟨⟨by kernel_rfl, rfl⟩, ⟨congrArg (Value.int .i64) e1, rfl⟩, ⟨congrArg (Value.int .i64) (wr _ (by omega) (by omega)), rfl⟩, trivial⟩⟩
    · have hle : ¬ ((k : Int) < s.size) := of_decide_eq_false hd
      obtain rfl : k = s.size := by omega
      refine Wp.exit (thenK_exit (thenK_exit (blockK_hit (thenK_at (Wp.seq (Wp.text ?_))))))
      refine kp 21 (.int IntKind.i64 (↑(onesN s (ByteArray.size s)) : Int)) ?_
      refine kp 2 (.int IntKind.i64 (↑(onesN s (ByteArray.size s)) : Int)) ?_
      refine kp 3 (.int IntKind.i64 0) ?_
      refine WpOps.nil (thenK_at (Wp.ret ?_))
      refine endK_retn [Value.int IntKind.i64 (↑(onesN s (ByteArray.size s)) : Int), Value.int IntKind.i64 0] (Value.tuple #[Value.int IntKind.i64 (↑(onesN s (ByteArray.size s)) : Int), Value.int IntKind.i64 0]) (by kernel_rfl) (by kernel_rfl) ?_
      rfl
  · rw [decide_eq_false hv] at c1
    rw [if_neg hv]
    refine Fun.of f27 rfl (of_decide_eq_true (by kernel_rfl)) rfl ?_
    refine Wp.seq (Wp.text ?_)
    refine kp 2 (.int IntKind.i64 0) ?_
    refine kp 3 (.int IntKind.i64 0) ?_
    refine WpOps.nil (thenK_at (Wp.seq (Wp.seq (Wp.text ?_))))
    refine kp 6 (.string s) ?_
    refine fr 7 12 [Value.string s] ?_
    refine WpFun.of (c1) ?_
    refine kp 8 (.bool true) ?_
    refine WpOps.nil (thenK_at (on' (Wp.seq (Wp.text ?_))))
    refine kp 2 (.int IntKind.i64 0) ?_
    refine kp 3 (.int IntKind.i64 1) ?_
    refine WpOps.nil (thenK_at (Wp.ret (thenK_ret ?_)))
    refine endK_retn [Value.int IntKind.i64 0, Value.int IntKind.i64 1] (Value.tuple #[Value.int IntKind.i64 0, Value.int IntKind.i64 1]) (by kernel_rfl) (by kernel_rfl) ?_
    rfl
/-! ## Fill -/
def ToOk (s : ByteArray) (t : Int) : Prop := VP s ∧ 1 ≤ t ∧ t ≤ 64
instance (s : ByteArray) (a : Int) : Decidable (ToOk s a) := inferInstanceAs (Decidable (_ ∧ _))
def gap (n m : Nat) : Nat := (m - n % m) % m
def fillV (s : ByteArray) (t : Int) : Value :=
  if ToOk s t then (if s.size + gap s.size t.toNat ≤ 32000 then .tuple #[.string (s ++ zer (gap s.size t.toNat)), .int .i64 0] else .tuple #[.string ⟨#[]⟩, .int .i64 2]) else .tuple #[.string ⟨#[]⟩, .int .i64 1]
theorem guardT {b1 b2 : Bool} {s : ByteArray} {a : Int} (h1 : b1 = bif !decide (VP s) then true else decide (a < 1)) (h2 : b2 = bif b1 then true else decide (a > 64)) : b2 = !decide (ToOk s a) := by
  have hI : ToOk s a ↔ VP s ∧ 1 ≤ a ∧ a ≤ 64 := Iff.rfl
  rw [h2, h1, cond_or', cond_or', Bool.eq_iff_iff]
  simp only [Bool.or_eq_true, decide_eq_true_eq, Bool.not_eq_true', decide_eq_false_iff_not]
  rw [hI]
  by_cases h : VP s
  · simp only [h, true_and, not_true, false_or]
    omega
  · simp only [h, false_and, not_false_iff, true_or]
theorem gap_lt (n m : Nat) (h : 1 ≤ m) : gap n m < m := Nat.mod_lt _ h
theorem gap_eq (n m : Nat) (h : 1 ≤ m) : gap n m = if n % m = 0 then 0 else m - n % m := by
  unfold gap
  have h1 : n % m < m := Nat.mod_lt _ h
  split
  · rename_i h2
    rw [h2, Nat.sub_zero, Nat.mod_self]
  · exact Nat.mod_eq_of_lt (by omega)
theorem gap_end (n m : Nat) (h : 1 ≤ m) : (n + gap n m) % m = 0 := by
  rw [gap_eq n m h]
  have h1 : n % m < m := Nat.mod_lt _ h
  have h2 := Nat.div_add_mod n m
  split
  · rename_i h3
    rw [Nat.add_zero, h3]
  · have h4 : n + (m - n % m) = m * (n / m + 1) := by
      rw [Nat.mul_add, Nat.mul_one]
      omega
    rw [h4, Nat.mul_mod_right]
theorem gap_not (n m k : Nat) (h : 1 ≤ m) (hk : k < gap n m) : ¬ (n + k) % m = 0 := by
  rw [gap_eq n m h] at hk
  have h1 : n % m < m := Nat.mod_lt _ h
  have h2 := Nat.div_add_mod n m
  split at hk
  · omega
  · have h4 : n + k = m * (n / m) + (n % m + k) := by omega
    rw [h4, Nat.mul_add_mod, Nat.mod_eq_of_lt (by omega)]
    omega
theorem f22 : E.funcs 22 = some Tryd.f22 := by kernel_rfl
theorem fill22 (s : ByteArray) (t : Int) (hs : s.size ≤ 140737488351232) : Fun E 22 [.string s, .int .i64 t] (fillV s t) := by
  have c1 := valid11 s hs
  unfold fillV
  by_cases hv : ToOk s t
  · rw [if_pos hv]
    obtain ⟨hv1, h0, h1⟩ := hv
    rw [decide_eq_true hv1] at c1
    have hv2 := hv1.1
    have d1 : decide (t < 1) = false := decide_eq_false (by omega)
    have d2 : decide (t > 64) = false := decide_eq_false (by omega)
    obtain ⟨m, rfl⟩ : ∃ m : Nat, t = m := ⟨t.toNat, by omega⟩
    have hg := gap_lt s.size m (by omega)
    have g1 : ¬ (m : Int) = 0 := by omega
    have hm := Nat.mod_lt s.size (show 0 < m by omega)
    have e1 : IntKind.i64.wrap ((m : Int) - (s.size : Int).tmod m) = ((m - s.size % m : Nat) : Int) := by rw [← Int.ofNat_tmod, wr _ (by omega) (by omega)]; omega
    have e2 : (IntKind.i64.wrap ((m : Int) - (s.size : Int).tmod m)).tmod m = (gap s.size m : Int) := by rw [e1, ← Int.ofNat_tmod]; rfl
    have c2 : Fun E 35 [.string ⟨#[48]⟩, .int .i64 ((IntKind.i64.wrap ((m : Int) - (s.size : Int).tmod m)).tmod m)] (.string (zer (gap s.size m))) := by rw [e2]; exact repeat35 _ (by omega)
    have z1 : (zer (gap s.size m)).size = gap s.size m := mkB_size _ _
    have z2 : (s ++ zer (gap s.size m)).size = s.size + gap s.size m := by rw [ByteArray.size_append, z1]
    have r1 : ((s.size + (zer (gap s.size m)).size : Nat) : Int) ≤ 9223372036854775807 := by omega
    rw [show ((m : Int)).toNat = m from rfl]
    by_cases hf : s.size + gap s.size m ≤ 32000
    · have d3 : decide (((s ++ zer (gap s.size m)).size : Int) > 32000) = false := decide_eq_false (by omega)
      rw [if_pos hf]
      refine Fun.of f22 rfl (of_decide_eq_true (by kernel_rfl)) rfl ?_
      refine Wp.seq (Wp.text ?_)
      refine kp 4 (.string (ByteArray.mk #[])) ?_
      refine kp 5 (.int IntKind.i64 0) ?_
      refine WpOps.nil (thenK_at (Wp.seq (Wp.seq (Wp.text ?_))))
      refine kp 6 (.string s) ?_
      refine fr 7 11 [Value.string s] ?_
      refine WpFun.of (c1) ?_
      refine kp 8 (.bool false) ?_
      refine kp 9 (.bool false) ?_
      refine kp 10 (.int IntKind.i64 (↑m : Int)) ?_
      refine kp 11 (.bool false) ?_ (hop := fun _ => by_fact d1)
      refine kp 12 (.bool false) ?_
      refine kp 13 (.bool false) ?_
      refine kp 14 (.int IntKind.i64 (↑m : Int)) ?_
      refine kp 15 (.bool false) ?_ (hop := fun _ => by_fact d2)
      refine kp 16 (.bool false) ?_
      refine WpOps.nil (thenK_at (off' (Wp.skip (thenK_at (Wp.seq (Wp.text ?_))))))
      refine kp 17 (.string s) ?_
      refine kp 18 (.int IntKind.i64 (↑m : Int)) ?_
      refine kp 19 (.string s) ?_
      refine kp 20 (.int IntKind.i64 (↑(ByteArray.size s) : Int)) ?_
      refine kp 21 (.int IntKind.i64 (↑m : Int)) ?_
      refine kp 22 (.int IntKind.i64 (Int.tmod (↑(ByteArray.size s) : Int) (↑m : Int))) ?_ (hop := fun _ => o_rem g1)
      refine kp 23 (.int IntKind.i64 (IntKind.wrap .i64 ((↑m : Int) - Int.tmod (↑(ByteArray.size s) : Int) (↑m : Int)))) ?_
      refine kp 24 (.int IntKind.i64 (↑m : Int)) ?_
      refine kp 25 (.int IntKind.i64 (Int.tmod (IntKind.wrap .i64 ((↑m : Int) - Int.tmod (↑(ByteArray.size s) : Int) (↑m : Int))) (↑m : Int))) ?_ (hop := fun _ => o_rem g1)
      refine fr 26 35 [Value.string (ByteArray.mk #[48]), Value.int .i64 (Int.tmod (IntKind.wrap .i64 ((↑m : Int) - Int.tmod (↑(ByteArray.size s) : Int) (↑m : Int))) (↑m : Int))] ?_
      refine WpFun.of (c2) ?_
      refine kp 27 (.string (s ++ zer (gap (ByteArray.size s) m))) ?_ (hop := fun _ => o_add r1)
      refine kp 0 (.string (s ++ zer (gap (ByteArray.size s) m))) ?_
      refine WpOps.nil (thenK_at (Wp.seq (Wp.seq (Wp.text ?_))))
      refine kp 28 (.string (s ++ zer (gap (ByteArray.size s) m))) ?_
      refine kp 29 (.int IntKind.i64 (↑(ByteArray.size (s ++ zer (gap (ByteArray.size s) m))) : Int)) ?_
      refine kp 30 (.bool false) ?_ (hop := fun _ => by_fact d3)
      refine WpOps.nil (thenK_at (off' (Wp.skip (thenK_at (Wp.seq (Wp.text ?_))))))
      refine kp 31 (.string (s ++ zer (gap (ByteArray.size s) m))) ?_
      refine kp 4 (.string (s ++ zer (gap (ByteArray.size s) m))) ?_
      refine kp 5 (.int IntKind.i64 0) ?_
      refine WpOps.nil (thenK_at (Wp.ret ?_))
      refine endK_retn [Value.string (s ++ zer (gap (ByteArray.size s) m)), Value.int IntKind.i64 0] (Value.tuple #[Value.string (s ++ zer (gap (ByteArray.size s) m)), Value.int IntKind.i64 0]) (by kernel_rfl) (by kernel_rfl) ?_
      rfl
    · have d3 : decide (((s ++ zer (gap s.size m)).size : Int) > 32000) = true := decide_eq_true (by omega)
      rw [if_neg hf]
      refine Fun.of f22 rfl (of_decide_eq_true (by kernel_rfl)) rfl ?_
      refine Wp.seq (Wp.text ?_)
      refine kp 4 (.string (ByteArray.mk #[])) ?_
      refine kp 5 (.int IntKind.i64 0) ?_
      refine WpOps.nil (thenK_at (Wp.seq (Wp.seq (Wp.text ?_))))
      refine kp 6 (.string s) ?_
      refine fr 7 11 [Value.string s] ?_
      refine WpFun.of (c1) ?_
      refine kp 8 (.bool false) ?_
      refine kp 9 (.bool false) ?_
      refine kp 10 (.int IntKind.i64 (↑m : Int)) ?_
      refine kp 11 (.bool false) ?_ (hop := fun _ => by_fact d1)
      refine kp 12 (.bool false) ?_
      refine kp 13 (.bool false) ?_
      refine kp 14 (.int IntKind.i64 (↑m : Int)) ?_
      refine kp 15 (.bool false) ?_ (hop := fun _ => by_fact d2)
      refine kp 16 (.bool false) ?_
      refine WpOps.nil (thenK_at (off' (Wp.skip (thenK_at (Wp.seq (Wp.text ?_))))))
      refine kp 17 (.string s) ?_
      refine kp 18 (.int IntKind.i64 (↑m : Int)) ?_
      refine kp 19 (.string s) ?_
      refine kp 20 (.int IntKind.i64 (↑(ByteArray.size s) : Int)) ?_
      refine kp 21 (.int IntKind.i64 (↑m : Int)) ?_
      refine kp 22 (.int IntKind.i64 (Int.tmod (↑(ByteArray.size s) : Int) (↑m : Int))) ?_ (hop := fun _ => o_rem g1)
      refine kp 23 (.int IntKind.i64 (IntKind.wrap .i64 ((↑m : Int) - Int.tmod (↑(ByteArray.size s) : Int) (↑m : Int)))) ?_
      refine kp 24 (.int IntKind.i64 (↑m : Int)) ?_
      refine kp 25 (.int IntKind.i64 (Int.tmod (IntKind.wrap .i64 ((↑m : Int) - Int.tmod (↑(ByteArray.size s) : Int) (↑m : Int))) (↑m : Int))) ?_ (hop := fun _ => o_rem g1)
      refine fr 26 35 [Value.string (ByteArray.mk #[48]), Value.int .i64 (Int.tmod (IntKind.wrap .i64 ((↑m : Int) - Int.tmod (↑(ByteArray.size s) : Int) (↑m : Int))) (↑m : Int))] ?_
      refine WpFun.of (c2) ?_
      refine kp 27 (.string (s ++ zer (gap (ByteArray.size s) m))) ?_ (hop := fun _ => o_add r1)
      refine kp 0 (.string (s ++ zer (gap (ByteArray.size s) m))) ?_
      refine WpOps.nil (thenK_at (Wp.seq (Wp.seq (Wp.text ?_))))
      refine kp 28 (.string (s ++ zer (gap (ByteArray.size s) m))) ?_
      refine kp 29 (.int IntKind.i64 (↑(ByteArray.size (s ++ zer (gap (ByteArray.size s) m))) : Int)) ?_
      refine kp 30 (.bool true) ?_ (hop := fun _ => by_fact d3)
      refine WpOps.nil (thenK_at (on' (Wp.seq (Wp.text ?_))))
      refine kp 4 (.string (ByteArray.mk #[])) ?_
      refine kp 5 (.int IntKind.i64 2) ?_
      refine WpOps.nil (thenK_at (Wp.ret (thenK_ret ?_)))
      refine endK_retn [Value.string (ByteArray.mk #[]), Value.int IntKind.i64 2] (Value.tuple #[Value.string (ByteArray.mk #[]), Value.int IntKind.i64 2]) (by kernel_rfl) (by kernel_rfl) ?_
      rfl
  · rw [if_neg hv]
    refine Fun.of f22 rfl (of_decide_eq_true (by kernel_rfl)) rfl ?_
    refine Wp.seq (Wp.text ?_)
    refine kp 4 (.string (ByteArray.mk #[])) ?_
    refine kp 5 (.int IntKind.i64 0) ?_
    refine WpOps.nil (thenK_at (Wp.seq (Wp.seq (Wp.text ?_))))
    refine kp 6 (.string s) ?_
    refine fr 7 11 [Value.string s] ?_
    refine WpFun.of (c1) ?_
    refine kp 8 (.bool !decide (VP s)) ?_
    refine kp 9 (.bool !decide (VP s)) ?_
    refine WpOps.fork 3 (!decide (VP s)) [10, 11, 12] 12 (true) (decide (t < 1)) (by kernel_rfl) (fun g12 => ?_) (fun g12 => ?_) (fun f_12 b12 hb12 => ?_)
    · refine um 10 ?_ (hw := wants_tf g12)
      refine um 11 ?_ (hw := wants_tf g12)
      refine kp 12 (.bool true) ?_ (hop := fun _ => o_pickT g12)
      refine WpOps.nil ?_
      exact ⟨rfl, (.upd rfl (.upd rfl (.upd rfl .refl))), (by kernel_rfl)⟩
    · refine kp 10 (.int IntKind.i64 t) ?_ (hw := wants_ff g12)
      refine kp 11 (.bool (decide (t < 1))) ?_ (hw := wants_ff g12)
      refine kp 12 (.bool (decide (t < 1))) ?_ (hop := fun _ => o_pickF g12)
      refine WpOps.nil ?_
      exact ⟨rfl, (.upd rfl (.upd rfl (.upd rfl .refl))), (by kernel_rfl)⟩
    refine kp 13 (.bool b12) ?_
    refine WpOps.fork 3 (b12) [14, 15, 16] 16 (true) (decide (t > 64)) (by kernel_rfl) (fun g16 => ?_) (fun g16 => ?_) (fun f_16 b16 hb16 => ?_)
    · refine um 14 ?_ (hw := wants_tf g16)
      refine um 15 ?_ (hw := wants_tf g16)
      refine kp 16 (.bool true) ?_ (hop := fun _ => o_pickT g16)
      refine WpOps.nil ?_
      exact ⟨rfl, (.upd rfl (.upd rfl (.upd rfl .refl))), (by kernel_rfl)⟩
    · refine kp 14 (.int IntKind.i64 t) ?_ (hw := wants_ff g16)
      refine kp 15 (.bool (decide (t > 64))) ?_ (hw := wants_ff g16)
      refine kp 16 (.bool (decide (t > 64))) ?_ (hop := fun _ => o_pickF g16)
      refine WpOps.nil ?_
      exact ⟨rfl, (.upd rfl (.upd rfl (.upd rfl .refl))), (by kernel_rfl)⟩
    refine WpOps.nil (thenK_at ?_)
    have e : b16 = !decide (ToOk s t) := guardT hb12 hb16
    rw [decide_eq_false hv] at e
    have e2 : b16 = true := e
    refine on' ?_ (hc := ev_fact e2)
    refine Wp.seq (Wp.text ?_)
    refine kp 4 (.string (ByteArray.mk #[])) ?_
    refine kp 5 (.int IntKind.i64 1) ?_
    refine WpOps.nil (thenK_at (Wp.ret (thenK_ret ?_)))
    refine endK_retn [Value.string (ByteArray.mk #[]), Value.int IntKind.i64 1] (Value.tuple #[Value.string (ByteArray.mk #[]), Value.int IntKind.i64 1]) (by kernel_rfl) (by kernel_rfl) ?_
    rfl
theorem zer_snoc (k : Nat) : zer k ++ ⟨#[48]⟩ = zer (k + 1) := by
  refine ext_at ?_ fun i hi => ?_
  · rw [ByteArray.size_append]
    unfold zer
    rw [mkB_size, mkB_size]
    rfl
  · have hz : (zer k).size = k := mkB_size _ _
    have h1 : (⟨#[48]⟩ : ByteArray).size = 1 := rfl
    rw [ByteArray.size_append, hz, h1] at hi
    have e : byteAt (zer (k + 1)) i = 48 := mkB_at _ _ i hi
    rw [e]
    by_cases h : i < k
    · rw [byteAt_left _ _ _ (by omega)]
      exact mkB_at _ _ i h
    · have h2 := byteAt_right (zer k) ⟨#[48]⟩ 0
      rw [hz, show k + 0 = i by omega] at h2
      rw [h2]
      rfl
theorem zer0 (s : ByteArray) : s = s ++ zer 0 := by
  refine ext_at ?_ fun i hi => ?_
  · rw [ByteArray.size_append]; rfl
  · exact (byteAt_left s (zer 0) i hi).symm
theorem app_assoc (a b c : ByteArray) : a ++ b ++ c = a ++ (b ++ c) := by
  apply ByteArray.ext
  simp only [ByteArray.data_append, Array.append_assoc]
theorem f23 : E.funcs 23 = some Tryd.f23 := by kernel_rfl
theorem fill23 (s : ByteArray) (t : Int) (hs : s.size ≤ 140737488351232) : Fun E 23 [.string s, .int .i64 t] (fillV s t) := by
  have c1 := valid12 s hs
  unfold fillV
  by_cases hv : ToOk s t
  · rw [if_pos hv]
    obtain ⟨hv1, h0, h1⟩ := hv
    rw [decide_eq_true hv1] at c1
    have hv2 := hv1.1
    have d1 : decide (t < 1) = false := decide_eq_false (by omega)
    have d2 : decide (t > 64) = false := decide_eq_false (by omega)
    obtain ⟨m, rfl⟩ : ∃ m : Nat, t = m := ⟨t.toNat, by omega⟩
    have hg := gap_lt s.size m (by omega)
    have g1 : ¬ (m : Int) = 0 := by omega
    rw [show ((m : Int)).toNat = m from rfl]
    have hz : ∀ k, (s ++ zer k).size = s.size + k := fun k => by
      rw [ByteArray.size_append]
      exact congrArg _ (mkB_size _ _)
    have fin : ∀ r, (if s.size + gap s.size m ≤ 32000 then Value.tuple #[.string (s ++ zer (gap s.size m)), .int .i64 0] else .tuple #[.string ⟨#[]⟩, .int .i64 2]) = r → iceV E Heap.none r = some r := by
      rintro r rfl
      split <;> rfl
    refine Fun.of f23 rfl (of_decide_eq_true (by kernel_rfl)) (fin _ rfl) ?_
    refine Wp.seq (Wp.text ?_)
    refine kp 4 (.string (ByteArray.mk #[])) ?_
    refine kp 5 (.int IntKind.i64 0) ?_
    refine WpOps.nil (thenK_at (Wp.seq (Wp.seq (Wp.text ?_))))
    refine kp 6 (.string s) ?_
    refine fr 7 12 [Value.string s] ?_
    refine WpFun.of (c1) ?_
    refine kp 8 (.bool false) ?_
    refine kp 9 (.bool false) ?_
    refine kp 10 (.int IntKind.i64 (↑m : Int)) ?_
    refine kp 11 (.bool false) ?_ (hop := fun _ => by_fact d1)
    refine kp 12 (.bool false) ?_
    refine kp 13 (.bool false) ?_
    refine kp 14 (.int IntKind.i64 (↑m : Int)) ?_
    refine kp 15 (.bool false) ?_ (hop := fun _ => by_fact d2)
    refine kp 16 (.bool false) ?_
    refine WpOps.nil (thenK_at (off' (Wp.skip (thenK_at (Wp.seq (Wp.block ?_))))))
    refine Wp.loop (G := Nat) (fun k => layj [(0, .string (s ++ zer k)), (1, .int .i64 m)]) (fun _ => heapOf []) (fun k => gap s.size m - k) (fun k => k ≤ gap s.size m) 0
      (View.of [] [] _ (by decide) rfl trivial ⟨⟨congrArg Value.string (zer0 s), rfl⟩, ⟨by kernel_rfl, rfl⟩, trivial⟩) (Nat.zero_le _) ?_
    intro k hk
    have hzk := hz k
    have eT : (((s ++ zer k).size : Nat) : Int).tmod m = (((s.size + k) % m : Nat) : Int) := by rw [hzk, ← Int.ofNat_tmod]
    by_cases hl : k < gap s.size m
    · have d3 : ((((s ++ zer k).size : Nat) : Int).tmod m != 0) = true := by
        rw [eT]
        have := gap_not s.size m k (by omega) hl
        exact bne_iff_ne.2 (by omega)
      have r1 : (((s ++ zer k).size + 1 : Nat) : Int) ≤ 9223372036854775807 := by omega
      refine Wp.seq (Wp.seq (Wp.text ?_))
      refine kp 17 (.string (s ++ zer k)) ?_
      refine kp 18 (.int IntKind.i64 (↑(ByteArray.size (s ++ zer k)) : Int)) ?_
      refine kp 19 (.int IntKind.i64 (↑m : Int)) ?_
      refine kp 20 (.int IntKind.i64 (Int.tmod (↑(ByteArray.size (s ++ zer k)) : Int) (↑m : Int))) ?_ (hop := fun _ => o_rem g1)
      refine kp 21 (.bool true) ?_ (hop := fun _ => by_fact d3)
      refine WpOps.nil (thenK_at (on' (Wp.skip (thenK_at (Wp.block (Wp.text ?_))))))
      refine kp 22 (.string (s ++ zer k)) ?_
      refine kp 23 (.string (s ++ zer k ++ ByteArray.mk #[48])) ?_ (hop := fun _ => o_add r1)
      refine kp 0 (.string (s ++ zer k ++ ByteArray.mk #[48])) ?_
      refine WpOps.nil (blockK_norm (thenK_at ?_))
      exact ⟨k + 1, by omega, by omega, View.of [] [] _ (by decide) rfl trivial ⟨⟨congrArg Value.string ((app_assoc s (zer k) _).trans (congrArg _ (zer_snoc k))), rfl⟩, ⟨by kernel_rfl, rfl⟩, trivial⟩⟩
    · obtain rfl : k = gap s.size m := by omega
      have d3 : ((((s ++ zer (gap s.size m)).size : Nat) : Int).tmod m != 0) = false := by
        rw [eT, gap_end s.size m (by omega)]
        rfl
      by_cases hf : s.size + gap s.size m ≤ 32000
      · have d4 : decide (((s ++ zer (gap s.size m)).size : Int) > 32000) = false := decide_eq_false (by omega)
        rw [if_pos hf]
        refine Wp.seq (Wp.seq (Wp.text ?_))
        refine kp 17 (.string (s ++ zer (gap (ByteArray.size s) m))) ?_
        refine kp 18 (.int IntKind.i64 (↑(ByteArray.size (s ++ zer (gap (ByteArray.size s) m))) : Int)) ?_
        refine kp 19 (.int IntKind.i64 (↑m : Int)) ?_
        refine kp 20 (.int IntKind.i64 (Int.tmod (↑(ByteArray.size (s ++ zer (gap (ByteArray.size s) m))) : Int) (↑m : Int))) ?_ (hop := fun _ => o_rem g1)
        refine kp 21 (.bool false) ?_ (hop := fun _ => by_fact d3)
        refine WpOps.nil (thenK_at (off' (Wp.exit (thenK_exit (thenK_exit (blockK_hit (thenK_at (Wp.seq (Wp.seq (Wp.text ?_))))))))))
        refine kp 24 (.string (s ++ zer (gap (ByteArray.size s) m))) ?_
        refine kp 25 (.int IntKind.i64 (↑(ByteArray.size (s ++ zer (gap (ByteArray.size s) m))) : Int)) ?_
        refine kp 26 (.bool false) ?_ (hop := fun _ => by_fact d4)
        refine WpOps.nil (thenK_at (off' (Wp.skip (thenK_at (Wp.seq (Wp.text ?_))))))
        refine kp 27 (.string (s ++ zer (gap (ByteArray.size s) m))) ?_
        refine kp 4 (.string (s ++ zer (gap (ByteArray.size s) m))) ?_
        refine kp 5 (.int IntKind.i64 0) ?_
        refine WpOps.nil (thenK_at (Wp.ret ?_))
        refine endK_retn [Value.string (s ++ zer (gap (ByteArray.size s) m)), Value.int IntKind.i64 0] (Value.tuple #[Value.string (s ++ zer (gap (ByteArray.size s) m)), Value.int IntKind.i64 0]) (by kernel_rfl) (by kernel_rfl) ?_
        rfl
      · have d4 : decide (((s ++ zer (gap s.size m)).size : Int) > 32000) = true := decide_eq_true (by omega)
        rw [if_neg hf]
        refine Wp.seq (Wp.seq (Wp.text ?_))
        refine kp 17 (.string (s ++ zer (gap (ByteArray.size s) m))) ?_
        refine kp 18 (.int IntKind.i64 (↑(ByteArray.size (s ++ zer (gap (ByteArray.size s) m))) : Int)) ?_
        refine kp 19 (.int IntKind.i64 (↑m : Int)) ?_
        refine kp 20 (.int IntKind.i64 (Int.tmod (↑(ByteArray.size (s ++ zer (gap (ByteArray.size s) m))) : Int) (↑m : Int))) ?_ (hop := fun _ => o_rem g1)
        refine kp 21 (.bool false) ?_ (hop := fun _ => by_fact d3)
        refine WpOps.nil (thenK_at (off' (Wp.exit (thenK_exit (thenK_exit (blockK_hit (thenK_at (Wp.seq (Wp.seq (Wp.text ?_))))))))))
        refine kp 24 (.string (s ++ zer (gap (ByteArray.size s) m))) ?_
        refine kp 25 (.int IntKind.i64 (↑(ByteArray.size (s ++ zer (gap (ByteArray.size s) m))) : Int)) ?_
        refine kp 26 (.bool true) ?_ (hop := fun _ => by_fact d4)
        refine WpOps.nil (thenK_at (on' (Wp.seq (Wp.text ?_))))
        refine kp 4 (.string (ByteArray.mk #[])) ?_
        refine kp 5 (.int IntKind.i64 2) ?_
        refine WpOps.nil (thenK_at (Wp.ret (thenK_ret ?_)))
        refine endK_retn [Value.string (ByteArray.mk #[]), Value.int IntKind.i64 2] (Value.tuple #[Value.string (ByteArray.mk #[]), Value.int IntKind.i64 2]) (by kernel_rfl) (by kernel_rfl) ?_
        rfl
  · rw [if_neg hv]
    refine Fun.of f23 rfl (of_decide_eq_true (by kernel_rfl)) rfl ?_
    refine Wp.seq (Wp.text ?_)
    refine kp 4 (.string (ByteArray.mk #[])) ?_
    refine kp 5 (.int IntKind.i64 0) ?_
    refine WpOps.nil (thenK_at (Wp.seq (Wp.seq (Wp.text ?_))))
    refine kp 6 (.string s) ?_
    refine fr 7 12 [Value.string s] ?_
    refine WpFun.of (c1) ?_
    refine kp 8 (.bool !decide (VP s)) ?_
    refine kp 9 (.bool !decide (VP s)) ?_
    refine WpOps.fork 3 (!decide (VP s)) [10, 11, 12] 12 (true) (decide (t < 1)) (by kernel_rfl) (fun g12 => ?_) (fun g12 => ?_) (fun f_12 b12 hb12 => ?_)
    · refine um 10 ?_ (hw := wants_tf g12)
      refine um 11 ?_ (hw := wants_tf g12)
      refine kp 12 (.bool true) ?_ (hop := fun _ => o_pickT g12)
      refine WpOps.nil ?_
      exact ⟨rfl, (.upd rfl (.upd rfl (.upd rfl .refl))), (by kernel_rfl)⟩
    · refine kp 10 (.int IntKind.i64 t) ?_ (hw := wants_ff g12)
      refine kp 11 (.bool (decide (t < 1))) ?_ (hw := wants_ff g12)
      refine kp 12 (.bool (decide (t < 1))) ?_ (hop := fun _ => o_pickF g12)
      refine WpOps.nil ?_
      exact ⟨rfl, (.upd rfl (.upd rfl (.upd rfl .refl))), (by kernel_rfl)⟩
    refine kp 13 (.bool b12) ?_
    refine WpOps.fork 3 (b12) [14, 15, 16] 16 (true) (decide (t > 64)) (by kernel_rfl) (fun g16 => ?_) (fun g16 => ?_) (fun f_16 b16 hb16 => ?_)
    · refine um 14 ?_ (hw := wants_tf g16)
      refine um 15 ?_ (hw := wants_tf g16)
      refine kp 16 (.bool true) ?_ (hop := fun _ => o_pickT g16)
      refine WpOps.nil ?_
      exact ⟨rfl, (.upd rfl (.upd rfl (.upd rfl .refl))), (by kernel_rfl)⟩
    · refine kp 14 (.int IntKind.i64 t) ?_ (hw := wants_ff g16)
      refine kp 15 (.bool (decide (t > 64))) ?_ (hw := wants_ff g16)
      refine kp 16 (.bool (decide (t > 64))) ?_ (hop := fun _ => o_pickF g16)
      refine WpOps.nil ?_
      exact ⟨rfl, (.upd rfl (.upd rfl (.upd rfl .refl))), (by kernel_rfl)⟩
    refine WpOps.nil (thenK_at ?_)
    have e : b16 = !decide (ToOk s t) := guardT hb12 hb16
    rw [decide_eq_false hv] at e
    have e2 : b16 = true := e
    refine on' ?_ (hc := ev_fact e2)
    refine Wp.seq (Wp.text ?_)
    refine kp 4 (.string (ByteArray.mk #[])) ?_
    refine kp 5 (.int IntKind.i64 1) ?_
    refine WpOps.nil (thenK_at (Wp.ret (thenK_ret ?_)))
    refine endK_retn [Value.string (ByteArray.mk #[]), Value.int IntKind.i64 1] (Value.tuple #[Value.string (ByteArray.mk #[]), Value.int IntKind.i64 1]) (by kernel_rfl) (by kernel_rfl) ?_
    rfl
end Go.Proofs.YthhlfddpacmhfaaDoor.D
