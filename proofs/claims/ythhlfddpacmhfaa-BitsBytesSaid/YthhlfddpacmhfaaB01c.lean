/- Bits: Unpack of the reference; Number of both. -/
import Derived.Test.YthhlfddpacmhfaaFwLem
import Derived.Test.YthhlfddpacmhfaaB01b
namespace Go.Proofs.Ythhlfddpacmhfaa.D
open Go.Fw Go.RowKit

theorem one_cat (b : UInt8) (s : ByteArray) (i : Nat) : byteAt (⟨#[b]⟩ ++ s) (i + 1) = byteAt s i := by
  have h := byteAt_right ⟨#[b]⟩ s i
  rw [show (⟨#[b]⟩ : ByteArray).size = 1 from rfl, Nat.add_comm] at h
  exact h
theorem one_cat0 (b : UInt8) (s : ByteArray) : byteAt (⟨#[b]⟩ ++ s) 0 = b := by
  rw [byteAt_left _ _ _ (show 0 < (⟨#[b]⟩ : ByteArray).size from Nat.zero_lt_one)]
  rfl
theorem wrS_cons (N k : Nat) : ⟨#[if N / 2 ^ k % 2 = 1 then 49 else 48]⟩ ++ wrS N k = wrS N (k + 1) := by
  have hz : (wrS N k).size = k := mkB_size _ _
  refine ext_at ?_ fun i hi => ?_
  · rw [ByteArray.size_append, hz]
    unfold wrS
    rw [mkB_size]
    show 1 + k = k + 1
    omega
  · rw [ByteArray.size_append, hz] at hi
    have hi' : i < k + 1 := by
      have : (⟨#[if N / 2 ^ k % 2 = 1 then (49 : UInt8) else 48]⟩ : ByteArray).size = 1 := rfl
      omega
    have e : byteAt (wrS N (k + 1)) i = wB N (k + 1) i := mkB_at _ _ i hi'
    rw [e]
    cases i with
    | zero =>
      rw [one_cat0]
      unfold wB
      rw [show k + 1 - 1 - 0 = k by omega]
    | succ i =>
      rw [one_cat]
      have e2 : byteAt (wrS N k) i = wB N k i := mkB_at _ _ i (by omega)
      rw [e2]
      unfold wB
      rw [show k + 1 - 1 - (i + 1) = k - 1 - i by omega]
theorem f28 : E.funcs 28 = some Try.f28 := by kernel_rfl
theorem digits28 (N m : Nat) (hm : m ≤ 60) (hN : N < 9223372036854775808) : Fun E 28 [.int .i64 N, .int .i64 m] (.string (wrS N m)) := by
  refine Fun.of f28 rfl (of_decide_eq_true (by kernel_rfl)) rfl ?_
  refine Wp.seq (Wp.text ?_)
  refine kp 4 (.string (ByteArray.mk #[])) ?_
  refine WpOps.nil (thenK_at (Wp.seq (Wp.text ?_)))
  refine kp 5 (.string (ByteArray.mk #[])) ?_
  refine WpOps.nil (thenK_at (Wp.seq (Wp.seq (Wp.text ?_))))
  refine kp 6 (.int IntKind.i64 0) ?_
  refine WpOps.nil (thenK_at (Wp.block ?_))
  refine Wp.loop (G := Nat) (fun k => layj [(0, .int .i64 (N / 2 ^ k : Nat)), (1, .int .i64 m), (5, .string (wrS N k)), (6, .int .i64 k)]) (fun _ => heapOf []) (fun k => m - k) (fun k => k ≤ m) 0
    (View.of [] [] _ (by decide) rfl trivial ⟨⟨congrArg (Value.int .i64) (?_ : (N : Int) = ((N / 2 ^ 0 : Nat) : Int)), rfl⟩, ⟨by kernel_rfl, rfl⟩, ⟨by kernel_rfl, rfl⟩, ⟨by kernel_rfl, rfl⟩, trivial⟩) (Nat.zero_le _) ?_
  · rw [Nat.pow_zero, Nat.div_one]
  intro k hk
  obtain ⟨M, hM⟩ : ∃ M, M = N / 2 ^ k := ⟨_, rfl⟩
  have hMl : M ≤ N := by rw [hM]; exact Nat.div_le_self _ _
  have hc := wrS_cons N k
  have hM2 : M / 2 = N / 2 ^ (k + 1) := by rw [hM, Nat.div_div_eq_div_mul, Nat.pow_succ]
  rw [← hM] at hc ⊢
  have hz : (wrS N k).size = k := mkB_size _ _
  refine Wp.seq (Wp.seq (Wp.text ?_))
  refine kp 7 (.int IntKind.i64 (↑k : Int)) ?_
  refine kp 8 (.int IntKind.i64 (↑m : Int)) ?_
  refine kp 9 (.bool (decide ((↑k : Int) < (↑m : Int)))) ?_
  refine WpOps.nil (thenK_at ?_)
  refine Wp.split (decide ((↑k : Int) < (↑m : Int))) (by kernel_rfl) (fun hd => ?_) (fun hd => ?_)
  · have hlt : (k : Int) < m := of_decide_eq_true hd
    have eq : IntKind.i64.wrap ((M : Int).tdiv 2) = ((N / 2 ^ (k + 1) : Nat) : Int) := by
      rw [← hM2, show (M : Int).tdiv 2 = ((M / 2 : Nat) : Int) from (Int.ofNat_tdiv M 2).symm]
      exact wr _ (by omega) (by omega)
    have et : (M : Int).tmod 2 = ((M % 2 : Nat) : Int) := (Int.ofNat_tmod M 2).symm
    have r1 : ((1 + (wrS N k).size : Nat) : Int) ≤ 9223372036854775807 := by omega
    by_cases h1 : M % 2 = 1
    · have d : ((M : Int).tmod 2 == 1) = true := by rw [et, h1]; rfl
      rw [if_pos h1] at hc
      refine Wp.skip (thenK_at (Wp.seq (Wp.block (Wp.seq (Wp.seq (Wp.text ?_))))))
      refine kp 12 (.int IntKind.i64 (↑M : Int)) ?_
      refine kp 13 (.int IntKind.i64 (Int.tmod (↑M : Int) 2)) ?_
      refine kp 14 (.bool true) ?_ (hop := fun _ => by_fact d)
      refine WpOps.nil (thenK_at (on' (Wp.text ?_)))
      refine kp 15 (.string (wrS N k)) ?_
      refine kp 16 (.string (ByteArray.mk #[49] ++ wrS N k)) ?_ (hop := fun _ => o_add r1)
      refine kp 5 (.string (ByteArray.mk #[49] ++ wrS N k)) ?_
      refine WpOps.nil (thenK_at (Wp.text ?_))
      refine kp 19 (.int IntKind.i64 (↑M : Int)) ?_
      refine kp 20 (.int IntKind.i64 (IntKind.wrap .i64 (Int.tdiv (↑M : Int) 2))) ?_
      refine kp 0 (.int IntKind.i64 (IntKind.wrap .i64 (Int.tdiv (↑M : Int) 2))) ?_
      refine WpOps.nil (blockK_norm (thenK_at (Wp.text ?_)))
      refine kp 10 (.int IntKind.i64 (↑k : Int)) ?_
      refine kp 11 (.int IntKind.i64 (IntKind.wrap .i64 ((↑k : Int) + 1))) ?_
      refine kp 6 (.int IntKind.i64 (IntKind.wrap .i64 ((↑k : Int) + 1))) ?_
      refine WpOps.nil (thenK_at ?_)
      exact ⟨k + 1, by omega, by omega, View.of [] [] _ (by decide) rfl trivial ⟨⟨congrArg (Value.int .i64) eq, rfl⟩, ⟨by kernel_rfl, rfl⟩, ⟨congrArg Value.string hc, rfl⟩, ⟨congrArg (Value.int .i64) (wr _ (by omega) (by omega)), rfl⟩, trivial⟩⟩
    · have d : ((M : Int).tmod 2 == 1) = false := by rw [et]; exact beq_eq_false_iff_ne.2 (by omega)
      rw [if_neg h1] at hc
      refine Wp.skip (thenK_at (Wp.seq (Wp.block (Wp.seq (Wp.seq (Wp.text ?_))))))
      refine kp 12 (.int IntKind.i64 (↑M : Int)) ?_
      refine kp 13 (.int IntKind.i64 (Int.tmod (↑M : Int) 2)) ?_
      refine kp 14 (.bool false) ?_ (hop := fun _ => by_fact d)
      refine WpOps.nil (thenK_at (off' (Wp.text ?_)))
      refine kp 17 (.string (wrS N k)) ?_
      refine kp 18 (.string (ByteArray.mk #[48] ++ wrS N k)) ?_ (hop := fun _ => o_add r1)
      refine kp 5 (.string (ByteArray.mk #[48] ++ wrS N k)) ?_
      refine WpOps.nil (thenK_at (Wp.text ?_))
      refine kp 19 (.int IntKind.i64 (↑M : Int)) ?_
      refine kp 20 (.int IntKind.i64 (IntKind.wrap .i64 (Int.tdiv (↑M : Int) 2))) ?_
      refine kp 0 (.int IntKind.i64 (IntKind.wrap .i64 (Int.tdiv (↑M : Int) 2))) ?_
      refine WpOps.nil (blockK_norm (thenK_at (Wp.text ?_)))
      refine kp 10 (.int IntKind.i64 (↑k : Int)) ?_
      refine kp 11 (.int IntKind.i64 (IntKind.wrap .i64 ((↑k : Int) + 1))) ?_
      refine kp 6 (.int IntKind.i64 (IntKind.wrap .i64 ((↑k : Int) + 1))) ?_
      refine WpOps.nil (thenK_at ?_)
      exact ⟨k + 1, by omega, by omega, View.of [] [] _ (by decide) rfl trivial ⟨⟨congrArg (Value.int .i64) eq, rfl⟩, ⟨by kernel_rfl, rfl⟩, ⟨congrArg Value.string hc, rfl⟩, ⟨congrArg (Value.int .i64) (wr _ (by omega) (by omega)), rfl⟩, trivial⟩⟩
  · have hle : ¬ ((k : Int) < m) := of_decide_eq_false hd
    obtain rfl : k = m := by omega
    refine Wp.exit (thenK_exit (thenK_exit (blockK_hit (thenK_at (Wp.seq (Wp.text ?_))))))
    refine kp 21 (.string (wrS N k)) ?_
    refine kp 4 (.string (wrS N k)) ?_
    refine WpOps.nil (thenK_at (Wp.ret ?_))
    refine endK_retn [Value.string (wrS N k)] (Value.string (wrS N k)) (by kernel_rfl) (by kernel_rfl) ?_
    rfl
def oV (k : Nat) : Value := if k = 0 then .slice none 0 0 else .slice (some ⟨0, 0, none⟩) (8 * k) (8 * k)
def oB (s : ByteArray) (k : Nat) : List Blk := if k = 0 then [] else [⟨5, true, byteCells (unS s k)⟩]
theorem oV_nil : oV 0 = .slice none 0 0 := rfl
theorem oV_own {k : Nat} (h : ¬ k = 0) : oV k = .slice (some ⟨0, 0, none⟩) (8 * k) (8 * k) := if_neg h
theorem oB_nil (s : ByteArray) : oB s 0 = [] := rfl
theorem oB_own {s : ByteArray} {k : Nat} (h : ¬ k = 0) : oB s k = [⟨5, true, byteCells (unS s k)⟩] := if_neg h
theorem cells_cat (a b : ByteArray) : byteCells a ++ byteCells b = byteCells (a ++ b) := by
  unfold byteCells
  rw [ByteArray.data_append, Array.toList_append, List.map_append]
theorem f19 : E.funcs 19 = some Try.f19 := by kernel_rfl
theorem unpack19 (s : ByteArray) : Fun E 19 [.string s] (unpackV s) := by
  unfold unpackV
  by_cases hs : s.size ≤ 4000
  · rw [if_pos hs]
    refine Fun.of f19 rfl (of_decide_eq_true (by kernel_rfl)) rfl ?_
    have d0 : decide ((s.size : Int) > 4000) = false := decide_eq_false (by omega)
    refine Wp.seq (Wp.text ?_)
    refine kp 2 (.string (ByteArray.mk #[])) ?_
    refine kp 3 (.int IntKind.i64 0) ?_
    refine WpOps.nil (thenK_at (Wp.seq (Wp.seq (Wp.text ?_))))
    refine kp 6 (.string s) ?_
    refine kp 7 (.int IntKind.i64 (↑(ByteArray.size s) : Int)) ?_
    refine kp 8 (.bool false) ?_ (hop := fun _ => by_fact d0)
    refine WpOps.nil (thenK_at (off' (Wp.skip (thenK_at (Wp.seq (Wp.text ?_))))))
    refine kp 4 (.slice none 0 0) ?_
    refine WpOps.nil (thenK_at (Wp.seq (Wp.seq (Wp.text ?_))))
    refine kp 5 (.int IntKind.i64 0) ?_
    refine WpOps.nil (thenK_at (Wp.block ?_))
    refine Wp.loop (G := Nat) (fun k => layj [(0, .string s), (4, oV k), (5, .int .i64 k)]) (fun k => heapOf (oB s k)) (fun k => s.size - k) (fun k => k ≤ s.size) 0
      (View.of [] [] _ (by decide) rfl trivial ⟨⟨by kernel_rfl, rfl⟩, ⟨by kernel_rfl, rfl⟩, ⟨by kernel_rfl, rfl⟩, trivial⟩) (Nat.zero_le _) ?_
    intro k hk
    by_cases hlt : k < s.size
    · have d1 : decide ((k : Int) < s.size) = true := decide_eq_true (by omega)
      have m3 : 0 ≤ (k : Int) := by omega
      have n3 := byte_get s k hlt
      have hb := UInt8.toNat_lt (byteAt s k)
      have eb : IntKind.i64.wrap ((byteAt s k).toNat : Int) = ((byteAt s k).toNat : Int) := wr _ (by omega) (by omega)
      have c1 : Fun E 28 [.int .i64 (IntKind.i64.wrap ((byteAt s k).toNat : Int)), .int .i64 8] (.string (wrS (byteAt s k).toNat 8)) := by rw [eb]; exact digits28 _ 8 (by decide) (by omega)
      have z : (wrS (byteAt s k).toNat 8).size = 8 := mkB_size _ _
      obtain ⟨W, hW⟩ : ∃ W, W = wrS (byteAt s k).toNat 8 := ⟨_, rfl⟩
      rw [← hW] at c1 z
      have hun : unS s (k + 1) = unS s k ++ W := by rw [hW, unS]
      by_cases h0 : k = 0
      · subst h0
        rw [oV_nil, oB_nil]
        have b1 : ¬ (0 + W.size ≤ 0) := by omega
        have b2 : 1 ≤ 1 ∧ (0 + W.size) * 1 ≤ 140737488355328 ∧ 1 = 1 ∧ 0 + W.size ≤ 9223372036854775807 := by omega
        refine Wp.seq (Wp.seq (Wp.text ?_))
        refine kp 9 (.int IntKind.i64 (↑0 : Int)) ?_
        refine kp 10 (.string s) ?_
        refine kp 11 (.int IntKind.i64 (↑(ByteArray.size s) : Int)) ?_
        refine kp 12 (.bool true) ?_ (hop := fun _ => by_fact d1)
        refine WpOps.nil (thenK_at (on' (Wp.skip (thenK_at (Wp.seq (Wp.block (Wp.text ?_)))))))
        refine kp 15 (.slice none 0 0) ?_
        refine kp 16 (.string s) ?_
        refine kp 17 (.int IntKind.i64 (↑0 : Int)) ?_
        refine kp 18 (.int IntKind.u8 (↑(UInt8.toNat (byteAt s 0)) : Int)) ?_ (hop := fun _ => o_indexStr (of_decide_eq_true (by kernel_rfl)) n3)
        refine kp 19 (.int IntKind.i64 (IntKind.wrap .i64 (↑(UInt8.toNat (byteAt s 0)) : Int))) ?_
        refine fr 20 28 [Value.int .i64 (IntKind.wrap .i64 (↑(UInt8.toNat (byteAt s 0)) : Int)), Value.int .i64 8] ?_
        refine WpFun.of (c1) ?_
        refine md 21 (.slice (some ⟨0, 0, none⟩) (ByteArray.size W) (ByteArray.size W)) (Blk.mk 5 true (byteCells W)) ?_ (hop := fun _ => o_append0 (e := 5) _ b1 b2)
        refine kp 4 (.slice (some ⟨0, 0, none⟩) (ByteArray.size W) (ByteArray.size W)) ?_
        refine WpOps.nil (blockK_norm (thenK_at (Wp.text ?_)))
        refine kp 13 (.int IntKind.i64 (↑0 : Int)) ?_
        refine kp 14 (.int IntKind.i64 (IntKind.wrap .i64 ((↑0 : Int) + 1))) ?_
        refine kp 5 (.int IntKind.i64 (IntKind.wrap .i64 ((↑0 : Int) + 1))) ?_
        refine WpOps.nil (thenK_at ?_)
        refine ⟨0 + 1, by omega, by omega, ?_⟩
        try dsimp only
        rw [oV_own (by omega), oB_own (by omega)]
        have e3 : byteCells W = byteCells (unS s (0 + 1)) := by
          rw [hun, ← cells_cat]
          rfl
        have e4 : W.size = 8 * (0 + 1) := by omega
        exact View.of [0] [⟨5, true, byteCells (unS s (0 + 1))⟩] _ (by decide) rfl ⟨⟨_, by kernel_rfl, CellsOk.eq e3 (byteCells_flat _)⟩, trivial⟩ ⟨⟨by kernel_rfl, rfl⟩, ⟨(congrArg (fun n => Value.slice (some ⟨0, 0, none⟩) n n) e4), rfl⟩, ⟨congrArg (Value.int .i64) (wr _ (by omega) (by omega)), rfl⟩, trivial⟩
      · rw [oV_own h0, oB_own h0]
        have b1 : ¬ (8 * k + W.size ≤ 8 * k) := by omega
        have b2 : 1 ≤ 1 ∧ (8 * k + W.size) * 1 ≤ 140737488355328 ∧ 1 = 1 ∧ 8 * k + W.size ≤ 9223372036854775807 := by omega
        have b3 := cells_whole (byteCells (unS s k)) (8 * k * 1) (by rw [byteCells_length, unS_size]; omega)
        have e3 : byteCells (unS s k) ++ byteCells W = byteCells (unS s (k + 1)) := by rw [cells_cat, hun]
        have e4 : 8 * k + W.size = 8 * (k + 1) := by omega
        refine Wp.seq (Wp.seq (Wp.text ?_))
        refine kp 9 (.int IntKind.i64 (↑k : Int)) ?_
        refine kp 10 (.string s) ?_
        refine kp 11 (.int IntKind.i64 (↑(ByteArray.size s) : Int)) ?_
        refine kp 12 (.bool true) ?_ (hop := fun _ => by_fact d1)
        refine WpOps.nil (thenK_at (on' (Wp.skip (thenK_at (Wp.seq (Wp.block (Wp.text ?_)))))))
        refine kp 15 (.slice (some ⟨0, 0, none⟩) (8 * k) (8 * k)) ?_
        refine kp 16 (.string s) ?_
        refine kp 17 (.int IntKind.i64 (↑k : Int)) ?_
        refine kp 18 (.int IntKind.u8 (↑(UInt8.toNat (byteAt s k)) : Int)) ?_ (hop := fun _ => o_indexStr m3 n3)
        refine kp 19 (.int IntKind.i64 (IntKind.wrap .i64 (↑(UInt8.toNat (byteAt s k)) : Int))) ?_
        refine fr 20 28 [Value.int .i64 (IntKind.wrap .i64 (↑(UInt8.toNat (byteAt s k)) : Int)), Value.int .i64 8] ?_
        refine WpFun.of (c1) ?_
        refine ra 21 (.slice (some ⟨1, 0, none⟩) (8 * k + ByteArray.size W) (8 * k + ByteArray.size W)) (0) (Blk.mk 5 true (byteCells (unS s k) ++ byteCells W)) ?_ (hop := fun _ => o_append (e := 5) 0 (0) (8 * k) _ (8 * k) b1 b2 b3)
        refine kp 4 (.slice (some ⟨1, 0, none⟩) (8 * k + ByteArray.size W) (8 * k + ByteArray.size W)) ?_
        refine WpOps.nil (blockK_norm (thenK_at (Wp.text ?_)))
        refine kp 13 (.int IntKind.i64 (↑k : Int)) ?_
        refine kp 14 (.int IntKind.i64 (IntKind.wrap .i64 ((↑k : Int) + 1))) ?_
        refine kp 5 (.int IntKind.i64 (IntKind.wrap .i64 ((↑k : Int) + 1))) ?_
        refine WpOps.nil (thenK_at ?_)
        refine ⟨k + 1, by omega, by omega, ?_⟩
        try dsimp only
        rw [oV_own (by omega), oB_own (by omega)]
        exact View.of [1] [⟨5, true, byteCells (unS s (k + 1))⟩] _ (by decide) rfl ⟨⟨_, by kernel_rfl, CellsOk.eq e3 (byteCells_flat _)⟩, trivial⟩ ⟨⟨by kernel_rfl, rfl⟩, ⟨congrArg (fun n => Value.slice (some ⟨1, 0, none⟩) n n) e4, rfl⟩, ⟨congrArg (Value.int .i64) (wr _ (by omega) (by omega)), rfl⟩, trivial⟩
    · have d1 : decide ((k : Int) < s.size) = false := decide_eq_false (by omega)
      obtain rfl : k = s.size := by omega
      by_cases h0 : s.size = 0
      · rw [h0, oV_nil, oB_nil]
        rw [h0] at d1
        have d2 : decide (((0 : Nat) : Int) < s.size) = false := by rw [h0]; rfl
        refine Wp.seq (Wp.seq (Wp.text ?_))
        refine kp 9 (.int IntKind.i64 (↑0 : Int)) ?_
        refine kp 10 (.string s) ?_
        refine kp 11 (.int IntKind.i64 (↑(ByteArray.size s) : Int)) ?_
        refine kp 12 (.bool false) ?_ (hop := fun _ => by_fact d2)
        refine WpOps.nil (thenK_at (off' (Wp.exit (thenK_exit (thenK_exit (blockK_hit (thenK_at (Wp.seq (Wp.text ?_)))))))))
        refine kp 22 (.slice none 0 0) ?_
        refine kp 23 (.string ByteArray.empty) ?_
        refine kp 2 (.string ByteArray.empty) ?_
        refine kp 3 (.int IntKind.i64 0) ?_
        refine WpOps.nil (thenK_at (Wp.ret ?_))
        refine endK_retn [Value.string ByteArray.empty, Value.int IntKind.i64 0] (Value.tuple #[Value.string ByteArray.empty, Value.int IntKind.i64 0]) (by kernel_rfl) (by kernel_rfl) ?_
        rfl
      · rw [oV_own h0, oB_own h0]
        have b3 := cells_whole (byteCells (unS s s.size)) (8 * s.size) (by rw [byteCells_length, unS_size])
        have b4 := cellBytes_byte (unS s s.size)
        refine Wp.seq (Wp.seq (Wp.text ?_))
        refine kp 9 (.int IntKind.i64 (↑(ByteArray.size s) : Int)) ?_
        refine kp 10 (.string s) ?_
        refine kp 11 (.int IntKind.i64 (↑(ByteArray.size s) : Int)) ?_
        refine kp 12 (.bool false) ?_ (hop := fun _ => by_fact d1)
        refine WpOps.nil (thenK_at (off' (Wp.exit (thenK_exit (thenK_exit (blockK_hit (thenK_at (Wp.seq (Wp.text ?_)))))))))
        refine kp 22 (.slice (some ⟨0, 0, none⟩) (8 * ByteArray.size s) (8 * ByteArray.size s)) ?_
        refine kp 23 (.string (ByteArray.mk (List.toArray (Array.toList (ByteArray.data (unS s (ByteArray.size s))))))) ?_ (hop := fun _ => o_bytes 5 0 (0) (8 * ByteArray.size s) b3 b4)
        refine kp 2 (.string (ByteArray.mk (List.toArray (Array.toList (ByteArray.data (unS s (ByteArray.size s))))))) ?_
        refine kp 3 (.int IntKind.i64 0) ?_
        refine WpOps.nil (thenK_at (Wp.ret ?_))
        refine endK_retn [Value.string (ByteArray.mk (List.toArray (Array.toList (ByteArray.data (unS s (ByteArray.size s)))))), Value.int IntKind.i64 0] (Value.tuple #[Value.string (ByteArray.mk (List.toArray (Array.toList (ByteArray.data (unS s (ByteArray.size s)))))), Value.int IntKind.i64 0]) (by kernel_rfl) (by kernel_rfl) ?_
        rfl
  · rw [if_neg hs]
    refine Fun.of f19 rfl (of_decide_eq_true (by kernel_rfl)) rfl ?_
    have d0 : decide ((s.size : Int) > 4000) = true := decide_eq_true (by omega)
    refine Wp.seq (Wp.text ?_)
    refine kp 2 (.string (ByteArray.mk #[])) ?_
    refine kp 3 (.int IntKind.i64 0) ?_
    refine WpOps.nil (thenK_at (Wp.seq (Wp.seq (Wp.text ?_))))
    refine kp 6 (.string s) ?_
    refine kp 7 (.int IntKind.i64 (↑(ByteArray.size s) : Int)) ?_
    refine kp 8 (.bool true) ?_ (hop := fun _ => by_fact d0)
    refine WpOps.nil (thenK_at (on' (Wp.seq (Wp.text ?_))))
    refine kp 2 (.string (ByteArray.mk #[])) ?_
    refine kp 3 (.int IntKind.i64 2) ?_
    refine WpOps.nil (thenK_at (Wp.ret (thenK_ret ?_)))
    refine endK_retn [Value.string (ByteArray.mk #[]), Value.int IntKind.i64 2] (Value.tuple #[Value.string (ByteArray.mk #[]), Value.int IntKind.i64 2]) (by kernel_rfl) (by kernel_rfl) ?_
    rfl
end Go.Proofs.Ythhlfddpacmhfaa.D
