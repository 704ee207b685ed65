/- A piece put into a whole. -/
import Derived.Test.YtpkkcpglbjbgfaaFwLem
import Derived.Test.YtpkkcpglbjbgfaaFwCons
import Derived.Test.YtpkkcpglbjbgfaaFwMat
import Derived.Test.YtpkkcpglbjbgfaaFwEnter
import Derived.Test.YtpkkcpglbjbgfaaFwOver
import Derived.Test.YtpkkcpglbjbgfaaH14a
namespace Go.Proofs.Ytpkkcpglbjbgfaa.D
open Go.Fw Go.RowKit

theorem pre8 {P : Nat → Blk → Prop} {a0 a1 a2 a3 a4 a5 a6 a7 : Blk} (h0 : P 0 a0) (h1 : P 1 a1) (h2 : P 2 a2) (h3 : P 3 a3) (h4 : P 4 a4) (h5 : P 5 a5) (h6 : P 6 a6) (h7 : P 7 a7) : ∀ b x, [a0, a1, a2, a3, a4, a5, a6, a7][b]? = some x → P b x
  | 0, x, h => by cases h; exact h0
  | 1, x, h => by cases h; exact h1
  | 2, x, h => by cases h; exact h2
  | 3, x, h => by cases h; exact h3
  | 4, x, h => by cases h; exact h4
  | 5, x, h => by cases h; exact h5
  | 6, x, h => by cases h; exact h6
  | 7, x, h => by cases h; exact h7
  | b + 8, x, h => by simp at h
/-- What is there with a piece's first bytes. -/
def thN (th : Nat → Bool) (a n : Nat) (i : Nat) : Bool := th i || (decide (a ≤ i) && decide (i < a + n))
theorem thN_zero (th : Nat → Bool) (a : Nat) : thN th a 0 = th := by
  funext i
  unfold thN
  by_cases h : a ≤ i
  · rw [decide_eq_true h, decide_eq_false (show ¬ i < a + 0 by omega)]
    simp
  · rw [decide_eq_false h]
    simp
theorem thN_next (th : Nat → Bool) (a n i : Nat) : thN th a (n + 1) i = if i = a + n then true else thN th a n i := by
  unfold thN
  by_cases h : i = a + n
  · rw [if_pos h, decide_eq_true (show a ≤ i by omega), decide_eq_true (show i < a + (n + 1) by omega)]
    simp
  · rw [if_neg h]
    have : decide (i < a + (n + 1)) = decide (i < a + n) := decide_eq_decide.2 (by omega)
    rw [this]
theorem bC_set (T : Nat) (th : Nat → Bool) (a n : Nat) : (bC T (thN th a n)).set (a + n) (.bool true) = bC T (thN th a (n + 1)) := by
  unfold bC
  rw [map_set]
  refine List.map_congr_left fun i _ => ?_
  rw [thN_next]
  split <;> rfl
theorem dC_set (D : ByteArray) (T : Nat) (th : Nat → Bool) (a n : Nat) : (dC D T (thN th a n)).set (a + n) (.int .u8 (byteAt D (a + n)).toNat) = dC D T (thN th a (n + 1)) := by
  unfold dC
  rw [mkB_set]
  refine congrArg byteCells (mkB_congr fun i _ => ?_)
  rw [thN_next]
  by_cases h : i = a + n
  · rw [if_pos h, if_pos h, if_pos rfl, h]
  · rw [if_neg h, if_neg h]
theorem ext_at (D : ByteArray) (a s n : Nat) (hn : n < s) : byteAt (D.extract a (a + s)) n = byteAt D (a + n) := by
  have e : (D.extract a (a + s)).data.toList = (D.data.toList.take (a + s)).drop a := by
    rw [← List.take_drop]
    simp
  unfold byteAt
  rw [e, List.getD_eq_getElem?_getD, List.getElem?_drop, List.getElem?_take, if_pos (by omega), ← List.getD_eq_getElem?_getD]
theorem f65 : E.funcs 65 = some Try.f65 := by kernel_rfl
set_option maxHeartbeats 4000000 in
theorem put65NN (T : Nat) (D : ByteArray) (th : Nat → Bool) (k p : Gr) (a : Nat) (ha : p.at' = a) (hb : (p.at' == 0) = false) (hd : p.data = D.extract a (a + p.data.size)) (hD : a + p.data.size ≤ D.size) (hT : D.size = T) (hT2 : T ≤ 4000) : SCall E 65 [.pointer (some ⟨2, 0, none⟩), gv p] (heapOf [st1, ar1, ⟨122, true, (wN T k)⟩, ⟨5, true, dC D T th⟩, ⟨4, true, bC T th⟩, ⟨24, true, (gc p)⟩, ⟨24, true, zc⟩]) (.tuple #[]) (heapOf [st1, ar1, ⟨122, true, (wN T k)⟩, ⟨5, true, dC D T (thN th a p.data.size)⟩, ⟨4, true, bC T (thN th a p.data.size)⟩, ⟨24, true, (gc p)⟩, ⟨24, true, zc⟩]) := by
  refine SCall.enterL f65 rfl (of_decide_eq_true (by kernel_rfl)) (by kernel_rfl) (by kernel_rfl) (Nat.le_refl _) ?_
  refine Wp.seq (Wp.text ?_)
  refine md 3 (.pointer (some ⟨7, 0, none⟩)) (Blk.mk 24 true (gc p)) ?_
  refine WpOps.nil (thenK_at (Wp.seq (Wp.seq (Wp.text ?_))))
  refine kp 5 (.pointer (some ⟨7, 4, none⟩)) ?_
  refine kp 6 (.int IntKind.i64 (Gr.at' p)) ?_
  refine kp 7 (.bool false) ?_ (hop := fun _ => by_fact hb)
  refine kp 8 (.bool false) ?_
  refine um 9 ?_
  refine um 10 ?_
  refine um 11 ?_
  refine um 12 ?_
  refine um 13 ?_
  refine kp 14 (.bool false) ?_
  refine WpOps.nil (thenK_at (off' (Wp.skip (thenK_at (Wp.seq (Wp.text ?_))))))
  refine kp 23 (.pointer (some ⟨7, 10, none⟩)) ?_
  refine kp 24 (.string (Gr.data p)) ?_
  refine kp 25 (.int IntKind.i64 (↑(ByteArray.size (Gr.data p)) : Int)) ?_
  refine kp 26 (.int IntKind.i64 0) ?_
  refine WpOps.nil (thenK_at (Wp.block ?_))
  refine Wp.loop (G := Nat) (fun j => layj [(0, .pointer (some ⟨2, 0, none⟩)), (3, .pointer (some ⟨7, 0, none⟩)), (25, .int .i64 p.data.size), (26, .int .i64 j)]) (fun j => heapOf [st1, ar1, ⟨122, true, (wN T k)⟩, ⟨5, true, dC D T (thN th a j)⟩, ⟨4, true, bC T (thN th a j)⟩, ⟨24, true, (gc p)⟩, ⟨24, true, zc⟩, ⟨24, true, (gc p)⟩]) (fun j => p.data.size - j) (fun j => j ≤ p.data.size) 0 ?_ (Nat.zero_le _) ?_
  · rw [thN_zero]
    exact View.same [st1, ar1, ⟨122, true, (wN T k)⟩, ⟨5, true, dC D T th⟩, ⟨4, true, bC T th⟩, ⟨24, true, (gc p)⟩, ⟨24, true, zc⟩, ⟨24, true, (gc p)⟩] _ (by simp) (pre8 ⟨by kernel_rfl, by kernel_rfl⟩ ⟨by kernel_rfl, by kernel_rfl⟩ ⟨by kernel_rfl, by kernel_rfl⟩ ⟨by kernel_rfl, okCs_flat (dC_flat _ _ _)⟩ ⟨by kernel_rfl, okCs_flat (bC_flat _ _)⟩ ⟨by kernel_rfl, by kernel_rfl⟩ ⟨by kernel_rfl, by kernel_rfl⟩ ⟨by kernel_rfl, by kernel_rfl⟩) ⟨⟨by kernel_rfl, by kernel_rfl⟩, ⟨by kernel_rfl, by kernel_rfl⟩, ⟨by kernel_rfl, rfl⟩, ⟨by kernel_rfl, rfl⟩, trivial⟩
  intro j hj
  by_cases hlt : j < p.data.size
  · have d1 : decide ((j : Int) < p.data.size) = true := decide_eq_true (by omega)
    have hw : IntKind.i64.wrap (p.at' + (j : Int)) = ((a + j : Nat) : Int) := by rw [ha, wr _ (by omega) (by omega)]; omega
    have g2 : 0 ≤ IntKind.i64.wrap (p.at' + (j : Int)) ∧ IntKind.i64.wrap (p.at' + (j : Int)) < T := by rw [hw]; omega
    have u1 : (bC T (thN th a j))[0 + (IntKind.i64.wrap (p.at' + (j : Int))).toNat * 1]? = some (.bool (thN th a j (a + j))) := by
      rw [hw, Int.toNat_natCast, Nat.zero_add, Nat.mul_one]
      exact bC_at _ (by omega)
    cases hth : thN th a j (a + j) with
    | true =>
      rw [hth] at u1
      have hsame : ∀ i, thN th a j i = thN th a (j + 1) i := fun i => by
        rw [thN_next]
        by_cases e : i = a + j
        · rw [if_pos e, e, hth]
        · rw [if_neg e]
      refine Wp.seq (Wp.text ?_)
      refine kp 27 (.bool true) ?_ (hop := fun _ => by_fact d1)
      refine WpOps.nil (thenK_at (Wp.seq (on' (Wp.skip (thenK_at (Wp.seq (Wp.block (Wp.seq (Wp.text ?_)))))))))
      refine kp 28 (.int IntKind.i64 (↑j : Int)) ?_
      refine kp 4 (.int IntKind.i64 (↑j : Int)) ?_
      refine WpOps.nil (thenK_at (Wp.seq ?_))
      refine Wp.region (by kernel_rfl) ?_
      refine kp 29 (.pointer (some ⟨2, 0, none⟩)) ?_
      refine kp 30 (.pointer (some ⟨2, 0, none⟩)) ?_
      refine kp 31 (.pointer (some ⟨2, 24, none⟩)) ?_
      refine kp 32 (.slice (some ⟨4, 0, none⟩) T T) ?_
      refine kp 33 (.pointer (some ⟨7, 4, none⟩)) ?_
      refine kp 34 (.int IntKind.i64 (Gr.at' p)) ?_
      refine kp 35 (.int IntKind.i64 (↑j : Int)) ?_
      refine kp 36 (.int IntKind.i64 (IntKind.wrap .i64 (Gr.at' p + (↑j : Int)))) ?_
      refine kp 37 (.pointer (some (Addr.mk 4 (0 + Int.toNat (IntKind.wrap .i64 (Gr.at' p + (↑j : Int))) * 1) none))) ?_ (hop := fun _ => o_indexAddr (a := IntKind.wrap IntKind.i64 (Gr.at' p + (↑j : Int))) (bl := 4) (off := 0) (size := 1) 4 (T) g2)
      refine kp 38 (.bool true) ?_ (hop := fun _ => o_load1 (4) (0 + Int.toNat (IntKind.wrap IntKind.i64 (Gr.at' p + (↑j : Int))) * 1) u1)
      refine kp 39 (.bool false) ?_
      refine WpOps.nil (thenK_at (off' (Wp.skip (blockK_norm (thenK_at (Wp.text ?_))))))
      refine kp 62 (.int IntKind.i64 (IntKind.wrap .i64 ((↑j : Int) + 1))) ?_
      refine kp 26 (.int IntKind.i64 (IntKind.wrap .i64 ((↑j : Int) + 1))) ?_
      refine WpOps.nil (thenK_at ?_)
      refine ⟨j + 1, by omega, by omega, ?_⟩
      try dsimp only
      rw [← show thN th a j = thN th a (j + 1) from funext hsame]
      exact View.same [st1, ar1, ⟨122, true, (wN T k)⟩, ⟨5, true, dC D T (thN th a j)⟩, ⟨4, true, bC T (thN th a j)⟩, ⟨24, true, (gc p)⟩, ⟨24, true, zc⟩, ⟨24, true, (gc p)⟩] _ (by simp) (pre8 ⟨by kernel_rfl, by kernel_rfl⟩ ⟨by kernel_rfl, by kernel_rfl⟩ ⟨by kernel_rfl, by kernel_rfl⟩ ⟨by kernel_rfl, okCs_flat (dC_flat _ _ _)⟩ ⟨by kernel_rfl, okCs_flat (bC_flat _ _)⟩ ⟨by kernel_rfl, by kernel_rfl⟩ ⟨by kernel_rfl, by kernel_rfl⟩ ⟨by kernel_rfl, by kernel_rfl⟩) ⟨⟨by kernel_rfl, by kernel_rfl⟩, ⟨by kernel_rfl, by kernel_rfl⟩, ⟨by kernel_rfl, rfl⟩, ⟨congrArg (Value.int .i64) (wr _ (by omega) (by omega)), rfl⟩, trivial⟩
    | false =>
      rw [hth] at u1
      have q1 : ∀ v : Value, true = true ∧ 0 + (IntKind.i64.wrap (p.at' + (j : Int))).toNat * 1 + 1 ≤ (bC T (thN th a j)).length := fun _ => ⟨rfl, by rw [bC_len, hw]; omega⟩
      have q2 : ∀ v : Value, true = true ∧ 0 + (IntKind.i64.wrap (p.at' + (j : Int))).toNat * 1 + 1 ≤ (dC D T (thN th a j)).length := fun _ => ⟨rfl, by rw [dC_len, hw]; omega⟩
      have q3 := q1 (.bool true)
      have q4 : true = true ∧ 0 + (IntKind.i64.wrap (p.at' + (j : Int))).toNat * 1 + [Value.int .u8 (byteAt p.data j).toNat].length ≤ (dC D T (thN th a j)).length := q2 (.int .u8 0)
      have g3 : 0 ≤ (j : Int) ∧ (j : Int) < p.data.size := by omega
      have g4 := byte_get p.data j hlt
      have e1 : (bC T (thN th a j)).set (0 + (IntKind.i64.wrap (p.at' + (j : Int))).toNat * 1) (.bool true) = bC T (thN th a (j + 1)) := by
        rw [hw, Int.toNat_natCast, Nat.zero_add, Nat.mul_one, bC_set]
      have e2 : (dC D T (thN th a j)).set (0 + (IntKind.i64.wrap (p.at' + (j : Int))).toNat * 1) (.int .u8 (byteAt p.data j).toNat) = dC D T (thN th a (j + 1)) := by
        have hb2 : byteAt p.data j = byteAt D (a + j) := by rw [hd]; exact ext_at D a _ j hlt
        rw [hw, Int.toNat_natCast, Nat.zero_add, Nat.mul_one, hb2, dC_set]
      refine Wp.seq (Wp.text ?_)
      refine kp 27 (.bool true) ?_ (hop := fun _ => by_fact d1)
      refine WpOps.nil (thenK_at (Wp.seq (on' (Wp.skip (thenK_at (Wp.seq (Wp.block (Wp.seq (Wp.text ?_)))))))))
      refine kp 28 (.int IntKind.i64 (↑j : Int)) ?_
      refine kp 4 (.int IntKind.i64 (↑j : Int)) ?_
      refine WpOps.nil (thenK_at (Wp.seq ?_))
      refine Wp.region (by kernel_rfl) ?_
      refine kp 29 (.pointer (some ⟨2, 0, none⟩)) ?_
      refine kp 30 (.pointer (some ⟨2, 0, none⟩)) ?_
      refine kp 31 (.pointer (some ⟨2, 24, none⟩)) ?_
      refine kp 32 (.slice (some ⟨4, 0, none⟩) T T) ?_
      refine kp 33 (.pointer (some ⟨7, 4, none⟩)) ?_
      refine kp 34 (.int IntKind.i64 (Gr.at' p)) ?_
      refine kp 35 (.int IntKind.i64 (↑j : Int)) ?_
      refine kp 36 (.int IntKind.i64 (IntKind.wrap .i64 (Gr.at' p + (↑j : Int)))) ?_
      refine kp 37 (.pointer (some (Addr.mk 4 (0 + Int.toNat (IntKind.wrap .i64 (Gr.at' p + (↑j : Int))) * 1) none))) ?_ (hop := fun _ => o_indexAddr (a := IntKind.wrap IntKind.i64 (Gr.at' p + (↑j : Int))) (bl := 4) (off := 0) (size := 1) 4 (T) g2)
      refine kp 38 (.bool false) ?_ (hop := fun _ => o_load1 (4) (0 + Int.toNat (IntKind.wrap IntKind.i64 (Gr.at' p + (↑j : Int))) * 1) u1)
      refine kp 39 (.bool true) ?_
      refine WpOps.nil (thenK_at (on' (Wp.seq ?_)))
      refine Wp.region (by kernel_rfl) ?_
      refine kp 40 (.pointer (some ⟨2, 0, none⟩)) ?_
      refine kp 41 (.pointer (some ⟨2, 0, none⟩)) ?_
      refine kp 42 (.pointer (some ⟨2, 24, none⟩)) ?_
      refine kp 43 (.slice (some ⟨4, 0, none⟩) T T) ?_
      refine kp 44 (.pointer (some ⟨7, 4, none⟩)) ?_
      refine kp 45 (.int IntKind.i64 (Gr.at' p)) ?_
      refine kp 46 (.int IntKind.i64 (↑j : Int)) ?_
      refine kp 47 (.int IntKind.i64 (IntKind.wrap .i64 (Gr.at' p + (↑j : Int)))) ?_
      refine kp 48 (.pointer (some (Addr.mk 4 (0 + Int.toNat (IntKind.wrap .i64 (Gr.at' p + (↑j : Int))) * 1) none))) ?_ (hop := fun _ => o_indexAddr (a := IntKind.wrap IntKind.i64 (Gr.at' p + (↑j : Int))) (bl := 4) (off := 0) (size := 1) 4 (T) g2)
      refine ld (.tuple #[]) (4) (Blk.mk 4 true (List.set (bC T (thN th a j)) (0 + Int.toNat (IntKind.wrap .i64 (Gr.at' p + (↑j : Int))) * 1) (Value.bool true))) ?_ (hop := fun _ => o_store1 (4) (0 + Int.toNat (IntKind.wrap IntKind.i64 (Gr.at' p + (↑j : Int))) * 1) q3)
      refine WpOps.nil (thenK_at ?_)
      refine Wp.region (by kernel_rfl) ?_
      refine kp 49 (.pointer (some ⟨2, 0, none⟩)) ?_
      refine kp 50 (.pointer (some ⟨2, 0, none⟩)) ?_
      refine kp 51 (.pointer (some ⟨2, 23, none⟩)) ?_
      refine kp 52 (.slice (some ⟨3, 0, none⟩) T T) ?_
      refine kp 53 (.pointer (some ⟨7, 4, none⟩)) ?_
      refine kp 54 (.int IntKind.i64 (Gr.at' p)) ?_
      refine kp 55 (.int IntKind.i64 (↑j : Int)) ?_
      refine kp 56 (.int IntKind.i64 (IntKind.wrap .i64 (Gr.at' p + (↑j : Int)))) ?_
      refine kp 57 (.pointer (some ⟨7, 10, none⟩)) ?_
      refine kp 58 (.string (Gr.data p)) ?_
      refine kp 59 (.int IntKind.i64 (↑j : Int)) ?_
      refine kp 60 (.int IntKind.u8 (↑(UInt8.toNat (byteAt (Gr.data p) j)) : Int)) ?_ (hop := fun _ => o_indexStr (of_decide_eq_true (by kernel_rfl)) g4)
      refine kp 61 (.pointer (some (Addr.mk 3 (0 + Int.toNat (IntKind.wrap .i64 (Gr.at' p + (↑j : Int))) * 1) none))) ?_ (hop := fun _ => o_indexAddr (a := IntKind.wrap IntKind.i64 (Gr.at' p + (↑j : Int))) (bl := 3) (off := 0) (size := 1) 5 (T) g2)
      refine ld (.tuple #[]) (3) (Blk.mk 5 true (List.set (dC D T (thN th a j)) (0 + Int.toNat (IntKind.wrap .i64 (Gr.at' p + (↑j : Int))) * 1) (Value.int .u8 (↑(UInt8.toNat (byteAt (Gr.data p) j)) : Int)))) ?_ (hop := fun _ => o_store1 (3) (0 + Int.toNat (IntKind.wrap IntKind.i64 (Gr.at' p + (↑j : Int))) * 1) q4)
      refine WpOps.nil (blockK_norm (thenK_at (Wp.text ?_)))
      refine kp 62 (.int IntKind.i64 (IntKind.wrap .i64 ((↑j : Int) + 1))) ?_
      refine kp 26 (.int IntKind.i64 (IntKind.wrap .i64 ((↑j : Int) + 1))) ?_
      refine WpOps.nil (thenK_at ?_)
      refine ⟨j + 1, by omega, by omega, ?_⟩
      exact View.same [st1, ar1, ⟨122, true, (wN T k)⟩, ⟨5, true, dC D T (thN th a (j + 1))⟩, ⟨4, true, bC T (thN th a (j + 1))⟩, ⟨24, true, (gc p)⟩, ⟨24, true, zc⟩, ⟨24, true, (gc p)⟩] _ (by simp) (pre8 ⟨by kernel_rfl, by kernel_rfl⟩ ⟨by kernel_rfl, by kernel_rfl⟩ ⟨by kernel_rfl, by kernel_rfl⟩ ⟨Eq.trans (by kernel_rfl) (congrArg (fun c => some (Blk.mk 5 true c)) e2), okCs_flat (dC_flat _ _ _)⟩ ⟨Eq.trans (by kernel_rfl) (congrArg (fun c => some (Blk.mk 4 true c)) e1), okCs_flat (bC_flat _ _)⟩ ⟨by kernel_rfl, by kernel_rfl⟩ ⟨by kernel_rfl, by kernel_rfl⟩ ⟨by kernel_rfl, by kernel_rfl⟩) ⟨⟨by kernel_rfl, by kernel_rfl⟩, ⟨by kernel_rfl, by kernel_rfl⟩, ⟨by kernel_rfl, rfl⟩, ⟨congrArg (Value.int .i64) (wr _ (by omega) (by omega)), rfl⟩, trivial⟩
  · obtain rfl : j = p.data.size := by omega
    have d1 : decide ((p.data.size : Int) < p.data.size) = false := decide_eq_false (by omega)
    refine Wp.seq (Wp.text ?_)
    refine kp 27 (.bool false) ?_ (hop := fun _ => by_fact d1)
    refine WpOps.nil (thenK_at (Wp.seq (off' (Wp.exit (thenK_exit (thenK_exit (blockK_hit ?_)))))))
    refine endK_norm [] (Value.tuple #[]) (by kernel_rfl) (by kernel_rfl) ?_
    exact lentSame [st1, ar1, ⟨122, true, (wN T k)⟩, ⟨5, true, dC D T (thN th a p.data.size)⟩, ⟨4, true, bC T (thN th a p.data.size)⟩, ⟨24, true, (gc p)⟩, ⟨24, true, zc⟩] (pre7 ⟨by kernel_rfl, by kernel_rfl⟩ ⟨by kernel_rfl, by kernel_rfl⟩ ⟨by kernel_rfl, by kernel_rfl⟩ ⟨by kernel_rfl, okCs_flat (dC_flat _ _ _)⟩ ⟨by kernel_rfl, okCs_flat (bC_flat _ _)⟩ ⟨by kernel_rfl, by kernel_rfl⟩ ⟨by kernel_rfl, by kernel_rfl⟩) (.w (.un rfl rfl))
set_option maxHeartbeats 4000000 in
theorem put65NB (T : Nat) (D : ByteArray) (th : Nat → Bool) (k p : Gr) (a : Nat) (ha : p.at' = a) (hb : (p.at' == 0) = true) (ok : OkGr p) (hd : p.data = D.extract a (a + p.data.size)) (hD : a + p.data.size ≤ D.size) (hT : D.size = T) (hT2 : T ≤ 4000) : SCall E 65 [.pointer (some ⟨2, 0, none⟩), gv p] (heapOf [st1, ar1, ⟨122, true, (wN T k)⟩, ⟨5, true, dC D T th⟩, ⟨4, true, bC T th⟩, ⟨24, true, (gc p)⟩, ⟨24, true, zc⟩]) (.tuple #[]) (heapOf [st1, ar1, ⟨122, true, (wB T (ownG p) k)⟩, ⟨5, true, dC D T (thN th a p.data.size)⟩, ⟨4, true, bC T (thN th a p.data.size)⟩, ⟨24, true, (gc p)⟩, ⟨24, true, zc⟩]) := by
  refine SCall.enterL f65 rfl (of_decide_eq_true (by kernel_rfl)) (by kernel_rfl) (by kernel_rfl) (Nat.le_refl _) ?_
  have c1 := own64 p ok
  refine Wp.seq (Wp.text ?_)
  refine md 3 (.pointer (some ⟨7, 0, none⟩)) (Blk.mk 24 true (gc p)) ?_
  refine WpOps.nil (thenK_at (Wp.seq (Wp.seq (Wp.text ?_))))
  refine kp 5 (.pointer (some ⟨7, 4, none⟩)) ?_
  refine kp 6 (.int IntKind.i64 (Gr.at' p)) ?_
  refine kp 7 (.bool true) ?_ (hop := fun _ => by_fact hb)
  refine kp 8 (.bool true) ?_
  refine kp 9 (.pointer (some ⟨2, 0, none⟩)) ?_
  refine kp 10 (.pointer (some ⟨2, 0, none⟩)) ?_
  refine kp 11 (.pointer (some ⟨2, 11, none⟩)) ?_
  refine kp 12 (.bool false) ?_
  refine kp 13 (.bool true) ?_
  refine kp 14 (.bool true) ?_
  refine WpOps.nil (thenK_at (on' (Wp.text ?_)))
  refine kp 15 (.pointer (some ⟨2, 0, none⟩)) ?_
  refine kp 16 (.pointer (some ⟨2, 0, none⟩)) ?_
  refine kp 17 (gv p) ?_
  refine fr 18 64 [gv p] ?_
  refine WpFun.of (c1) ?_
  refine kp 19 (.pointer (some ⟨2, 0, none⟩)) ?_
  refine kp 20 (.pointer (some ⟨2, 0, none⟩)) ?_
  refine ld (.tuple #[]) (2) (Blk.mk 122 true [Value.iface 3 (Value.iface (List.length (Gr.fr (Gr.mk (nx (Gr.fx p)) (Gr.fr p) (nx (Gr.tx p)) (Gr.to p) (Gr.number p) (Gr.life p) (Gr.at' p) (Gr.total p) (Gr.report p) (Gr.more p) (Gr.may p) (Gr.wants p) (Gr.data p)))) (Value.iface (Gr.fx (Gr.mk (nx (Gr.fx p)) (Gr.fr p) (nx (Gr.tx p)) (Gr.to p) (Gr.number p) (Gr.life p) (Gr.at' p) (Gr.total p) (Gr.report p) (Gr.more p) (Gr.may p) (Gr.wants p) (Gr.data p))) (Value.agg (List.toArray (List.map (fun n => Value.int .i64 n) (Gr.fr (Gr.mk (nx (Gr.fx p)) (Gr.fr p) (nx (Gr.tx p)) (Gr.to p) (Gr.number p) (Gr.life p) (Gr.at' p) (Gr.total p) (Gr.report p) (Gr.more p) (Gr.may p) (Gr.wants p) (Gr.data p)))))))), Value.iface 3 (Value.iface (List.length (Gr.to (Gr.mk (nx (Gr.fx p)) (Gr.fr p) (nx (Gr.tx p)) (Gr.to p) (Gr.number p) (Gr.life p) (Gr.at' p) (Gr.total p) (Gr.report p) (Gr.more p) (Gr.may p) (Gr.wants p) (Gr.data p)))) (Value.iface (Gr.tx (Gr.mk (nx (Gr.fx p)) (Gr.fr p) (nx (Gr.tx p)) (Gr.to p) (Gr.number p) (Gr.life p) (Gr.at' p) (Gr.total p) (Gr.report p) (Gr.more p) (Gr.may p) (Gr.wants p) (Gr.data p))) (Value.agg (List.toArray (List.map (fun n => Value.int .i64 n) (Gr.to (Gr.mk (nx (Gr.fx p)) (Gr.fr p) (nx (Gr.tx p)) (Gr.to p) (Gr.number p) (Gr.life p) (Gr.at' p) (Gr.total p) (Gr.report p) (Gr.more p) (Gr.may p) (Gr.wants p) (Gr.data p)))))))), Value.int .i64 (Gr.number (Gr.mk (nx (Gr.fx p)) (Gr.fr p) (nx (Gr.tx p)) (Gr.to p) (Gr.number p) (Gr.life p) (Gr.at' p) (Gr.total p) (Gr.report p) (Gr.more p) (Gr.may p) (Gr.wants p) (Gr.data p))), Value.int .i64 (Gr.life (Gr.mk (nx (Gr.fx p)) (Gr.fr p) (nx (Gr.tx p)) (Gr.to p) (Gr.number p) (Gr.life p) (Gr.at' p) (Gr.total p) (Gr.report p) (Gr.more p) (Gr.may p) (Gr.wants p) (Gr.data p))), Value.int .i64 (Gr.at' (Gr.mk (nx (Gr.fx p)) (Gr.fr p) (nx (Gr.tx p)) (Gr.to p) (Gr.number p) (Gr.life p) (Gr.at' p) (Gr.total p) (Gr.report p) (Gr.more p) (Gr.may p) (Gr.wants p) (Gr.data p))), Value.int .i64 (Gr.total (Gr.mk (nx (Gr.fx p)) (Gr.fr p) (nx (Gr.tx p)) (Gr.to p) (Gr.number p) (Gr.life p) (Gr.at' p) (Gr.total p) (Gr.report p) (Gr.more p) (Gr.may p) (Gr.wants p) (Gr.data p))), Value.int .i64 (Gr.report (Gr.mk (nx (Gr.fx p)) (Gr.fr p) (nx (Gr.tx p)) (Gr.to p) (Gr.number p) (Gr.life p) (Gr.at' p) (Gr.total p) (Gr.report p) (Gr.more p) (Gr.may p) (Gr.wants p) (Gr.data p))), Value.bool (Gr.more (Gr.mk (nx (Gr.fx p)) (Gr.fr p) (nx (Gr.tx p)) (Gr.to p) (Gr.number p) (Gr.life p) (Gr.at' p) (Gr.total p) (Gr.report p) (Gr.more p) (Gr.may p) (Gr.wants p) (Gr.data p))), Value.bool (Gr.may (Gr.mk (nx (Gr.fx p)) (Gr.fr p) (nx (Gr.tx p)) (Gr.to p) (Gr.number p) (Gr.life p) (Gr.at' p) (Gr.total p) (Gr.report p) (Gr.more p) (Gr.may p) (Gr.wants p) (Gr.data p))), Value.bool (Gr.wants (Gr.mk (nx (Gr.fx p)) (Gr.fr p) (nx (Gr.tx p)) (Gr.to p) (Gr.number p) (Gr.life p) (Gr.at' p) (Gr.total p) (Gr.report p) (Gr.more p) (Gr.may p) (Gr.wants p) (Gr.data p))), Value.string (Gr.data (Gr.mk (nx (Gr.fx p)) (Gr.fr p) (nx (Gr.tx p)) (Gr.to p) (Gr.number p) (Gr.life p) (Gr.at' p) (Gr.total p) (Gr.report p) (Gr.more p) (Gr.may p) (Gr.wants p) (Gr.data p))), Value.bool false, Value.iface 3 (Value.iface (List.length (Gr.fr k)) (Value.iface (Gr.fx k) (Value.agg (List.toArray (List.map (fun n => Value.int .i64 n) (Gr.fr k)))))), Value.iface 3 (Value.iface (List.length (Gr.to k)) (Value.iface (Gr.tx k) (Value.agg (List.toArray (List.map (fun n => Value.int .i64 n) (Gr.to k)))))), Value.int .i64 (Gr.number k), Value.int .i64 (Gr.life k), Value.int .i64 (Gr.at' k), Value.int .i64 (Gr.total k), Value.int .i64 (Gr.report k), Value.bool (Gr.more k), Value.bool (Gr.may k), Value.bool (Gr.wants k), Value.string (Gr.data k), Value.slice (some ⟨3, 0, none⟩) T T, Value.slice (some ⟨4, 0, none⟩) T T, Value.int .i64 60]) ?_
  refine kp 21 (.pointer (some ⟨2, 0, none⟩)) ?_
  refine kp 22 (.pointer (some ⟨2, 11, none⟩)) ?_
  refine ld (.tuple #[]) (2) (Blk.mk 122 true [Value.iface 3 (Value.iface (List.length (Gr.fr (Gr.mk (nx (Gr.fx p)) (Gr.fr p) (nx (Gr.tx p)) (Gr.to p) (Gr.number p) (Gr.life p) (Gr.at' p) (Gr.total p) (Gr.report p) (Gr.more p) (Gr.may p) (Gr.wants p) (Gr.data p)))) (Value.iface (Gr.fx (Gr.mk (nx (Gr.fx p)) (Gr.fr p) (nx (Gr.tx p)) (Gr.to p) (Gr.number p) (Gr.life p) (Gr.at' p) (Gr.total p) (Gr.report p) (Gr.more p) (Gr.may p) (Gr.wants p) (Gr.data p))) (Value.agg (List.toArray (List.map (fun n => Value.int .i64 n) (Gr.fr (Gr.mk (nx (Gr.fx p)) (Gr.fr p) (nx (Gr.tx p)) (Gr.to p) (Gr.number p) (Gr.life p) (Gr.at' p) (Gr.total p) (Gr.report p) (Gr.more p) (Gr.may p) (Gr.wants p) (Gr.data p)))))))), Value.iface 3 (Value.iface (List.length (Gr.to (Gr.mk (nx (Gr.fx p)) (Gr.fr p) (nx (Gr.tx p)) (Gr.to p) (Gr.number p) (Gr.life p) (Gr.at' p) (Gr.total p) (Gr.report p) (Gr.more p) (Gr.may p) (Gr.wants p) (Gr.data p)))) (Value.iface (Gr.tx (Gr.mk (nx (Gr.fx p)) (Gr.fr p) (nx (Gr.tx p)) (Gr.to p) (Gr.number p) (Gr.life p) (Gr.at' p) (Gr.total p) (Gr.report p) (Gr.more p) (Gr.may p) (Gr.wants p) (Gr.data p))) (Value.agg (List.toArray (List.map (fun n => Value.int .i64 n) (Gr.to (Gr.mk (nx (Gr.fx p)) (Gr.fr p) (nx (Gr.tx p)) (Gr.to p) (Gr.number p) (Gr.life p) (Gr.at' p) (Gr.total p) (Gr.report p) (Gr.more p) (Gr.may p) (Gr.wants p) (Gr.data p)))))))), Value.int .i64 (Gr.number (Gr.mk (nx (Gr.fx p)) (Gr.fr p) (nx (Gr.tx p)) (Gr.to p) (Gr.number p) (Gr.life p) (Gr.at' p) (Gr.total p) (Gr.report p) (Gr.more p) (Gr.may p) (Gr.wants p) (Gr.data p))), Value.int .i64 (Gr.life (Gr.mk (nx (Gr.fx p)) (Gr.fr p) (nx (Gr.tx p)) (Gr.to p) (Gr.number p) (Gr.life p) (Gr.at' p) (Gr.total p) (Gr.report p) (Gr.more p) (Gr.may p) (Gr.wants p) (Gr.data p))), Value.int .i64 (Gr.at' (Gr.mk (nx (Gr.fx p)) (Gr.fr p) (nx (Gr.tx p)) (Gr.to p) (Gr.number p) (Gr.life p) (Gr.at' p) (Gr.total p) (Gr.report p) (Gr.more p) (Gr.may p) (Gr.wants p) (Gr.data p))), Value.int .i64 (Gr.total (Gr.mk (nx (Gr.fx p)) (Gr.fr p) (nx (Gr.tx p)) (Gr.to p) (Gr.number p) (Gr.life p) (Gr.at' p) (Gr.total p) (Gr.report p) (Gr.more p) (Gr.may p) (Gr.wants p) (Gr.data p))), Value.int .i64 (Gr.report (Gr.mk (nx (Gr.fx p)) (Gr.fr p) (nx (Gr.tx p)) (Gr.to p) (Gr.number p) (Gr.life p) (Gr.at' p) (Gr.total p) (Gr.report p) (Gr.more p) (Gr.may p) (Gr.wants p) (Gr.data p))), Value.bool (Gr.more (Gr.mk (nx (Gr.fx p)) (Gr.fr p) (nx (Gr.tx p)) (Gr.to p) (Gr.number p) (Gr.life p) (Gr.at' p) (Gr.total p) (Gr.report p) (Gr.more p) (Gr.may p) (Gr.wants p) (Gr.data p))), Value.bool (Gr.may (Gr.mk (nx (Gr.fx p)) (Gr.fr p) (nx (Gr.tx p)) (Gr.to p) (Gr.number p) (Gr.life p) (Gr.at' p) (Gr.total p) (Gr.report p) (Gr.more p) (Gr.may p) (Gr.wants p) (Gr.data p))), Value.bool (Gr.wants (Gr.mk (nx (Gr.fx p)) (Gr.fr p) (nx (Gr.tx p)) (Gr.to p) (Gr.number p) (Gr.life p) (Gr.at' p) (Gr.total p) (Gr.report p) (Gr.more p) (Gr.may p) (Gr.wants p) (Gr.data p))), Value.string (Gr.data (Gr.mk (nx (Gr.fx p)) (Gr.fr p) (nx (Gr.tx p)) (Gr.to p) (Gr.number p) (Gr.life p) (Gr.at' p) (Gr.total p) (Gr.report p) (Gr.more p) (Gr.may p) (Gr.wants p) (Gr.data p))), Value.bool true, Value.iface 3 (Value.iface (List.length (Gr.fr k)) (Value.iface (Gr.fx k) (Value.agg (List.toArray (List.map (fun n => Value.int .i64 n) (Gr.fr k)))))), Value.iface 3 (Value.iface (List.length (Gr.to k)) (Value.iface (Gr.tx k) (Value.agg (List.toArray (List.map (fun n => Value.int .i64 n) (Gr.to k)))))), Value.int .i64 (Gr.number k), Value.int .i64 (Gr.life k), Value.int .i64 (Gr.at' k), Value.int .i64 (Gr.total k), Value.int .i64 (Gr.report k), Value.bool (Gr.more k), Value.bool (Gr.may k), Value.bool (Gr.wants k), Value.string (Gr.data k), Value.slice (some ⟨3, 0, none⟩) T T, Value.slice (some ⟨4, 0, none⟩) T T, Value.int .i64 60]) ?_
  refine WpOps.nil (thenK_at (Wp.seq (Wp.text ?_)))
  refine kp 23 (.pointer (some ⟨7, 10, none⟩)) ?_
  refine kp 24 (.string (Gr.data p)) ?_
  refine kp 25 (.int IntKind.i64 (↑(ByteArray.size (Gr.data p)) : Int)) ?_
  refine kp 26 (.int IntKind.i64 0) ?_
  refine WpOps.nil (thenK_at (Wp.block ?_))
  refine Wp.loop (G := Nat) (fun j => layj [(0, .pointer (some ⟨2, 0, none⟩)), (3, .pointer (some ⟨7, 0, none⟩)), (25, .int .i64 p.data.size), (26, .int .i64 j)]) (fun j => heapOf [st1, ar1, ⟨122, true, (wB T (ownG p) k)⟩, ⟨5, true, dC D T (thN th a j)⟩, ⟨4, true, bC T (thN th a j)⟩, ⟨24, true, (gc p)⟩, ⟨24, true, zc⟩, ⟨24, true, (gc p)⟩]) (fun j => p.data.size - j) (fun j => j ≤ p.data.size) 0 ?_ (Nat.zero_le _) ?_
  · rw [thN_zero]
    exact View.same [st1, ar1, ⟨122, true, (wB T (ownG p) k)⟩, ⟨5, true, dC D T th⟩, ⟨4, true, bC T th⟩, ⟨24, true, (gc p)⟩, ⟨24, true, zc⟩, ⟨24, true, (gc p)⟩] _ (by simp) (pre8 ⟨by kernel_rfl, by kernel_rfl⟩ ⟨by kernel_rfl, by kernel_rfl⟩ ⟨by kernel_rfl, by kernel_rfl⟩ ⟨by kernel_rfl, okCs_flat (dC_flat _ _ _)⟩ ⟨by kernel_rfl, okCs_flat (bC_flat _ _)⟩ ⟨by kernel_rfl, by kernel_rfl⟩ ⟨by kernel_rfl, by kernel_rfl⟩ ⟨by kernel_rfl, by kernel_rfl⟩) ⟨⟨by kernel_rfl, by kernel_rfl⟩, ⟨by kernel_rfl, by kernel_rfl⟩, ⟨by kernel_rfl, rfl⟩, ⟨by kernel_rfl, rfl⟩, trivial⟩
  intro j hj
  by_cases hlt : j < p.data.size
  · have d1 : decide ((j : Int) < p.data.size) = true := decide_eq_true (by omega)
    have hw : IntKind.i64.wrap (p.at' + (j : Int)) = ((a + j : Nat) : Int) := by rw [ha, wr _ (by omega) (by omega)]; omega
    have g2 : 0 ≤ IntKind.i64.wrap (p.at' + (j : Int)) ∧ IntKind.i64.wrap (p.at' + (j : Int)) < T := by rw [hw]; omega
    have u1 : (bC T (thN th a j))[0 + (IntKind.i64.wrap (p.at' + (j : Int))).toNat * 1]? = some (.bool (thN th a j (a + j))) := by
      rw [hw, Int.toNat_natCast, Nat.zero_add, Nat.mul_one]
      exact bC_at _ (by omega)
    cases hth : thN th a j (a + j) with
    | true =>
      rw [hth] at u1
      have hsame : ∀ i, thN th a j i = thN th a (j + 1) i := fun i => by
        rw [thN_next]
        by_cases e : i = a + j
        · rw [if_pos e, e, hth]
        · rw [if_neg e]
      refine Wp.seq (Wp.text ?_)
      refine kp 27 (.bool true) ?_ (hop := fun _ => by_fact d1)
      refine WpOps.nil (thenK_at (Wp.seq (on' (Wp.skip (thenK_at (Wp.seq (Wp.block (Wp.seq (Wp.text ?_)))))))))
      refine kp 28 (.int IntKind.i64 (↑j : Int)) ?_
      refine kp 4 (.int IntKind.i64 (↑j : Int)) ?_
      refine WpOps.nil (thenK_at (Wp.seq ?_))
      refine Wp.region (by kernel_rfl) ?_
      refine kp 29 (.pointer (some ⟨2, 0, none⟩)) ?_
      refine kp 30 (.pointer (some ⟨2, 0, none⟩)) ?_
      refine kp 31 (.pointer (some ⟨2, 24, none⟩)) ?_
      refine kp 32 (.slice (some ⟨4, 0, none⟩) T T) ?_
      refine kp 33 (.pointer (some ⟨7, 4, none⟩)) ?_
      refine kp 34 (.int IntKind.i64 (Gr.at' p)) ?_
      refine kp 35 (.int IntKind.i64 (↑j : Int)) ?_
      refine kp 36 (.int IntKind.i64 (IntKind.wrap .i64 (Gr.at' p + (↑j : Int)))) ?_
      refine kp 37 (.pointer (some (Addr.mk 4 (0 + Int.toNat (IntKind.wrap .i64 (Gr.at' p + (↑j : Int))) * 1) none))) ?_ (hop := fun _ => o_indexAddr (a := IntKind.wrap IntKind.i64 (Gr.at' p + (↑j : Int))) (bl := 4) (off := 0) (size := 1) 4 (T) g2)
      refine kp 38 (.bool true) ?_ (hop := fun _ => o_load1 (4) (0 + Int.toNat (IntKind.wrap IntKind.i64 (Gr.at' p + (↑j : Int))) * 1) u1)
      refine kp 39 (.bool false) ?_
      refine WpOps.nil (thenK_at (off' (Wp.skip (blockK_norm (thenK_at (Wp.text ?_))))))
      refine kp 62 (.int IntKind.i64 (IntKind.wrap .i64 ((↑j : Int) + 1))) ?_
      refine kp 26 (.int IntKind.i64 (IntKind.wrap .i64 ((↑j : Int) + 1))) ?_
      refine WpOps.nil (thenK_at ?_)
      refine ⟨j + 1, by omega, by omega, ?_⟩
      try dsimp only
      rw [← show thN th a j = thN th a (j + 1) from funext hsame]
      exact View.same [st1, ar1, ⟨122, true, (wB T (ownG p) k)⟩, ⟨5, true, dC D T (thN th a j)⟩, ⟨4, true, bC T (thN th a j)⟩, ⟨24, true, (gc p)⟩, ⟨24, true, zc⟩, ⟨24, true, (gc p)⟩] _ (by simp) (pre8 ⟨by kernel_rfl, by kernel_rfl⟩ ⟨by kernel_rfl, by kernel_rfl⟩ ⟨by kernel_rfl, by kernel_rfl⟩ ⟨by kernel_rfl, okCs_flat (dC_flat _ _ _)⟩ ⟨by kernel_rfl, okCs_flat (bC_flat _ _)⟩ ⟨by kernel_rfl, by kernel_rfl⟩ ⟨by kernel_rfl, by kernel_rfl⟩ ⟨by kernel_rfl, by kernel_rfl⟩) ⟨⟨by kernel_rfl, by kernel_rfl⟩, ⟨by kernel_rfl, by kernel_rfl⟩, ⟨by kernel_rfl, rfl⟩, ⟨congrArg (Value.int .i64) (wr _ (by omega) (by omega)), rfl⟩, trivial⟩
    | false =>
      rw [hth] at u1
      have q1 : ∀ v : Value, true = true ∧ 0 + (IntKind.i64.wrap (p.at' + (j : Int))).toNat * 1 + 1 ≤ (bC T (thN th a j)).length := fun _ => ⟨rfl, by rw [bC_len, hw]; omega⟩
      have q2 : ∀ v : Value, true = true ∧ 0 + (IntKind.i64.wrap (p.at' + (j : Int))).toNat * 1 + 1 ≤ (dC D T (thN th a j)).length := fun _ => ⟨rfl, by rw [dC_len, hw]; omega⟩
      have q3 := q1 (.bool true)
      have q4 : true = true ∧ 0 + (IntKind.i64.wrap (p.at' + (j : Int))).toNat * 1 + [Value.int .u8 (byteAt p.data j).toNat].length ≤ (dC D T (thN th a j)).length := q2 (.int .u8 0)
      have g3 : 0 ≤ (j : Int) ∧ (j : Int) < p.data.size := by omega
      have g4 := byte_get p.data j hlt
      have e1 : (bC T (thN th a j)).set (0 + (IntKind.i64.wrap (p.at' + (j : Int))).toNat * 1) (.bool true) = bC T (thN th a (j + 1)) := by
        rw [hw, Int.toNat_natCast, Nat.zero_add, Nat.mul_one, bC_set]
      have e2 : (dC D T (thN th a j)).set (0 + (IntKind.i64.wrap (p.at' + (j : Int))).toNat * 1) (.int .u8 (byteAt p.data j).toNat) = dC D T (thN th a (j + 1)) := by
        have hb2 : byteAt p.data j = byteAt D (a + j) := by rw [hd]; exact ext_at D a _ j hlt
        rw [hw, Int.toNat_natCast, Nat.zero_add, Nat.mul_one, hb2, dC_set]
      refine Wp.seq (Wp.text ?_)
      refine kp 27 (.bool true) ?_ (hop := fun _ => by_fact d1)
      refine WpOps.nil (thenK_at (Wp.seq (on' (Wp.skip (thenK_at (Wp.seq (Wp.block (Wp.seq (Wp.text ?_)))))))))
      refine kp 28 (.int IntKind.i64 (↑j : Int)) ?_
      refine kp 4 (.int IntKind.i64 (↑j : Int)) ?_
      refine WpOps.nil (thenK_at (Wp.seq ?_))
      refine Wp.region (by kernel_rfl) ?_
      refine kp 29 (.pointer (some ⟨2, 0, none⟩)) ?_
      refine kp 30 (.pointer (some ⟨2, 0, none⟩)) ?_
      refine kp 31 (.pointer (some ⟨2, 24, none⟩)) ?_
      refine kp 32 (.slice (some ⟨4, 0, none⟩) T T) ?_
      refine kp 33 (.pointer (some ⟨7, 4, none⟩)) ?_
      refine kp 34 (.int IntKind.i64 (Gr.at' p)) ?_
      refine kp 35 (.int IntKind.i64 (↑j : Int)) ?_
      refine kp 36 (.int IntKind.i64 (IntKind.wrap .i64 (Gr.at' p + (↑j : Int)))) ?_
      refine kp 37 (.pointer (some (Addr.mk 4 (0 + Int.toNat (IntKind.wrap .i64 (Gr.at' p + (↑j : Int))) * 1) none))) ?_ (hop := fun _ => o_indexAddr (a := IntKind.wrap IntKind.i64 (Gr.at' p + (↑j : Int))) (bl := 4) (off := 0) (size := 1) 4 (T) g2)
      refine kp 38 (.bool false) ?_ (hop := fun _ => o_load1 (4) (0 + Int.toNat (IntKind.wrap IntKind.i64 (Gr.at' p + (↑j : Int))) * 1) u1)
      refine kp 39 (.bool true) ?_
      refine WpOps.nil (thenK_at (on' (Wp.seq ?_)))
      refine Wp.region (by kernel_rfl) ?_
      refine kp 40 (.pointer (some ⟨2, 0, none⟩)) ?_
      refine kp 41 (.pointer (some ⟨2, 0, none⟩)) ?_
      refine kp 42 (.pointer (some ⟨2, 24, none⟩)) ?_
      refine kp 43 (.slice (some ⟨4, 0, none⟩) T T) ?_
      refine kp 44 (.pointer (some ⟨7, 4, none⟩)) ?_
      refine kp 45 (.int IntKind.i64 (Gr.at' p)) ?_
      refine kp 46 (.int IntKind.i64 (↑j : Int)) ?_
      refine kp 47 (.int IntKind.i64 (IntKind.wrap .i64 (Gr.at' p + (↑j : Int)))) ?_
      refine kp 48 (.pointer (some (Addr.mk 4 (0 + Int.toNat (IntKind.wrap .i64 (Gr.at' p + (↑j : Int))) * 1) none))) ?_ (hop := fun _ => o_indexAddr (a := IntKind.wrap IntKind.i64 (Gr.at' p + (↑j : Int))) (bl := 4) (off := 0) (size := 1) 4 (T) g2)
      refine ld (.tuple #[]) (4) (Blk.mk 4 true (List.set (bC T (thN th a j)) (0 + Int.toNat (IntKind.wrap .i64 (Gr.at' p + (↑j : Int))) * 1) (Value.bool true))) ?_ (hop := fun _ => o_store1 (4) (0 + Int.toNat (IntKind.wrap IntKind.i64 (Gr.at' p + (↑j : Int))) * 1) q3)
      refine WpOps.nil (thenK_at ?_)
      refine Wp.region (by kernel_rfl) ?_
      refine kp 49 (.pointer (some ⟨2, 0, none⟩)) ?_
      refine kp 50 (.pointer (some ⟨2, 0, none⟩)) ?_
      refine kp 51 (.pointer (some ⟨2, 23, none⟩)) ?_
      refine kp 52 (.slice (some ⟨3, 0, none⟩) T T) ?_
      refine kp 53 (.pointer (some ⟨7, 4, none⟩)) ?_
      refine kp 54 (.int IntKind.i64 (Gr.at' p)) ?_
      refine kp 55 (.int IntKind.i64 (↑j : Int)) ?_
      refine kp 56 (.int IntKind.i64 (IntKind.wrap .i64 (Gr.at' p + (↑j : Int)))) ?_
      refine kp 57 (.pointer (some ⟨7, 10, none⟩)) ?_
      refine kp 58 (.string (Gr.data p)) ?_
      refine kp 59 (.int IntKind.i64 (↑j : Int)) ?_
      refine kp 60 (.int IntKind.u8 (↑(UInt8.toNat (byteAt (Gr.data p) j)) : Int)) ?_ (hop := fun _ => o_indexStr (of_decide_eq_true (by kernel_rfl)) g4)
      refine kp 61 (.pointer (some (Addr.mk 3 (0 + Int.toNat (IntKind.wrap .i64 (Gr.at' p + (↑j : Int))) * 1) none))) ?_ (hop := fun _ => o_indexAddr (a := IntKind.wrap IntKind.i64 (Gr.at' p + (↑j : Int))) (bl := 3) (off := 0) (size := 1) 5 (T) g2)
      refine ld (.tuple #[]) (3) (Blk.mk 5 true (List.set (dC D T (thN th a j)) (0 + Int.toNat (IntKind.wrap .i64 (Gr.at' p + (↑j : Int))) * 1) (Value.int .u8 (↑(UInt8.toNat (byteAt (Gr.data p) j)) : Int)))) ?_ (hop := fun _ => o_store1 (3) (0 + Int.toNat (IntKind.wrap IntKind.i64 (Gr.at' p + (↑j : Int))) * 1) q4)
      refine WpOps.nil (blockK_norm (thenK_at (Wp.text ?_)))
      refine kp 62 (.int IntKind.i64 (IntKind.wrap .i64 ((↑j : Int) + 1))) ?_
      refine kp 26 (.int IntKind.i64 (IntKind.wrap .i64 ((↑j : Int) + 1))) ?_
      refine WpOps.nil (thenK_at ?_)
      refine ⟨j + 1, by omega, by omega, ?_⟩
      exact View.same [st1, ar1, ⟨122, true, (wB T (ownG p) k)⟩, ⟨5, true, dC D T (thN th a (j + 1))⟩, ⟨4, true, bC T (thN th a (j + 1))⟩, ⟨24, true, (gc p)⟩, ⟨24, true, zc⟩, ⟨24, true, (gc p)⟩] _ (by simp) (pre8 ⟨by kernel_rfl, by kernel_rfl⟩ ⟨by kernel_rfl, by kernel_rfl⟩ ⟨by kernel_rfl, by kernel_rfl⟩ ⟨Eq.trans (by kernel_rfl) (congrArg (fun c => some (Blk.mk 5 true c)) e2), okCs_flat (dC_flat _ _ _)⟩ ⟨Eq.trans (by kernel_rfl) (congrArg (fun c => some (Blk.mk 4 true c)) e1), okCs_flat (bC_flat _ _)⟩ ⟨by kernel_rfl, by kernel_rfl⟩ ⟨by kernel_rfl, by kernel_rfl⟩ ⟨by kernel_rfl, by kernel_rfl⟩) ⟨⟨by kernel_rfl, by kernel_rfl⟩, ⟨by kernel_rfl, by kernel_rfl⟩, ⟨by kernel_rfl, rfl⟩, ⟨congrArg (Value.int .i64) (wr _ (by omega) (by omega)), rfl⟩, trivial⟩
  · obtain rfl : j = p.data.size := by omega
    have d1 : decide ((p.data.size : Int) < p.data.size) = false := decide_eq_false (by omega)
    refine Wp.seq (Wp.text ?_)
    refine kp 27 (.bool false) ?_ (hop := fun _ => by_fact d1)
    refine WpOps.nil (thenK_at (Wp.seq (off' (Wp.exit (thenK_exit (thenK_exit (blockK_hit ?_)))))))
    refine endK_norm [] (Value.tuple #[]) (by kernel_rfl) (by kernel_rfl) ?_
    exact lentSame [st1, ar1, ⟨122, true, (wB T (ownG p) k)⟩, ⟨5, true, dC D T (thN th a p.data.size)⟩, ⟨4, true, bC T (thN th a p.data.size)⟩, ⟨24, true, (gc p)⟩, ⟨24, true, zc⟩] (pre7 ⟨by kernel_rfl, by kernel_rfl⟩ ⟨by kernel_rfl, by kernel_rfl⟩ ⟨by kernel_rfl, by kernel_rfl⟩ ⟨by kernel_rfl, okCs_flat (dC_flat _ _ _)⟩ ⟨by kernel_rfl, okCs_flat (bC_flat _ _)⟩ ⟨by kernel_rfl, by kernel_rfl⟩ ⟨by kernel_rfl, by kernel_rfl⟩) (.w (.un rfl rfl))
set_option maxHeartbeats 4000000 in
theorem put65BB (T : Nat) (D : ByteArray) (th : Nat → Bool) (h : Gr) (k p : Gr) (a : Nat) (ha : p.at' = a) (hd : p.data = D.extract a (a + p.data.size)) (hD : a + p.data.size ≤ D.size) (hT : D.size = T) (hT2 : T ≤ 4000) : SCall E 65 [.pointer (some ⟨2, 0, none⟩), gv p] (heapOf [st1, ar1, ⟨122, true, (wB T h k)⟩, ⟨5, true, dC D T th⟩, ⟨4, true, bC T th⟩, ⟨24, true, (gc p)⟩, ⟨24, true, zc⟩]) (.tuple #[]) (heapOf [st1, ar1, ⟨122, true, (wB T h k)⟩, ⟨5, true, dC D T (thN th a p.data.size)⟩, ⟨4, true, bC T (thN th a p.data.size)⟩, ⟨24, true, (gc p)⟩, ⟨24, true, zc⟩]) := by
  refine SCall.enterL f65 rfl (of_decide_eq_true (by kernel_rfl)) (by kernel_rfl) (by kernel_rfl) (Nat.le_refl _) ?_
  cases hb : (p.at' == 0) with
  | true =>
    refine Wp.seq (Wp.text ?_)
    refine md 3 (.pointer (some ⟨7, 0, none⟩)) (Blk.mk 24 true (gc p)) ?_
    refine WpOps.nil (thenK_at (Wp.seq (Wp.seq (Wp.text ?_))))
    refine kp 5 (.pointer (some ⟨7, 4, none⟩)) ?_
    refine kp 6 (.int IntKind.i64 (Gr.at' p)) ?_
    refine kp 7 (.bool true) ?_ (hop := fun _ => by_fact hb)
    refine kp 8 (.bool true) ?_
    refine kp 9 (.pointer (some ⟨2, 0, none⟩)) ?_
    refine kp 10 (.pointer (some ⟨2, 0, none⟩)) ?_
    refine kp 11 (.pointer (some ⟨2, 11, none⟩)) ?_
    refine kp 12 (.bool true) ?_
    refine kp 13 (.bool false) ?_
    refine kp 14 (.bool false) ?_
    refine WpOps.nil (thenK_at (off' (Wp.skip (thenK_at (Wp.seq (Wp.text ?_))))))
    refine kp 23 (.pointer (some ⟨7, 10, none⟩)) ?_
    refine kp 24 (.string (Gr.data p)) ?_
    refine kp 25 (.int IntKind.i64 (↑(ByteArray.size (Gr.data p)) : Int)) ?_
    refine kp 26 (.int IntKind.i64 0) ?_
    refine WpOps.nil (thenK_at (Wp.block ?_))
    refine Wp.loop (G := Nat) (fun j => layj [(0, .pointer (some ⟨2, 0, none⟩)), (3, .pointer (some ⟨7, 0, none⟩)), (25, .int .i64 p.data.size), (26, .int .i64 j)]) (fun j => heapOf [st1, ar1, ⟨122, true, (wB T h k)⟩, ⟨5, true, dC D T (thN th a j)⟩, ⟨4, true, bC T (thN th a j)⟩, ⟨24, true, (gc p)⟩, ⟨24, true, zc⟩, ⟨24, true, (gc p)⟩]) (fun j => p.data.size - j) (fun j => j ≤ p.data.size) 0 ?_ (Nat.zero_le _) ?_
    · rw [thN_zero]
      exact View.same [st1, ar1, ⟨122, true, (wB T h k)⟩, ⟨5, true, dC D T th⟩, ⟨4, true, bC T th⟩, ⟨24, true, (gc p)⟩, ⟨24, true, zc⟩, ⟨24, true, (gc p)⟩] _ (by simp) (pre8 ⟨by kernel_rfl, by kernel_rfl⟩ ⟨by kernel_rfl, by kernel_rfl⟩ ⟨by kernel_rfl, by kernel_rfl⟩ ⟨by kernel_rfl, okCs_flat (dC_flat _ _ _)⟩ ⟨by kernel_rfl, okCs_flat (bC_flat _ _)⟩ ⟨by kernel_rfl, by kernel_rfl⟩ ⟨by kernel_rfl, by kernel_rfl⟩ ⟨by kernel_rfl, by kernel_rfl⟩) ⟨⟨by kernel_rfl, by kernel_rfl⟩, ⟨by kernel_rfl, by kernel_rfl⟩, ⟨by kernel_rfl, rfl⟩, ⟨by kernel_rfl, rfl⟩, trivial⟩
    intro j hj
    by_cases hlt : j < p.data.size
    · have d1 : decide ((j : Int) < p.data.size) = true := decide_eq_true (by omega)
      have hw : IntKind.i64.wrap (p.at' + (j : Int)) = ((a + j : Nat) : Int) := by rw [ha, wr _ (by omega) (by omega)]; omega
      have g2 : 0 ≤ IntKind.i64.wrap (p.at' + (j : Int)) ∧ IntKind.i64.wrap (p.at' + (j : Int)) < T := by rw [hw]; omega
      have u1 : (bC T (thN th a j))[0 + (IntKind.i64.wrap (p.at' + (j : Int))).toNat * 1]? = some (.bool (thN th a j (a + j))) := by
        rw [hw, Int.toNat_natCast, Nat.zero_add, Nat.mul_one]
        exact bC_at _ (by omega)
      cases hth : thN th a j (a + j) with
      | true =>
        rw [hth] at u1
        have hsame : ∀ i, thN th a j i = thN th a (j + 1) i := fun i => by
          rw [thN_next]
          by_cases e : i = a + j
          · rw [if_pos e, e, hth]
          · rw [if_neg e]
        refine Wp.seq (Wp.text ?_)
        refine kp 27 (.bool true) ?_ (hop := fun _ => by_fact d1)
        refine WpOps.nil (thenK_at (Wp.seq (on' (Wp.skip (thenK_at (Wp.seq (Wp.block (Wp.seq (Wp.text ?_)))))))))
        refine kp 28 (.int IntKind.i64 (↑j : Int)) ?_
        refine kp 4 (.int IntKind.i64 (↑j : Int)) ?_
        refine WpOps.nil (thenK_at (Wp.seq ?_))
        refine Wp.region (by kernel_rfl) ?_
        refine kp 29 (.pointer (some ⟨2, 0, none⟩)) ?_
        refine kp 30 (.pointer (some ⟨2, 0, none⟩)) ?_
        refine kp 31 (.pointer (some ⟨2, 24, none⟩)) ?_
        refine kp 32 (.slice (some ⟨4, 0, none⟩) T T) ?_
        refine kp 33 (.pointer (some ⟨7, 4, none⟩)) ?_
        refine kp 34 (.int IntKind.i64 (Gr.at' p)) ?_
        refine kp 35 (.int IntKind.i64 (↑j : Int)) ?_
        refine kp 36 (.int IntKind.i64 (IntKind.wrap .i64 (Gr.at' p + (↑j : Int)))) ?_
        refine kp 37 (.pointer (some (Addr.mk 4 (0 + Int.toNat (IntKind.wrap .i64 (Gr.at' p + (↑j : Int))) * 1) none))) ?_ (hop := fun _ => o_indexAddr (a := IntKind.wrap IntKind.i64 (Gr.at' p + (↑j : Int))) (bl := 4) (off := 0) (size := 1) 4 (T) g2)
        refine kp 38 (.bool true) ?_ (hop := fun _ => o_load1 (4) (0 + Int.toNat (IntKind.wrap IntKind.i64 (Gr.at' p + (↑j : Int))) * 1) u1)
        refine kp 39 (.bool false) ?_
        refine WpOps.nil (thenK_at (off' (Wp.skip (blockK_norm (thenK_at (Wp.text ?_))))))
        refine kp 62 (.int IntKind.i64 (IntKind.wrap .i64 ((↑j : Int) + 1))) ?_
        refine kp 26 (.int IntKind.i64 (IntKind.wrap .i64 ((↑j : Int) + 1))) ?_
        refine WpOps.nil (thenK_at ?_)
        refine ⟨j + 1, by omega, by omega, ?_⟩
        try dsimp only
        rw [← show thN th a j = thN th a (j + 1) from funext hsame]
        exact View.same [st1, ar1, ⟨122, true, (wB T h k)⟩, ⟨5, true, dC D T (thN th a j)⟩, ⟨4, true, bC T (thN th a j)⟩, ⟨24, true, (gc p)⟩, ⟨24, true, zc⟩, ⟨24, true, (gc p)⟩] _ (by simp) (pre8 ⟨by kernel_rfl, by kernel_rfl⟩ ⟨by kernel_rfl, by kernel_rfl⟩ ⟨by kernel_rfl, by kernel_rfl⟩ ⟨by kernel_rfl, okCs_flat (dC_flat _ _ _)⟩ ⟨by kernel_rfl, okCs_flat (bC_flat _ _)⟩ ⟨by kernel_rfl, by kernel_rfl⟩ ⟨by kernel_rfl, by kernel_rfl⟩ ⟨by kernel_rfl, by kernel_rfl⟩) ⟨⟨by kernel_rfl, by kernel_rfl⟩, ⟨by kernel_rfl, by kernel_rfl⟩, ⟨by kernel_rfl, rfl⟩, ⟨congrArg (Value.int .i64) (wr _ (by omega) (by omega)), rfl⟩, trivial⟩
      | false =>
        rw [hth] at u1
        have q1 : ∀ v : Value, true = true ∧ 0 + (IntKind.i64.wrap (p.at' + (j : Int))).toNat * 1 + 1 ≤ (bC T (thN th a j)).length := fun _ => ⟨rfl, by rw [bC_len, hw]; omega⟩
        have q2 : ∀ v : Value, true = true ∧ 0 + (IntKind.i64.wrap (p.at' + (j : Int))).toNat * 1 + 1 ≤ (dC D T (thN th a j)).length := fun _ => ⟨rfl, by rw [dC_len, hw]; omega⟩
        have q3 := q1 (.bool true)
        have q4 : true = true ∧ 0 + (IntKind.i64.wrap (p.at' + (j : Int))).toNat * 1 + [Value.int .u8 (byteAt p.data j).toNat].length ≤ (dC D T (thN th a j)).length := q2 (.int .u8 0)
        have g3 : 0 ≤ (j : Int) ∧ (j : Int) < p.data.size := by omega
        have g4 := byte_get p.data j hlt
        have e1 : (bC T (thN th a j)).set (0 + (IntKind.i64.wrap (p.at' + (j : Int))).toNat * 1) (.bool true) = bC T (thN th a (j + 1)) := by
          rw [hw, Int.toNat_natCast, Nat.zero_add, Nat.mul_one, bC_set]
        have e2 : (dC D T (thN th a j)).set (0 + (IntKind.i64.wrap (p.at' + (j : Int))).toNat * 1) (.int .u8 (byteAt p.data j).toNat) = dC D T (thN th a (j + 1)) := by
          have hb2 : byteAt p.data j = byteAt D (a + j) := by rw [hd]; exact ext_at D a _ j hlt
          rw [hw, Int.toNat_natCast, Nat.zero_add, Nat.mul_one, hb2, dC_set]
        refine Wp.seq (Wp.text ?_)
        refine kp 27 (.bool true) ?_ (hop := fun _ => by_fact d1)
        refine WpOps.nil (thenK_at (Wp.seq (on' (Wp.skip (thenK_at (Wp.seq (Wp.block (Wp.seq (Wp.text ?_)))))))))
        refine kp 28 (.int IntKind.i64 (↑j : Int)) ?_
        refine kp 4 (.int IntKind.i64 (↑j : Int)) ?_
        refine WpOps.nil (thenK_at (Wp.seq ?_))
        refine Wp.region (by kernel_rfl) ?_
        refine kp 29 (.pointer (some ⟨2, 0, none⟩)) ?_
        refine kp 30 (.pointer (some ⟨2, 0, none⟩)) ?_
        refine kp 31 (.pointer (some ⟨2, 24, none⟩)) ?_
        refine kp 32 (.slice (some ⟨4, 0, none⟩) T T) ?_
        refine kp 33 (.pointer (some ⟨7, 4, none⟩)) ?_
        refine kp 34 (.int IntKind.i64 (Gr.at' p)) ?_
        refine kp 35 (.int IntKind.i64 (↑j : Int)) ?_
        refine kp 36 (.int IntKind.i64 (IntKind.wrap .i64 (Gr.at' p + (↑j : Int)))) ?_
        refine kp 37 (.pointer (some (Addr.mk 4 (0 + Int.toNat (IntKind.wrap .i64 (Gr.at' p + (↑j : Int))) * 1) none))) ?_ (hop := fun _ => o_indexAddr (a := IntKind.wrap IntKind.i64 (Gr.at' p + (↑j : Int))) (bl := 4) (off := 0) (size := 1) 4 (T) g2)
        refine kp 38 (.bool false) ?_ (hop := fun _ => o_load1 (4) (0 + Int.toNat (IntKind.wrap IntKind.i64 (Gr.at' p + (↑j : Int))) * 1) u1)
        refine kp 39 (.bool true) ?_
        refine WpOps.nil (thenK_at (on' (Wp.seq ?_)))
        refine Wp.region (by kernel_rfl) ?_
        refine kp 40 (.pointer (some ⟨2, 0, none⟩)) ?_
        refine kp 41 (.pointer (some ⟨2, 0, none⟩)) ?_
        refine kp 42 (.pointer (some ⟨2, 24, none⟩)) ?_
        refine kp 43 (.slice (some ⟨4, 0, none⟩) T T) ?_
        refine kp 44 (.pointer (some ⟨7, 4, none⟩)) ?_
        refine kp 45 (.int IntKind.i64 (Gr.at' p)) ?_
        refine kp 46 (.int IntKind.i64 (↑j : Int)) ?_
        refine kp 47 (.int IntKind.i64 (IntKind.wrap .i64 (Gr.at' p + (↑j : Int)))) ?_
        refine kp 48 (.pointer (some (Addr.mk 4 (0 + Int.toNat (IntKind.wrap .i64 (Gr.at' p + (↑j : Int))) * 1) none))) ?_ (hop := fun _ => o_indexAddr (a := IntKind.wrap IntKind.i64 (Gr.at' p + (↑j : Int))) (bl := 4) (off := 0) (size := 1) 4 (T) g2)
        refine ld (.tuple #[]) (4) (Blk.mk 4 true (List.set (bC T (thN th a j)) (0 + Int.toNat (IntKind.wrap .i64 (Gr.at' p + (↑j : Int))) * 1) (Value.bool true))) ?_ (hop := fun _ => o_store1 (4) (0 + Int.toNat (IntKind.wrap IntKind.i64 (Gr.at' p + (↑j : Int))) * 1) q3)
        refine WpOps.nil (thenK_at ?_)
        refine Wp.region (by kernel_rfl) ?_
        refine kp 49 (.pointer (some ⟨2, 0, none⟩)) ?_
        refine kp 50 (.pointer (some ⟨2, 0, none⟩)) ?_
        refine kp 51 (.pointer (some ⟨2, 23, none⟩)) ?_
        refine kp 52 (.slice (some ⟨3, 0, none⟩) T T) ?_
        refine kp 53 (.pointer (some ⟨7, 4, none⟩)) ?_
        refine kp 54 (.int IntKind.i64 (Gr.at' p)) ?_
        refine kp 55 (.int IntKind.i64 (↑j : Int)) ?_
        refine kp 56 (.int IntKind.i64 (IntKind.wrap .i64 (Gr.at' p + (↑j : Int)))) ?_
        refine kp 57 (.pointer (some ⟨7, 10, none⟩)) ?_
        refine kp 58 (.string (Gr.data p)) ?_
        refine kp 59 (.int IntKind.i64 (↑j : Int)) ?_
        refine kp 60 (.int IntKind.u8 (↑(UInt8.toNat (byteAt (Gr.data p) j)) : Int)) ?_ (hop := fun _ => o_indexStr (of_decide_eq_true (by kernel_rfl)) g4)
        refine kp 61 (.pointer (some (Addr.mk 3 (0 + Int.toNat (IntKind.wrap .i64 (Gr.at' p + (↑j : Int))) * 1) none))) ?_ (hop := fun _ => o_indexAddr (a := IntKind.wrap IntKind.i64 (Gr.at' p + (↑j : Int))) (bl := 3) (off := 0) (size := 1) 5 (T) g2)
        refine ld (.tuple #[]) (3) (Blk.mk 5 true (List.set (dC D T (thN th a j)) (0 + Int.toNat (IntKind.wrap .i64 (Gr.at' p + (↑j : Int))) * 1) (Value.int .u8 (↑(UInt8.toNat (byteAt (Gr.data p) j)) : Int)))) ?_ (hop := fun _ => o_store1 (3) (0 + Int.toNat (IntKind.wrap IntKind.i64 (Gr.at' p + (↑j : Int))) * 1) q4)
        refine WpOps.nil (blockK_norm (thenK_at (Wp.text ?_)))
        refine kp 62 (.int IntKind.i64 (IntKind.wrap .i64 ((↑j : Int) + 1))) ?_
        refine kp 26 (.int IntKind.i64 (IntKind.wrap .i64 ((↑j : Int) + 1))) ?_
        refine WpOps.nil (thenK_at ?_)
        refine ⟨j + 1, by omega, by omega, ?_⟩
        exact View.same [st1, ar1, ⟨122, true, (wB T h k)⟩, ⟨5, true, dC D T (thN th a (j + 1))⟩, ⟨4, true, bC T (thN th a (j + 1))⟩, ⟨24, true, (gc p)⟩, ⟨24, true, zc⟩, ⟨24, true, (gc p)⟩] _ (by simp) (pre8 ⟨by kernel_rfl, by kernel_rfl⟩ ⟨by kernel_rfl, by kernel_rfl⟩ ⟨by kernel_rfl, by kernel_rfl⟩ ⟨Eq.trans (by kernel_rfl) (congrArg (fun c => some (Blk.mk 5 true c)) e2), okCs_flat (dC_flat _ _ _)⟩ ⟨Eq.trans (by kernel_rfl) (congrArg (fun c => some (Blk.mk 4 true c)) e1), okCs_flat (bC_flat _ _)⟩ ⟨by kernel_rfl, by kernel_rfl⟩ ⟨by kernel_rfl, by kernel_rfl⟩ ⟨by kernel_rfl, by kernel_rfl⟩) ⟨⟨by kernel_rfl, by kernel_rfl⟩, ⟨by kernel_rfl, by kernel_rfl⟩, ⟨by kernel_rfl, rfl⟩, ⟨congrArg (Value.int .i64) (wr _ (by omega) (by omega)), rfl⟩, trivial⟩
    · obtain rfl : j = p.data.size := by omega
      have d1 : decide ((p.data.size : Int) < p.data.size) = false := decide_eq_false (by omega)
      refine Wp.seq (Wp.text ?_)
      refine kp 27 (.bool false) ?_ (hop := fun _ => by_fact d1)
      refine WpOps.nil (thenK_at (Wp.seq (off' (Wp.exit (thenK_exit (thenK_exit (blockK_hit ?_)))))))
      refine endK_norm [] (Value.tuple #[]) (by kernel_rfl) (by kernel_rfl) ?_
      exact lentSame [st1, ar1, ⟨122, true, (wB T h k)⟩, ⟨5, true, dC D T (thN th a p.data.size)⟩, ⟨4, true, bC T (thN th a p.data.size)⟩, ⟨24, true, (gc p)⟩, ⟨24, true, zc⟩] (pre7 ⟨by kernel_rfl, by kernel_rfl⟩ ⟨by kernel_rfl, by kernel_rfl⟩ ⟨by kernel_rfl, by kernel_rfl⟩ ⟨by kernel_rfl, okCs_flat (dC_flat _ _ _)⟩ ⟨by kernel_rfl, okCs_flat (bC_flat _ _)⟩ ⟨by kernel_rfl, by kernel_rfl⟩ ⟨by kernel_rfl, by kernel_rfl⟩) (.w (.un rfl rfl))
  | false =>
    refine Wp.seq (Wp.text ?_)
    refine md 3 (.pointer (some ⟨7, 0, none⟩)) (Blk.mk 24 true (gc p)) ?_
    refine WpOps.nil (thenK_at (Wp.seq (Wp.seq (Wp.text ?_))))
    refine kp 5 (.pointer (some ⟨7, 4, none⟩)) ?_
    refine kp 6 (.int IntKind.i64 (Gr.at' p)) ?_
    refine kp 7 (.bool false) ?_ (hop := fun _ => by_fact hb)
    refine kp 8 (.bool false) ?_
    refine um 9 ?_
    refine um 10 ?_
    refine um 11 ?_
    refine um 12 ?_
    refine um 13 ?_
    refine kp 14 (.bool false) ?_
    refine WpOps.nil (thenK_at (off' (Wp.skip (thenK_at (Wp.seq (Wp.text ?_))))))
    refine kp 23 (.pointer (some ⟨7, 10, none⟩)) ?_
    refine kp 24 (.string (Gr.data p)) ?_
    refine kp 25 (.int IntKind.i64 (↑(ByteArray.size (Gr.data p)) : Int)) ?_
    refine kp 26 (.int IntKind.i64 0) ?_
    refine WpOps.nil (thenK_at (Wp.block ?_))
    refine Wp.loop (G := Nat) (fun j => layj [(0, .pointer (some ⟨2, 0, none⟩)), (3, .pointer (some ⟨7, 0, none⟩)), (25, .int .i64 p.data.size), (26, .int .i64 j)]) (fun j => heapOf [st1, ar1, ⟨122, true, (wB T h k)⟩, ⟨5, true, dC D T (thN th a j)⟩, ⟨4, true, bC T (thN th a j)⟩, ⟨24, true, (gc p)⟩, ⟨24, true, zc⟩, ⟨24, true, (gc p)⟩]) (fun j => p.data.size - j) (fun j => j ≤ p.data.size) 0 ?_ (Nat.zero_le _) ?_
    · rw [thN_zero]
      exact View.same [st1, ar1, ⟨122, true, (wB T h k)⟩, ⟨5, true, dC D T th⟩, ⟨4, true, bC T th⟩, ⟨24, true, (gc p)⟩, ⟨24, true, zc⟩, ⟨24, true, (gc p)⟩] _ (by simp) (pre8 ⟨by kernel_rfl, by kernel_rfl⟩ ⟨by kernel_rfl, by kernel_rfl⟩ ⟨by kernel_rfl, by kernel_rfl⟩ ⟨by kernel_rfl, okCs_flat (dC_flat _ _ _)⟩ ⟨by kernel_rfl, okCs_flat (bC_flat _ _)⟩ ⟨by kernel_rfl, by kernel_rfl⟩ ⟨by kernel_rfl, by kernel_rfl⟩ ⟨by kernel_rfl, by kernel_rfl⟩) ⟨⟨by kernel_rfl, by kernel_rfl⟩, ⟨by kernel_rfl, by kernel_rfl⟩, ⟨by kernel_rfl, rfl⟩, ⟨by kernel_rfl, rfl⟩, trivial⟩
    intro j hj
    by_cases hlt : j < p.data.size
    · have d1 : decide ((j : Int) < p.data.size) = true := decide_eq_true (by omega)
      have hw : IntKind.i64.wrap (p.at' + (j : Int)) = ((a + j : Nat) : Int) := by rw [ha, wr _ (by omega) (by omega)]; omega
      have g2 : 0 ≤ IntKind.i64.wrap (p.at' + (j : Int)) ∧ IntKind.i64.wrap (p.at' + (j : Int)) < T := by rw [hw]; omega
      have u1 : (bC T (thN th a j))[0 + (IntKind.i64.wrap (p.at' + (j : Int))).toNat * 1]? = some (.bool (thN th a j (a + j))) := by
        rw [hw, Int.toNat_natCast, Nat.zero_add, Nat.mul_one]
        exact bC_at _ (by omega)
      cases hth : thN th a j (a + j) with
      | true =>
        rw [hth] at u1
        have hsame : ∀ i, thN th a j i = thN th a (j + 1) i := fun i => by
          rw [thN_next]
          by_cases e : i = a + j
          · rw [if_pos e, e, hth]
          · rw [if_neg e]
        refine Wp.seq (Wp.text ?_)
        refine kp 27 (.bool true) ?_ (hop := fun _ => by_fact d1)
        refine WpOps.nil (thenK_at (Wp.seq (on' (Wp.skip (thenK_at (Wp.seq (Wp.block (Wp.seq (Wp.text ?_)))))))))
        refine kp 28 (.int IntKind.i64 (↑j : Int)) ?_
        refine kp 4 (.int IntKind.i64 (↑j : Int)) ?_
        refine WpOps.nil (thenK_at (Wp.seq ?_))
        refine Wp.region (by kernel_rfl) ?_
        refine kp 29 (.pointer (some ⟨2, 0, none⟩)) ?_
        refine kp 30 (.pointer (some ⟨2, 0, none⟩)) ?_
        refine kp 31 (.pointer (some ⟨2, 24, none⟩)) ?_
        refine kp 32 (.slice (some ⟨4, 0, none⟩) T T) ?_
        refine kp 33 (.pointer (some ⟨7, 4, none⟩)) ?_
        refine kp 34 (.int IntKind.i64 (Gr.at' p)) ?_
        refine kp 35 (.int IntKind.i64 (↑j : Int)) ?_
        refine kp 36 (.int IntKind.i64 (IntKind.wrap .i64 (Gr.at' p + (↑j : Int)))) ?_
        refine kp 37 (.pointer (some (Addr.mk 4 (0 + Int.toNat (IntKind.wrap .i64 (Gr.at' p + (↑j : Int))) * 1) none))) ?_ (hop := fun _ => o_indexAddr (a := IntKind.wrap IntKind.i64 (Gr.at' p + (↑j : Int))) (bl := 4) (off := 0) (size := 1) 4 (T) g2)
        refine kp 38 (.bool true) ?_ (hop := fun _ => o_load1 (4) (0 + Int.toNat (IntKind.wrap IntKind.i64 (Gr.at' p + (↑j : Int))) * 1) u1)
        refine kp 39 (.bool false) ?_
        refine WpOps.nil (thenK_at (off' (Wp.skip (blockK_norm (thenK_at (Wp.text ?_))))))
        refine kp 62 (.int IntKind.i64 (IntKind.wrap .i64 ((↑j : Int) + 1))) ?_
        refine kp 26 (.int IntKind.i64 (IntKind.wrap .i64 ((↑j : Int) + 1))) ?_
        refine WpOps.nil (thenK_at ?_)
        refine ⟨j + 1, by omega, by omega, ?_⟩
        try dsimp only
        rw [← show thN th a j = thN th a (j + 1) from funext hsame]
        exact View.same [st1, ar1, ⟨122, true, (wB T h k)⟩, ⟨5, true, dC D T (thN th a j)⟩, ⟨4, true, bC T (thN th a j)⟩, ⟨24, true, (gc p)⟩, ⟨24, true, zc⟩, ⟨24, true, (gc p)⟩] _ (by simp) (pre8 ⟨by kernel_rfl, by kernel_rfl⟩ ⟨by kernel_rfl, by kernel_rfl⟩ ⟨by kernel_rfl, by kernel_rfl⟩ ⟨by kernel_rfl, okCs_flat (dC_flat _ _ _)⟩ ⟨by kernel_rfl, okCs_flat (bC_flat _ _)⟩ ⟨by kernel_rfl, by kernel_rfl⟩ ⟨by kernel_rfl, by kernel_rfl⟩ ⟨by kernel_rfl, by kernel_rfl⟩) ⟨⟨by kernel_rfl, by kernel_rfl⟩, ⟨by kernel_rfl, by kernel_rfl⟩, ⟨by kernel_rfl, rfl⟩, ⟨congrArg (Value.int .i64) (wr _ (by omega) (by omega)), rfl⟩, trivial⟩
      | false =>
        rw [hth] at u1
        have q1 : ∀ v : Value, true = true ∧ 0 + (IntKind.i64.wrap (p.at' + (j : Int))).toNat * 1 + 1 ≤ (bC T (thN th a j)).length := fun _ => ⟨rfl, by rw [bC_len, hw]; omega⟩
        have q2 : ∀ v : Value, true = true ∧ 0 + (IntKind.i64.wrap (p.at' + (j : Int))).toNat * 1 + 1 ≤ (dC D T (thN th a j)).length := fun _ => ⟨rfl, by rw [dC_len, hw]; omega⟩
        have q3 := q1 (.bool true)
        have q4 : true = true ∧ 0 + (IntKind.i64.wrap (p.at' + (j : Int))).toNat * 1 + [Value.int .u8 (byteAt p.data j).toNat].length ≤ (dC D T (thN th a j)).length := q2 (.int .u8 0)
        have g3 : 0 ≤ (j : Int) ∧ (j : Int) < p.data.size := by omega
        have g4 := byte_get p.data j hlt
        have e1 : (bC T (thN th a j)).set (0 + (IntKind.i64.wrap (p.at' + (j : Int))).toNat * 1) (.bool true) = bC T (thN th a (j + 1)) := by
          rw [hw, Int.toNat_natCast, Nat.zero_add, Nat.mul_one, bC_set]
        have e2 : (dC D T (thN th a j)).set (0 + (IntKind.i64.wrap (p.at' + (j : Int))).toNat * 1) (.int .u8 (byteAt p.data j).toNat) = dC D T (thN th a (j + 1)) := by
          have hb2 : byteAt p.data j = byteAt D (a + j) := by rw [hd]; exact ext_at D a _ j hlt
          rw [hw, Int.toNat_natCast, Nat.zero_add, Nat.mul_one, hb2, dC_set]
        refine Wp.seq (Wp.text ?_)
        refine kp 27 (.bool true) ?_ (hop := fun _ => by_fact d1)
        refine WpOps.nil (thenK_at (Wp.seq (on' (Wp.skip (thenK_at (Wp.seq (Wp.block (Wp.seq (Wp.text ?_)))))))))
        refine kp 28 (.int IntKind.i64 (↑j : Int)) ?_
        refine kp 4 (.int IntKind.i64 (↑j : Int)) ?_
        refine WpOps.nil (thenK_at (Wp.seq ?_))
        refine Wp.region (by kernel_rfl) ?_
        refine kp 29 (.pointer (some ⟨2, 0, none⟩)) ?_
        refine kp 30 (.pointer (some ⟨2, 0, none⟩)) ?_
        refine kp 31 (.pointer (some ⟨2, 24, none⟩)) ?_
        refine kp 32 (.slice (some ⟨4, 0, none⟩) T T) ?_
        refine kp 33 (.pointer (some ⟨7, 4, none⟩)) ?_
        refine kp 34 (.int IntKind.i64 (Gr.at' p)) ?_
        refine kp 35 (.int IntKind.i64 (↑j : Int)) ?_
        refine kp 36 (.int IntKind.i64 (IntKind.wrap .i64 (Gr.at' p + (↑j : Int)))) ?_
        refine kp 37 (.pointer (some (Addr.mk 4 (0 + Int.toNat (IntKind.wrap .i64 (Gr.at' p + (↑j : Int))) * 1) none))) ?_ (hop := fun _ => o_indexAddr (a := IntKind.wrap IntKind.i64 (Gr.at' p + (↑j : Int))) (bl := 4) (off := 0) (size := 1) 4 (T) g2)
        refine kp 38 (.bool false) ?_ (hop := fun _ => o_load1 (4) (0 + Int.toNat (IntKind.wrap IntKind.i64 (Gr.at' p + (↑j : Int))) * 1) u1)
        refine kp 39 (.bool true) ?_
        refine WpOps.nil (thenK_at (on' (Wp.seq ?_)))
        refine Wp.region (by kernel_rfl) ?_
        refine kp 40 (.pointer (some ⟨2, 0, none⟩)) ?_
        refine kp 41 (.pointer (some ⟨2, 0, none⟩)) ?_
        refine kp 42 (.pointer (some ⟨2, 24, none⟩)) ?_
        refine kp 43 (.slice (some ⟨4, 0, none⟩) T T) ?_
        refine kp 44 (.pointer (some ⟨7, 4, none⟩)) ?_
        refine kp 45 (.int IntKind.i64 (Gr.at' p)) ?_
        refine kp 46 (.int IntKind.i64 (↑j : Int)) ?_
        refine kp 47 (.int IntKind.i64 (IntKind.wrap .i64 (Gr.at' p + (↑j : Int)))) ?_
        refine kp 48 (.pointer (some (Addr.mk 4 (0 + Int.toNat (IntKind.wrap .i64 (Gr.at' p + (↑j : Int))) * 1) none))) ?_ (hop := fun _ => o_indexAddr (a := IntKind.wrap IntKind.i64 (Gr.at' p + (↑j : Int))) (bl := 4) (off := 0) (size := 1) 4 (T) g2)
        refine ld (.tuple #[]) (4) (Blk.mk 4 true (List.set (bC T (thN th a j)) (0 + Int.toNat (IntKind.wrap .i64 (Gr.at' p + (↑j : Int))) * 1) (Value.bool true))) ?_ (hop := fun _ => o_store1 (4) (0 + Int.toNat (IntKind.wrap IntKind.i64 (Gr.at' p + (↑j : Int))) * 1) q3)
        refine WpOps.nil (thenK_at ?_)
        refine Wp.region (by kernel_rfl) ?_
        refine kp 49 (.pointer (some ⟨2, 0, none⟩)) ?_
        refine kp 50 (.pointer (some ⟨2, 0, none⟩)) ?_
        refine kp 51 (.pointer (some ⟨2, 23, none⟩)) ?_
        refine kp 52 (.slice (some ⟨3, 0, none⟩) T T) ?_
        refine kp 53 (.pointer (some ⟨7, 4, none⟩)) ?_
        refine kp 54 (.int IntKind.i64 (Gr.at' p)) ?_
        refine kp 55 (.int IntKind.i64 (↑j : Int)) ?_
        refine kp 56 (.int IntKind.i64 (IntKind.wrap .i64 (Gr.at' p + (↑j : Int)))) ?_
        refine kp 57 (.pointer (some ⟨7, 10, none⟩)) ?_
        refine kp 58 (.string (Gr.data p)) ?_
        refine kp 59 (.int IntKind.i64 (↑j : Int)) ?_
        refine kp 60 (.int IntKind.u8 (↑(UInt8.toNat (byteAt (Gr.data p) j)) : Int)) ?_ (hop := fun _ => o_indexStr (of_decide_eq_true (by kernel_rfl)) g4)
        refine kp 61 (.pointer (some (Addr.mk 3 (0 + Int.toNat (IntKind.wrap .i64 (Gr.at' p + (↑j : Int))) * 1) none))) ?_ (hop := fun _ => o_indexAddr (a := IntKind.wrap IntKind.i64 (Gr.at' p + (↑j : Int))) (bl := 3) (off := 0) (size := 1) 5 (T) g2)
        refine ld (.tuple #[]) (3) (Blk.mk 5 true (List.set (dC D T (thN th a j)) (0 + Int.toNat (IntKind.wrap .i64 (Gr.at' p + (↑j : Int))) * 1) (Value.int .u8 (↑(UInt8.toNat (byteAt (Gr.data p) j)) : Int)))) ?_ (hop := fun _ => o_store1 (3) (0 + Int.toNat (IntKind.wrap IntKind.i64 (Gr.at' p + (↑j : Int))) * 1) q4)
        refine WpOps.nil (blockK_norm (thenK_at (Wp.text ?_)))
        refine kp 62 (.int IntKind.i64 (IntKind.wrap .i64 ((↑j : Int) + 1))) ?_
        refine kp 26 (.int IntKind.i64 (IntKind.wrap .i64 ((↑j : Int) + 1))) ?_
        refine WpOps.nil (thenK_at ?_)
        refine ⟨j + 1, by omega, by omega, ?_⟩
        exact View.same [st1, ar1, ⟨122, true, (wB T h k)⟩, ⟨5, true, dC D T (thN th a (j + 1))⟩, ⟨4, true, bC T (thN th a (j + 1))⟩, ⟨24, true, (gc p)⟩, ⟨24, true, zc⟩, ⟨24, true, (gc p)⟩] _ (by simp) (pre8 ⟨by kernel_rfl, by kernel_rfl⟩ ⟨by kernel_rfl, by kernel_rfl⟩ ⟨by kernel_rfl, by kernel_rfl⟩ ⟨Eq.trans (by kernel_rfl) (congrArg (fun c => some (Blk.mk 5 true c)) e2), okCs_flat (dC_flat _ _ _)⟩ ⟨Eq.trans (by kernel_rfl) (congrArg (fun c => some (Blk.mk 4 true c)) e1), okCs_flat (bC_flat _ _)⟩ ⟨by kernel_rfl, by kernel_rfl⟩ ⟨by kernel_rfl, by kernel_rfl⟩ ⟨by kernel_rfl, by kernel_rfl⟩) ⟨⟨by kernel_rfl, by kernel_rfl⟩, ⟨by kernel_rfl, by kernel_rfl⟩, ⟨by kernel_rfl, rfl⟩, ⟨congrArg (Value.int .i64) (wr _ (by omega) (by omega)), rfl⟩, trivial⟩
    · obtain rfl : j = p.data.size := by omega
      have d1 : decide ((p.data.size : Int) < p.data.size) = false := decide_eq_false (by omega)
      refine Wp.seq (Wp.text ?_)
      refine kp 27 (.bool false) ?_ (hop := fun _ => by_fact d1)
      refine WpOps.nil (thenK_at (Wp.seq (off' (Wp.exit (thenK_exit (thenK_exit (blockK_hit ?_)))))))
      refine endK_norm [] (Value.tuple #[]) (by kernel_rfl) (by kernel_rfl) ?_
      exact lentSame [st1, ar1, ⟨122, true, (wB T h k)⟩, ⟨5, true, dC D T (thN th a p.data.size)⟩, ⟨4, true, bC T (thN th a p.data.size)⟩, ⟨24, true, (gc p)⟩, ⟨24, true, zc⟩] (pre7 ⟨by kernel_rfl, by kernel_rfl⟩ ⟨by kernel_rfl, by kernel_rfl⟩ ⟨by kernel_rfl, by kernel_rfl⟩ ⟨by kernel_rfl, okCs_flat (dC_flat _ _ _)⟩ ⟨by kernel_rfl, okCs_flat (bC_flat _ _)⟩ ⟨by kernel_rfl, by kernel_rfl⟩ ⟨by kernel_rfl, by kernel_rfl⟩) (.w (.un rfl rfl))
end Go.Proofs.Ytpkkcpglbjbgfaa.D
