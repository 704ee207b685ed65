/- Take: a piece of a whole that is open. -/
import Derived.Test.YtpkkcpglbjbgfaaFwLem
import Derived.Test.YtpkkcpglbjbgfaaFwCons
import Derived.Test.YtpkkcpglbjbgfaaFwMat
import Derived.Test.YtpkkcpglbjbgfaaFwEnter
import Derived.Test.YtpkkcpglbjbgfaaFwOver
import Derived.Test.YtpkkcpglbjbgfaaH14c
namespace Go.Proofs.Ytpkkcpglbjbgfaa.D
open Go.Fw Go.RowKit

theorem pre5 {P : Nat → Blk → Prop} {a0 a1 a2 a3 a4 : Blk} (h0 : P 0 a0) (h1 : P 1 a1) (h2 : P 2 a2) (h3 : P 3 a3) (h4 : P 4 a4) : ∀ b x, [a0, a1, a2, a3, a4][b]? = some x → P b x
  | 0, x, h => by cases h; exact h0
  | 1, x, h => by cases h; exact h1
  | 2, x, h => by cases h; exact h2
  | 3, x, h => by cases h; exact h3
  | 4, x, h => by cases h; exact h4
  | b + 5, x, h => by simp at h
theorem all5 {P : Blk → Bool} {a0 a1 a2 a3 a4 : Blk} (h0 : P a0 = true) (h1 : P a1 = true) (h2 : P a2 = true) (h3 : P a3 = true) (h4 : P a4 = true) : [a0, a1, a2, a3, a4].all P = true := by
  simp only [List.all_cons, List.all_nil, h0, h1, h2, h3, h4, Bool.and_true]
theorem f32 : E.funcs 32 = some Try.f32 := by kernel_rfl
theorem cellBytes_byte (b : ByteArray) : cellBytes (byteCells b) = some b.data.toList := by
  have : ∀ l : List UInt8, cellBytes (l.map fun b => Value.int .u8 b.toNat) = some l := by
    intro l
    induction l with
    | nil => rfl
    | cons x r ih =>
      simp only [List.map_cons, cellBytes, ih, cellByte, Int.toNat_natCast, UInt8.ofNat_toNat]
  exact this _
theorem dC_all {D : ByteArray} {T : Nat} {th : Nat → Bool} (hT : D.size = T) (h : ∀ i, i < T → th i = true) : cellBytes (dC D T th) = some D.data.toList := by
  have : mkB T (fun i => if th i = true then byteAt D i else 0) = D := by
    subst hT
    unfold mkB
    refine ByteArray.ext (Array.ext' ?_)
    apply List.ext_getElem?
    intro i
    show ((List.range D.size).map _)[i]? = _
    rw [List.getElem?_map]
    by_cases hi : i < D.size
    · rw [List.getElem?_range hi, byteAt_get D i hi, Option.map_some, h i hi, if_pos rfl]
    · rw [List.getElem?_eq_none (by simp; omega), List.getElem?_eq_none (by show D.data.toList.length ≤ i; simp; omega)]
      rfl
  unfold dC
  rw [this]
  exact cellBytes_byte D
theorem dC_cells (D : ByteArray) (T : Nat) (th : Nat → Bool) : cellsAt (dC D T th) 0 T = some (dC D T th) := by
  unfold cellsAt
  rw [if_pos (by rw [dC_len]; omega), List.drop_zero, List.take_of_length_le (by rw [dC_len]; omega)]
theorem LentEnd.less {E : Env} {A L : Nat} {v : Value} {bs : List Blk} {v1 : Value} {h : Heap} (c : LentEnd E A v bs v1 h) (hL : L ≤ A) : LentEnd E L v bs v1 h := by
  obtain ⟨rl, h1, h2, h3⟩ := c
  refine ⟨rl, h1, ?_, h3⟩
  unfold keepsL at h2 ⊢
  rw [List.all_eq_true] at h2 ⊢
  intro b hb
  rw [List.mem_range] at hb
  exact h2 b (List.mem_range.2 (by omega))
set_option maxHeartbeats 8000000 in
theorem take_old_NN_inc (T : Nat) (D : ByteArray) (th : Nat → Bool) (k : Gr) (p : Gr) (ok : OkGr p) (hv : okG p = true) (a : Nat) (ha : p.at' = a) (hb : (p.at' == 0) = false) (hd : p.data = D.extract a (a + p.data.size)) (hD : a + p.data.size ≤ D.size) (hT : D.size = T) (hT2 : T ≤ 4000) (e1 : k.fr = p.fr) (e2 : k.to = p.to) (e3 : k.number = p.number) (e4 : k.total = p.total)  : Lent E 32 [.pointer (some ⟨0, 0, none⟩), gv p] [st1, ar1, ⟨122, true, (wN T k)⟩, ⟨5, true, dC D T th⟩, ⟨4, true, bC T th⟩] (.tuple #[.agg zc.toArray, .bool false, .int .i64 0]) [st1, ar1, ⟨122, true, (wN T k)⟩, ⟨5, true, dC D T (thN th a p.data.size)⟩, ⟨4, true, bC T (thN th a p.data.size)⟩] := by
  refine Lent.of f32 rfl (of_decide_eq_true (by kernel_rfl)) rfl rfl (Nat.le_of_ble_eq_true rfl) (by kernel_rfl) (all5 (by kernel_rfl) (by kernel_rfl) (by kernel_rfl) (okCs_flat (dC_flat _ _ _)) (okCs_flat (bC_flat _ _))) (by kernel_rfl) ?_
  have c1 := valid20 p (by have := ok.fl; omega) (by have := ok.tl; omega)
  rw [hv] at c1
  have c2 := no60N T D th k p
  have c3 := idx61N T D th k p e1 e2 e3 (by have := ok.fl; omega) (by have := ok.tl; omega)
  have d1 : (k.total != p.total) = false := by rw [e4]; simp
  have c4 := put65NN T D th k p a ha hb hd hD hT hT2
  refine Wp.seq (Wp.text ?_)
  refine md 3 (.pointer (some ⟨5, 0, none⟩)) (Blk.mk 24 true (gc p)) ?_
  refine md 4 (.pointer (some ⟨6, 0, none⟩)) (Blk.mk 24 true zc) ?_
  refine kp 5 (.bool false) ?_
  refine kp 6 (.int IntKind.i64 0) ?_
  refine WpOps.nil (thenK_at (Wp.seq (Wp.seq (Wp.text ?_))))
  refine kp 10 (.pointer (some ⟨0, 0, none⟩)) ?_
  refine cl 11 60 [Value.pointer (some ⟨0, 0, none⟩)] ?_
  refine WpCall.enterL c2 (by simp only [none_heapOf, heapOf_alloc]; rfl) ?_
  refine kp 12 (.bool false) ?_
  refine kp 13 (gv p) ?_
  refine fr 14 20 [gv p] ?_
  refine WpFun.of (c1) ?_
  refine kp 15 (.bool false) ?_
  refine kp 16 (.bool false) ?_
  refine WpOps.nil (thenK_at (off' (Wp.skip (thenK_at (Wp.seq (Wp.text ?_))))))
  refine kp 18 (.pointer (some ⟨0, 0, none⟩)) ?_
  refine kp 19 (.pointer (some ⟨0, 0, none⟩)) ?_
  refine kp 20 (.pointer (some ⟨0, 2, none⟩)) ?_
  refine kp 21 (.slice (some ⟨1, 0, none⟩) 1 1) ?_
  refine kp 22 (.func (Fn.func 62) #[] #[Value.pointer (some ⟨5, 0, none⟩)]) ?_
  refine cl 23 61 [Value.slice (some ⟨1, 0, none⟩) 1 1, Value.func (Fn.func 62) #[] #[Value.pointer (some ⟨5, 0, none⟩)]] ?_
  refine WpCall.enterL c3 rfl ?_
  refine kp 7 (.int IntKind.i64 0) ?_
  refine WpOps.nil (thenK_at (Wp.seq (Wp.seq (Wp.text ?_))))
  refine kp 24 (.int IntKind.i64 0) ?_
  refine kp 25 (.bool false) ?_
  refine WpOps.nil (thenK_at (off' (Wp.skip (thenK_at (Wp.seq (Wp.text ?_))))))
  refine kp 65 (.pointer (some ⟨0, 0, none⟩)) ?_
  refine kp 66 (.pointer (some ⟨0, 0, none⟩)) ?_
  refine kp 67 (.pointer (some ⟨0, 2, none⟩)) ?_
  refine kp 68 (.slice (some ⟨1, 0, none⟩) 1 1) ?_
  refine kp 69 (.int IntKind.i64 0) ?_
  refine kp 70 (.pointer (some ⟨1, 0, none⟩)) ?_
  refine kp 71 (.pointer (some ⟨2, 0, none⟩)) ?_
  refine kp 8 (.pointer (some ⟨2, 0, none⟩)) ?_
  refine WpOps.nil (thenK_at (Wp.seq (Wp.seq ?_)))
  refine Wp.region (by kernel_rfl) ?_
  refine kp 72 (.pointer (some ⟨2, 0, none⟩)) ?_
  refine kp 73 (.pointer (some ⟨2, 0, none⟩)) ?_
  refine kp 74 (.pointer (some ⟨2, 12, none⟩)) ?_
  refine kp 75 (.pointer (some ⟨2, 17, none⟩)) ?_
  refine kp 76 (.int IntKind.i64 (Gr.total k)) ?_
  refine kp 77 (.pointer (some ⟨5, 5, none⟩)) ?_
  refine kp 78 (.int IntKind.i64 (Gr.total p)) ?_
  refine kp 79 (.bool false) ?_ (hop := fun _ => by_fact d1)
  refine WpOps.nil (thenK_at (off' (Wp.skip (thenK_at (Wp.seq (Wp.text ?_))))))
  refine kp 81 (.pointer (some ⟨2, 0, none⟩)) ?_
  refine kp 82 (gv p) ?_
  refine cl 83 65 [Value.pointer (some ⟨2, 0, none⟩), gv p] ?_
  refine WpCall.enterL c4 rfl ?_
  refine WpOps.nil (thenK_at (Wp.seq (Wp.seq (Wp.text ?_))))
  refine kp 84 (.pointer (some ⟨2, 0, none⟩)) ?_
  refine kp 85 (.pointer (some ⟨2, 0, none⟩)) ?_
  refine kp 86 (.pointer (some ⟨2, 11, none⟩)) ?_
  refine kp 87 (.bool false) ?_
  refine kp 88 (.bool true) ?_
  refine kp 89 (.bool true) ?_
  refine um 90 ?_
  refine um 91 ?_
  refine um 92 ?_
  refine um 93 ?_
  refine um 94 ?_
  refine kp 95 (.bool true) ?_
  refine WpOps.nil (thenK_at (on' (Wp.seq (Wp.text ?_))))
  refine kp 96 (.agg zc.toArray) ?_
  refine ld (.tuple #[]) (6) (Blk.mk 24 true zc) ?_
  refine kp 5 (.bool false) ?_
  refine kp 6 (.int IntKind.i64 0) ?_
  refine WpOps.nil (thenK_at (Wp.ret (thenK_ret ?_)))
  refine endK_retn [Value.agg #[Value.slice none 0 0, Value.slice none 0 0, Value.int IntKind.i64 0, Value.int IntKind.i64 0, Value.int IntKind.i64 0, Value.int IntKind.i64 0, Value.int IntKind.i64 0, Value.bool false, Value.bool false, Value.bool false, Value.string (ByteArray.mk #[])], Value.bool false, Value.int IntKind.i64 0] (Value.tuple #[Value.agg #[Value.slice none 0 0, Value.slice none 0 0, Value.int IntKind.i64 0, Value.int IntKind.i64 0, Value.int IntKind.i64 0, Value.int IntKind.i64 0, Value.int IntKind.i64 0, Value.bool false, Value.bool false, Value.bool false, Value.string (ByteArray.mk #[])], Value.bool false, Value.int IntKind.i64 0]) (by kernel_rfl) (by kernel_rfl) ?_
  exact lentSame [st1, ar1, ⟨122, true, (wN T k)⟩, ⟨5, true, dC D T (thN th a p.data.size)⟩, ⟨4, true, bC T (thN th a p.data.size)⟩] (pre5 ⟨by kernel_rfl, by kernel_rfl⟩ ⟨by kernel_rfl, by kernel_rfl⟩ ⟨by kernel_rfl, by kernel_rfl⟩ ⟨by kernel_rfl, okCs_flat (dC_flat _ _ _)⟩ ⟨by kernel_rfl, okCs_flat (bC_flat _ _)⟩) (.tuple _ _ (by kernel_rfl) rfl (.cons (.un rfl rfl) (.cons (.un rfl rfl) (.cons (.un rfl rfl) .nil))))
set_option maxHeartbeats 8000000 in
theorem take_old_NB_inc (T : Nat) (D : ByteArray) (th : Nat → Bool) (k : Gr) (p : Gr) (ok : OkGr p) (hv : okG p = true) (a : Nat) (ha : p.at' = a) (hb : (p.at' == 0) = true) (hd : p.data = D.extract a (a + p.data.size)) (hD : a + p.data.size ≤ D.size) (hT : D.size = T) (hT2 : T ≤ 4000) (e1 : k.fr = p.fr) (e2 : k.to = p.to) (e3 : k.number = p.number) (e4 : k.total = p.total) (m : Nat) (hm : m < T) (hm2 : (thN th a p.data.size) m = false) (hall : ∀ i, i < m → (thN th a p.data.size) i = true) : Lent E 32 [.pointer (some ⟨0, 0, none⟩), gv p] [st1, ar1, ⟨122, true, (wN T k)⟩, ⟨5, true, dC D T th⟩, ⟨4, true, bC T th⟩] (.tuple #[.agg zc.toArray, .bool false, .int .i64 0]) [st1, ar1, ⟨122, true, (wB T (ownG p) k)⟩, ⟨5, true, dC D T (thN th a p.data.size)⟩, ⟨4, true, bC T (thN th a p.data.size)⟩] := by
  refine Lent.of f32 rfl (of_decide_eq_true (by kernel_rfl)) rfl rfl (Nat.le_of_ble_eq_true rfl) (by kernel_rfl) (all5 (by kernel_rfl) (by kernel_rfl) (by kernel_rfl) (okCs_flat (dC_flat _ _ _)) (okCs_flat (bC_flat _ _))) (by kernel_rfl) ?_
  have c1 := valid20 p (by have := ok.fl; omega) (by have := ok.tl; omega)
  rw [hv] at c1
  have c2 := no60N T D th k p
  have c3 := idx61N T D th k p e1 e2 e3 (by have := ok.fl; omega) (by have := ok.tl; omega)
  have d1 : (k.total != p.total) = false := by rw [e4]; simp
  have c4 := put65NB T D th k p a ha hb ok hd hD hT hT2
  have c5 := cont66_some T D (thN th a p.data.size) (ownG p) k p hT2 m hm hm2 hall
  refine Wp.seq (Wp.text ?_)
  refine md 3 (.pointer (some ⟨5, 0, none⟩)) (Blk.mk 24 true (gc p)) ?_
  refine md 4 (.pointer (some ⟨6, 0, none⟩)) (Blk.mk 24 true zc) ?_
  refine kp 5 (.bool false) ?_
  refine kp 6 (.int IntKind.i64 0) ?_
  refine WpOps.nil (thenK_at (Wp.seq (Wp.seq (Wp.text ?_))))
  refine kp 10 (.pointer (some ⟨0, 0, none⟩)) ?_
  refine cl 11 60 [Value.pointer (some ⟨0, 0, none⟩)] ?_
  refine WpCall.enterL c2 (by simp only [none_heapOf, heapOf_alloc]; rfl) ?_
  refine kp 12 (.bool false) ?_
  refine kp 13 (gv p) ?_
  refine fr 14 20 [gv p] ?_
  refine WpFun.of (c1) ?_
  refine kp 15 (.bool false) ?_
  refine kp 16 (.bool false) ?_
  refine WpOps.nil (thenK_at (off' (Wp.skip (thenK_at (Wp.seq (Wp.text ?_))))))
  refine kp 18 (.pointer (some ⟨0, 0, none⟩)) ?_
  refine kp 19 (.pointer (some ⟨0, 0, none⟩)) ?_
  refine kp 20 (.pointer (some ⟨0, 2, none⟩)) ?_
  refine kp 21 (.slice (some ⟨1, 0, none⟩) 1 1) ?_
  refine kp 22 (.func (Fn.func 62) #[] #[Value.pointer (some ⟨5, 0, none⟩)]) ?_
  refine cl 23 61 [Value.slice (some ⟨1, 0, none⟩) 1 1, Value.func (Fn.func 62) #[] #[Value.pointer (some ⟨5, 0, none⟩)]] ?_
  refine WpCall.enterL c3 rfl ?_
  refine kp 7 (.int IntKind.i64 0) ?_
  refine WpOps.nil (thenK_at (Wp.seq (Wp.seq (Wp.text ?_))))
  refine kp 24 (.int IntKind.i64 0) ?_
  refine kp 25 (.bool false) ?_
  refine WpOps.nil (thenK_at (off' (Wp.skip (thenK_at (Wp.seq (Wp.text ?_))))))
  refine kp 65 (.pointer (some ⟨0, 0, none⟩)) ?_
  refine kp 66 (.pointer (some ⟨0, 0, none⟩)) ?_
  refine kp 67 (.pointer (some ⟨0, 2, none⟩)) ?_
  refine kp 68 (.slice (some ⟨1, 0, none⟩) 1 1) ?_
  refine kp 69 (.int IntKind.i64 0) ?_
  refine kp 70 (.pointer (some ⟨1, 0, none⟩)) ?_
  refine kp 71 (.pointer (some ⟨2, 0, none⟩)) ?_
  refine kp 8 (.pointer (some ⟨2, 0, none⟩)) ?_
  refine WpOps.nil (thenK_at (Wp.seq (Wp.seq ?_)))
  refine Wp.region (by kernel_rfl) ?_
  refine kp 72 (.pointer (some ⟨2, 0, none⟩)) ?_
  refine kp 73 (.pointer (some ⟨2, 0, none⟩)) ?_
  refine kp 74 (.pointer (some ⟨2, 12, none⟩)) ?_
  refine kp 75 (.pointer (some ⟨2, 17, none⟩)) ?_
  refine kp 76 (.int IntKind.i64 (Gr.total k)) ?_
  refine kp 77 (.pointer (some ⟨5, 5, none⟩)) ?_
  refine kp 78 (.int IntKind.i64 (Gr.total p)) ?_
  refine kp 79 (.bool false) ?_ (hop := fun _ => by_fact d1)
  refine WpOps.nil (thenK_at (off' (Wp.skip (thenK_at (Wp.seq (Wp.text ?_))))))
  refine kp 81 (.pointer (some ⟨2, 0, none⟩)) ?_
  refine kp 82 (gv p) ?_
  refine cl 83 65 [Value.pointer (some ⟨2, 0, none⟩), gv p] ?_
  refine WpCall.enterL c4 rfl ?_
  refine WpOps.nil (thenK_at (Wp.seq (Wp.seq (Wp.text ?_))))
  refine kp 84 (.pointer (some ⟨2, 0, none⟩)) ?_
  refine kp 85 (.pointer (some ⟨2, 0, none⟩)) ?_
  refine kp 86 (.pointer (some ⟨2, 11, none⟩)) ?_
  refine kp 87 (.bool true) ?_
  refine kp 88 (.bool false) ?_
  refine kp 89 (.bool false) ?_
  refine kp 90 (.pointer (some ⟨2, 0, none⟩)) ?_
  refine kp 91 (.pointer (some ⟨2, 0, none⟩)) ?_
  refine kp 92 (.pointer (some ⟨2, 24, none⟩)) ?_
  refine kp 93 (.slice (some ⟨4, 0, none⟩) T T) ?_
  refine cl 94 66 [Value.slice (some ⟨4, 0, none⟩) T T, Value.bool false] ?_
  refine WpCall.enterL c5 rfl ?_
  refine kp 95 (.bool true) ?_
  refine WpOps.nil (thenK_at (on' (Wp.seq (Wp.text ?_))))
  refine kp 96 (.agg zc.toArray) ?_
  refine ld (.tuple #[]) (6) (Blk.mk 24 true zc) ?_
  refine kp 5 (.bool false) ?_
  refine kp 6 (.int IntKind.i64 0) ?_
  refine WpOps.nil (thenK_at (Wp.ret (thenK_ret ?_)))
  refine endK_retn [Value.agg #[Value.slice none 0 0, Value.slice none 0 0, Value.int IntKind.i64 0, Value.int IntKind.i64 0, Value.int IntKind.i64 0, Value.int IntKind.i64 0, Value.int IntKind.i64 0, Value.bool false, Value.bool false, Value.bool false, Value.string (ByteArray.mk #[])], Value.bool false, Value.int IntKind.i64 0] (Value.tuple #[Value.agg #[Value.slice none 0 0, Value.slice none 0 0, Value.int IntKind.i64 0, Value.int IntKind.i64 0, Value.int IntKind.i64 0, Value.int IntKind.i64 0, Value.int IntKind.i64 0, Value.bool false, Value.bool false, Value.bool false, Value.string (ByteArray.mk #[])], Value.bool false, Value.int IntKind.i64 0]) (by kernel_rfl) (by kernel_rfl) ?_
  exact lentSame [st1, ar1, ⟨122, true, (wB T (ownG p) k)⟩, ⟨5, true, dC D T (thN th a p.data.size)⟩, ⟨4, true, bC T (thN th a p.data.size)⟩] (pre5 ⟨by kernel_rfl, by kernel_rfl⟩ ⟨by kernel_rfl, by kernel_rfl⟩ ⟨by kernel_rfl, by kernel_rfl⟩ ⟨by kernel_rfl, okCs_flat (dC_flat _ _ _)⟩ ⟨by kernel_rfl, okCs_flat (bC_flat _ _)⟩) (.tuple _ _ (by kernel_rfl) rfl (.cons (.un rfl rfl) (.cons (.un rfl rfl) (.cons (.un rfl rfl) .nil))))
set_option maxHeartbeats 8000000 in
theorem take_old_NB_done (T : Nat) (D : ByteArray) (th : Nat → Bool) (k : Gr) (p : Gr) (ok : OkGr p) (hv : okG p = true) (a : Nat) (ha : p.at' = a) (hb : (p.at' == 0) = true) (hd : p.data = D.extract a (a + p.data.size)) (hD : a + p.data.size ≤ D.size) (hT : D.size = T) (hT2 : T ≤ 4000) (e1 : k.fr = p.fr) (e2 : k.to = p.to) (e3 : k.number = p.number) (e4 : k.total = p.total) (hall : ∀ i, i < T → (thN th a p.data.size) i = true) : Lent E 32 [.pointer (some ⟨0, 0, none⟩), gv p] [st1, ar1, ⟨122, true, (wN T k)⟩, ⟨5, true, dC D T th⟩, ⟨4, true, bC T th⟩] (.tuple #[.agg #[sl (ownG p).fx (ownG p).fr, sl (ownG p).tx (ownG p).to, .int .i64 (ownG p).number, .int .i64 (ownG p).life, .int .i64 (ownG p).at', .int .i64 (ownG p).total, .int .i64 (ownG p).report, .bool false, .bool (ownG p).may, .bool (ownG p).wants, .string D], .bool true, .int .i64 0]) [⟨66, true, [.int .i64 1, .int .i64 60, .slice (some ⟨1, 0, none⟩) 0 1]⟩, ⟨119, true, [.pointer none]⟩, ⟨122, true, (wB T (ownG p) k)⟩, ⟨5, true, dC D T (thN th a p.data.size)⟩, ⟨4, true, bC T (thN th a p.data.size)⟩] := by
  refine Lent.of f32 rfl (of_decide_eq_true (by kernel_rfl)) rfl rfl (Nat.le_of_ble_eq_true rfl) (by kernel_rfl) (all5 (by kernel_rfl) (by kernel_rfl) (by kernel_rfl) (okCs_flat (dC_flat _ _ _)) (okCs_flat (bC_flat _ _))) (by kernel_rfl) ?_
  have c1 := valid20 p (by have := ok.fl; omega) (by have := ok.tl; omega)
  rw [hv] at c1
  have c2 := no60N T D th k p
  have c3 := idx61N T D th k p e1 e2 e3 (by have := ok.fl; omega) (by have := ok.tl; omega)
  have d1 : (k.total != p.total) = false := by rw [e4]; simp
  have c4 := put65NB T D th k p a ha hb ok hd hD hT hT2
  have c5 := cont66_all T D (thN th a p.data.size) (ownG p) k p hT2 hall
  have c6 := del67 T D (thN th a p.data.size) (ownG p) k p
  have hcb := dC_all hT hall
  have hca := dC_cells D T (thN th a p.data.size)
  refine Wp.seq (Wp.text ?_)
  refine md 3 (.pointer (some ⟨5, 0, none⟩)) (Blk.mk 24 true (gc p)) ?_
  refine md 4 (.pointer (some ⟨6, 0, none⟩)) (Blk.mk 24 true zc) ?_
  refine kp 5 (.bool false) ?_
  refine kp 6 (.int IntKind.i64 0) ?_
  refine WpOps.nil (thenK_at (Wp.seq (Wp.seq (Wp.text ?_))))
  refine kp 10 (.pointer (some ⟨0, 0, none⟩)) ?_
  refine cl 11 60 [Value.pointer (some ⟨0, 0, none⟩)] ?_
  refine WpCall.enterL c2 (by simp only [none_heapOf, heapOf_alloc]; rfl) ?_
  refine kp 12 (.bool false) ?_
  refine kp 13 (gv p) ?_
  refine fr 14 20 [gv p] ?_
  refine WpFun.of (c1) ?_
  refine kp 15 (.bool false) ?_
  refine kp 16 (.bool false) ?_
  refine WpOps.nil (thenK_at (off' (Wp.skip (thenK_at (Wp.seq (Wp.text ?_))))))
  refine kp 18 (.pointer (some ⟨0, 0, none⟩)) ?_
  refine kp 19 (.pointer (some ⟨0, 0, none⟩)) ?_
  refine kp 20 (.pointer (some ⟨0, 2, none⟩)) ?_
  refine kp 21 (.slice (some ⟨1, 0, none⟩) 1 1) ?_
  refine kp 22 (.func (Fn.func 62) #[] #[Value.pointer (some ⟨5, 0, none⟩)]) ?_
  refine cl 23 61 [Value.slice (some ⟨1, 0, none⟩) 1 1, Value.func (Fn.func 62) #[] #[Value.pointer (some ⟨5, 0, none⟩)]] ?_
  refine WpCall.enterL c3 rfl ?_
  refine kp 7 (.int IntKind.i64 0) ?_
  refine WpOps.nil (thenK_at (Wp.seq (Wp.seq (Wp.text ?_))))
  refine kp 24 (.int IntKind.i64 0) ?_
  refine kp 25 (.bool false) ?_
  refine WpOps.nil (thenK_at (off' (Wp.skip (thenK_at (Wp.seq (Wp.text ?_))))))
  refine kp 65 (.pointer (some ⟨0, 0, none⟩)) ?_
  refine kp 66 (.pointer (some ⟨0, 0, none⟩)) ?_
  refine kp 67 (.pointer (some ⟨0, 2, none⟩)) ?_
  refine kp 68 (.slice (some ⟨1, 0, none⟩) 1 1) ?_
  refine kp 69 (.int IntKind.i64 0) ?_
  refine kp 70 (.pointer (some ⟨1, 0, none⟩)) ?_
  refine kp 71 (.pointer (some ⟨2, 0, none⟩)) ?_
  refine kp 8 (.pointer (some ⟨2, 0, none⟩)) ?_
  refine WpOps.nil (thenK_at (Wp.seq (Wp.seq ?_)))
  refine Wp.region (by kernel_rfl) ?_
  refine kp 72 (.pointer (some ⟨2, 0, none⟩)) ?_
  refine kp 73 (.pointer (some ⟨2, 0, none⟩)) ?_
  refine kp 74 (.pointer (some ⟨2, 12, none⟩)) ?_
  refine kp 75 (.pointer (some ⟨2, 17, none⟩)) ?_
  refine kp 76 (.int IntKind.i64 (Gr.total k)) ?_
  refine kp 77 (.pointer (some ⟨5, 5, none⟩)) ?_
  refine kp 78 (.int IntKind.i64 (Gr.total p)) ?_
  refine kp 79 (.bool false) ?_ (hop := fun _ => by_fact d1)
  refine WpOps.nil (thenK_at (off' (Wp.skip (thenK_at (Wp.seq (Wp.text ?_))))))
  refine kp 81 (.pointer (some ⟨2, 0, none⟩)) ?_
  refine kp 82 (gv p) ?_
  refine cl 83 65 [Value.pointer (some ⟨2, 0, none⟩), gv p] ?_
  refine WpCall.enterL c4 rfl ?_
  refine WpOps.nil (thenK_at (Wp.seq (Wp.seq (Wp.text ?_))))
  refine kp 84 (.pointer (some ⟨2, 0, none⟩)) ?_
  refine kp 85 (.pointer (some ⟨2, 0, none⟩)) ?_
  refine kp 86 (.pointer (some ⟨2, 11, none⟩)) ?_
  refine kp 87 (.bool true) ?_
  refine kp 88 (.bool false) ?_
  refine kp 89 (.bool false) ?_
  refine kp 90 (.pointer (some ⟨2, 0, none⟩)) ?_
  refine kp 91 (.pointer (some ⟨2, 0, none⟩)) ?_
  refine kp 92 (.pointer (some ⟨2, 24, none⟩)) ?_
  refine kp 93 (.slice (some ⟨4, 0, none⟩) T T) ?_
  refine cl 94 66 [Value.slice (some ⟨4, 0, none⟩) T T, Value.bool false] ?_
  refine WpCall.enterL c5 rfl ?_
  refine kp 95 (.bool false) ?_
  refine WpOps.nil (thenK_at (off' (Wp.skip (thenK_at (Wp.seq (Wp.text ?_))))))
  refine kp 97 (.pointer (some ⟨0, 0, none⟩)) ?_
  refine kp 98 (.pointer (some ⟨0, 0, none⟩)) ?_
  refine kp 99 (.pointer (some ⟨0, 0, none⟩)) ?_
  refine kp 100 (.pointer (some ⟨0, 2, none⟩)) ?_
  refine kp 101 (.slice (some ⟨1, 0, none⟩) 1 1) ?_
  refine kp 102 (.int IntKind.i64 0) ?_
  refine kp 103 (.int IntKind.i64 0) ?_
  refine kp 104 (.int IntKind.i64 (IntKind.wrap .i64 (0 + 1))) ?_
  refine cl 105 67 [Value.slice (some ⟨1, 0, none⟩) 1 1, Value.int .i64 0, Value.int .i64 (IntKind.wrap .i64 (0 + 1))] ?_
  refine WpCall.enterL c6 rfl ?_
  refine kp 106 (.pointer (some ⟨0, 0, none⟩)) ?_
  refine kp 107 (.pointer (some ⟨0, 2, none⟩)) ?_
  refine ld (.tuple #[]) (0) (Blk.mk 66 true [Value.int .i64 1, Value.int .i64 60, Value.slice (some ⟨1, 0, none⟩) 0 1]) ?_
  refine WpOps.nil (thenK_at (Wp.seq (Wp.text ?_)))
  refine kp 108 (.pointer (some ⟨2, 0, none⟩)) ?_
  refine kp 109 (.pointer (some ⟨2, 0, none⟩)) ?_
  refine kp 110 (.pointer (some ⟨2, 0, none⟩)) ?_
  refine kp 111 (gv (ownG p)) ?_
  refine md 9 (.pointer (some ⟨7, 0, none⟩)) (Blk.mk 24 true zc) ?_
  refine ld (.tuple #[]) (7) (Blk.mk 24 true (gc (ownG p))) ?_
  refine WpOps.nil (thenK_at (Wp.seq (Wp.text ?_)))
  refine kp 112 (.pointer (some ⟨2, 0, none⟩)) ?_
  refine kp 113 (.pointer (some ⟨2, 0, none⟩)) ?_
  refine kp 114 (.pointer (some ⟨2, 23, none⟩)) ?_
  refine kp 115 (.slice (some ⟨3, 0, none⟩) T T) ?_
  refine kp 116 (.string (ByteArray.mk (List.toArray (Array.toList (ByteArray.data D))))) ?_ (hop := fun _ => o_bytes 5 (3) (0) (T) hca hcb)
  refine kp 117 (.pointer (some ⟨7, 10, none⟩)) ?_
  refine ld (.tuple #[]) (7) (Blk.mk 24 true [Value.iface 3 (Value.iface (List.length (Gr.fr (ownG p))) (Value.iface (Gr.fx (ownG p)) (Value.agg (List.toArray (List.map (fun n => Value.int .i64 n) (Gr.fr (ownG p))))))), Value.iface 3 (Value.iface (List.length (Gr.to (ownG p))) (Value.iface (Gr.tx (ownG p)) (Value.agg (List.toArray (List.map (fun n => Value.int .i64 n) (Gr.to (ownG p))))))), Value.int .i64 (Gr.number (ownG p)), Value.int .i64 (Gr.life (ownG p)), Value.int .i64 (Gr.at' (ownG p)), Value.int .i64 (Gr.total (ownG p)), Value.int .i64 (Gr.report (ownG p)), Value.bool (Gr.more (ownG p)), Value.bool (Gr.may (ownG p)), Value.bool (Gr.wants (ownG p)), Value.string (ByteArray.mk (List.toArray (Array.toList (ByteArray.data D))))]) ?_
  refine kp 118 (.pointer (some ⟨7, 7, none⟩)) ?_
  refine ld (.tuple #[]) (7) (Blk.mk 24 true [Value.iface 3 (Value.iface (List.length (Gr.fr (ownG p))) (Value.iface (Gr.fx (ownG p)) (Value.agg (List.toArray (List.map (fun n => Value.int .i64 n) (Gr.fr (ownG p))))))), Value.iface 3 (Value.iface (List.length (Gr.to (ownG p))) (Value.iface (Gr.tx (ownG p)) (Value.agg (List.toArray (List.map (fun n => Value.int .i64 n) (Gr.to (ownG p))))))), Value.int .i64 (Gr.number (ownG p)), Value.int .i64 (Gr.life (ownG p)), Value.int .i64 (Gr.at' (ownG p)), Value.int .i64 (Gr.total (ownG p)), Value.int .i64 (Gr.report (ownG p)), Value.bool false, Value.bool (Gr.may (ownG p)), Value.bool (Gr.wants (ownG p)), Value.string (ByteArray.mk (List.toArray (Array.toList (ByteArray.data D))))]) ?_
  refine WpOps.nil (thenK_at (Wp.seq (Wp.text ?_)))
  refine kp 119 (.agg #[Value.iface 3 (Value.iface (List.length (Gr.fr (ownG p))) (Value.iface (Gr.fx (ownG p)) (Value.agg (List.toArray (List.map (fun n => Value.int .i64 n) (Gr.fr (ownG p))))))), Value.iface 3 (Value.iface (List.length (Gr.to (ownG p))) (Value.iface (Gr.tx (ownG p)) (Value.agg (List.toArray (List.map (fun n => Value.int .i64 n) (Gr.to (ownG p))))))), Value.int .i64 (Gr.number (ownG p)), Value.int .i64 (Gr.life (ownG p)), Value.int .i64 (Gr.at' (ownG p)), Value.int .i64 (Gr.total (ownG p)), Value.int .i64 (Gr.report (ownG p)), Value.bool false, Value.bool (Gr.may (ownG p)), Value.bool (Gr.wants (ownG p)), Value.string (ByteArray.mk (List.toArray (Array.toList (ByteArray.data D))))]) ?_
  refine ld (.tuple #[]) (6) (Blk.mk 24 true [Value.iface 3 (Value.iface (List.length (Gr.fr (ownG p))) (Value.iface (Gr.fx (ownG p)) (Value.agg (List.toArray (List.map (fun n => Value.int .i64 n) (Gr.fr (ownG p))))))), Value.iface 3 (Value.iface (List.length (Gr.to (ownG p))) (Value.iface (Gr.tx (ownG p)) (Value.agg (List.toArray (List.map (fun n => Value.int .i64 n) (Gr.to (ownG p))))))), Value.int .i64 (Gr.number (ownG p)), Value.int .i64 (Gr.life (ownG p)), Value.int .i64 (Gr.at' (ownG p)), Value.int .i64 (Gr.total (ownG p)), Value.int .i64 (Gr.report (ownG p)), Value.bool false, Value.bool (Gr.may (ownG p)), Value.bool (Gr.wants (ownG p)), Value.string (ByteArray.mk (List.toArray (Array.toList (ByteArray.data D))))]) ?_
  refine kp 5 (.bool true) ?_
  refine kp 6 (.int IntKind.i64 0) ?_
  refine WpOps.nil (thenK_at (Wp.ret ?_))
  refine endK_retn [Value.agg #[Value.iface 3 (Value.iface (List.length (Gr.fr (ownG p))) (Value.iface (Gr.fx (ownG p)) (Value.agg (List.toArray (List.map (fun n => Value.int IntKind.i64 n) (Gr.fr (ownG p))))))), Value.iface 3 (Value.iface (List.length (Gr.to (ownG p))) (Value.iface (Gr.tx (ownG p)) (Value.agg (List.toArray (List.map (fun n => Value.int IntKind.i64 n) (Gr.to (ownG p))))))), Value.int IntKind.i64 (Gr.number (ownG p)), Value.int IntKind.i64 (Gr.life (ownG p)), Value.int IntKind.i64 (Gr.at' (ownG p)), Value.int IntKind.i64 (Gr.total (ownG p)), Value.int IntKind.i64 (Gr.report (ownG p)), Value.bool false, Value.bool (Gr.may (ownG p)), Value.bool (Gr.wants (ownG p)), Value.string (ByteArray.mk (List.toArray (Array.toList (ByteArray.data D))))], Value.bool true, Value.int IntKind.i64 0] (Value.tuple #[Value.agg #[Value.iface 3 (Value.iface (List.length (Gr.fr (ownG p))) (Value.iface (Gr.fx (ownG p)) (Value.agg (List.toArray (List.map (fun n => Value.int IntKind.i64 n) (Gr.fr (ownG p))))))), Value.iface 3 (Value.iface (List.length (Gr.to (ownG p))) (Value.iface (Gr.tx (ownG p)) (Value.agg (List.toArray (List.map (fun n => Value.int IntKind.i64 n) (Gr.to (ownG p))))))), Value.int IntKind.i64 (Gr.number (ownG p)), Value.int IntKind.i64 (Gr.life (ownG p)), Value.int IntKind.i64 (Gr.at' (ownG p)), Value.int IntKind.i64 (Gr.total (ownG p)), Value.int IntKind.i64 (Gr.report (ownG p)), Value.bool false, Value.bool (Gr.may (ownG p)), Value.bool (Gr.wants (ownG p)), Value.string (ByteArray.mk (List.toArray (Array.toList (ByteArray.data D))))], Value.bool true, Value.int IntKind.i64 0]) (by kernel_rfl) (by kernel_rfl) ?_
  exact lentSame [⟨66, true, [.int .i64 1, .int .i64 60, .slice (some ⟨1, 0, none⟩) 0 1]⟩, ⟨119, true, [.pointer none]⟩, ⟨122, true, (wB T (ownG p) k)⟩, ⟨5, true, dC D T (thN th a p.data.size)⟩, ⟨4, true, bC T (thN th a p.data.size)⟩] (pre5 ⟨by kernel_rfl, by kernel_rfl⟩ ⟨by kernel_rfl, by kernel_rfl⟩ ⟨by kernel_rfl, by kernel_rfl⟩ ⟨by kernel_rfl, okCs_flat (dC_flat _ _ _)⟩ ⟨by kernel_rfl, okCs_flat (bC_flat _ _)⟩) (.tuple _ _ (by kernel_rfl) rfl (.cons (.un rfl rfl) (.cons (.un rfl rfl) (.cons (.un rfl rfl) .nil))))
set_option maxHeartbeats 8000000 in
theorem take_old_BB_inc (T : Nat) (D : ByteArray) (th : Nat → Bool) (h : Gr) (k : Gr) (p : Gr) (ok : OkGr p) (hv : okG p = true) (a : Nat) (ha : p.at' = a) (hd : p.data = D.extract a (a + p.data.size)) (hD : a + p.data.size ≤ D.size) (hT : D.size = T) (hT2 : T ≤ 4000) (e1 : k.fr = p.fr) (e2 : k.to = p.to) (e3 : k.number = p.number) (e4 : k.total = p.total) (m : Nat) (hm : m < T) (hm2 : (thN th a p.data.size) m = false) (hall : ∀ i, i < m → (thN th a p.data.size) i = true) : Lent E 32 [.pointer (some ⟨0, 0, none⟩), gv p] [st1, ar1, ⟨122, true, (wB T h k)⟩, ⟨5, true, dC D T th⟩, ⟨4, true, bC T th⟩] (.tuple #[.agg zc.toArray, .bool false, .int .i64 0]) [st1, ar1, ⟨122, true, (wB T h k)⟩, ⟨5, true, dC D T (thN th a p.data.size)⟩, ⟨4, true, bC T (thN th a p.data.size)⟩] := by
  refine Lent.of f32 rfl (of_decide_eq_true (by kernel_rfl)) rfl rfl (Nat.le_of_ble_eq_true rfl) (by kernel_rfl) (all5 (by kernel_rfl) (by kernel_rfl) (by kernel_rfl) (okCs_flat (dC_flat _ _ _)) (okCs_flat (bC_flat _ _))) (by kernel_rfl) ?_
  have c1 := valid20 p (by have := ok.fl; omega) (by have := ok.tl; omega)
  rw [hv] at c1
  have c2 := no60B T D th h k p
  have c3 := idx61B T D th h k p e1 e2 e3 (by have := ok.fl; omega) (by have := ok.tl; omega)
  have d1 : (k.total != p.total) = false := by rw [e4]; simp
  have c4 := put65BB T D th h k p a ha hd hD hT hT2
  have c5 := cont66_some T D (thN th a p.data.size) h k p hT2 m hm hm2 hall
  refine Wp.seq (Wp.text ?_)
  refine md 3 (.pointer (some ⟨5, 0, none⟩)) (Blk.mk 24 true (gc p)) ?_
  refine md 4 (.pointer (some ⟨6, 0, none⟩)) (Blk.mk 24 true zc) ?_
  refine kp 5 (.bool false) ?_
  refine kp 6 (.int IntKind.i64 0) ?_
  refine WpOps.nil (thenK_at (Wp.seq (Wp.seq (Wp.text ?_))))
  refine kp 10 (.pointer (some ⟨0, 0, none⟩)) ?_
  refine cl 11 60 [Value.pointer (some ⟨0, 0, none⟩)] ?_
  refine WpCall.enterL c2 (by simp only [none_heapOf, heapOf_alloc]; rfl) ?_
  refine kp 12 (.bool false) ?_
  refine kp 13 (gv p) ?_
  refine fr 14 20 [gv p] ?_
  refine WpFun.of (c1) ?_
  refine kp 15 (.bool false) ?_
  refine kp 16 (.bool false) ?_
  refine WpOps.nil (thenK_at (off' (Wp.skip (thenK_at (Wp.seq (Wp.text ?_))))))
  refine kp 18 (.pointer (some ⟨0, 0, none⟩)) ?_
  refine kp 19 (.pointer (some ⟨0, 0, none⟩)) ?_
  refine kp 20 (.pointer (some ⟨0, 2, none⟩)) ?_
  refine kp 21 (.slice (some ⟨1, 0, none⟩) 1 1) ?_
  refine kp 22 (.func (Fn.func 62) #[] #[Value.pointer (some ⟨5, 0, none⟩)]) ?_
  refine cl 23 61 [Value.slice (some ⟨1, 0, none⟩) 1 1, Value.func (Fn.func 62) #[] #[Value.pointer (some ⟨5, 0, none⟩)]] ?_
  refine WpCall.enterL c3 rfl ?_
  refine kp 7 (.int IntKind.i64 0) ?_
  refine WpOps.nil (thenK_at (Wp.seq (Wp.seq (Wp.text ?_))))
  refine kp 24 (.int IntKind.i64 0) ?_
  refine kp 25 (.bool false) ?_
  refine WpOps.nil (thenK_at (off' (Wp.skip (thenK_at (Wp.seq (Wp.text ?_))))))
  refine kp 65 (.pointer (some ⟨0, 0, none⟩)) ?_
  refine kp 66 (.pointer (some ⟨0, 0, none⟩)) ?_
  refine kp 67 (.pointer (some ⟨0, 2, none⟩)) ?_
  refine kp 68 (.slice (some ⟨1, 0, none⟩) 1 1) ?_
  refine kp 69 (.int IntKind.i64 0) ?_
  refine kp 70 (.pointer (some ⟨1, 0, none⟩)) ?_
  refine kp 71 (.pointer (some ⟨2, 0, none⟩)) ?_
  refine kp 8 (.pointer (some ⟨2, 0, none⟩)) ?_
  refine WpOps.nil (thenK_at (Wp.seq (Wp.seq ?_)))
  refine Wp.region (by kernel_rfl) ?_
  refine kp 72 (.pointer (some ⟨2, 0, none⟩)) ?_
  refine kp 73 (.pointer (some ⟨2, 0, none⟩)) ?_
  refine kp 74 (.pointer (some ⟨2, 12, none⟩)) ?_
  refine kp 75 (.pointer (some ⟨2, 17, none⟩)) ?_
  refine kp 76 (.int IntKind.i64 (Gr.total k)) ?_
  refine kp 77 (.pointer (some ⟨5, 5, none⟩)) ?_
  refine kp 78 (.int IntKind.i64 (Gr.total p)) ?_
  refine kp 79 (.bool false) ?_ (hop := fun _ => by_fact d1)
  refine WpOps.nil (thenK_at (off' (Wp.skip (thenK_at (Wp.seq (Wp.text ?_))))))
  refine kp 81 (.pointer (some ⟨2, 0, none⟩)) ?_
  refine kp 82 (gv p) ?_
  refine cl 83 65 [Value.pointer (some ⟨2, 0, none⟩), gv p] ?_
  refine WpCall.enterL c4 rfl ?_
  refine WpOps.nil (thenK_at (Wp.seq (Wp.seq (Wp.text ?_))))
  refine kp 84 (.pointer (some ⟨2, 0, none⟩)) ?_
  refine kp 85 (.pointer (some ⟨2, 0, none⟩)) ?_
  refine kp 86 (.pointer (some ⟨2, 11, none⟩)) ?_
  refine kp 87 (.bool true) ?_
  refine kp 88 (.bool false) ?_
  refine kp 89 (.bool false) ?_
  refine kp 90 (.pointer (some ⟨2, 0, none⟩)) ?_
  refine kp 91 (.pointer (some ⟨2, 0, none⟩)) ?_
  refine kp 92 (.pointer (some ⟨2, 24, none⟩)) ?_
  refine kp 93 (.slice (some ⟨4, 0, none⟩) T T) ?_
  refine cl 94 66 [Value.slice (some ⟨4, 0, none⟩) T T, Value.bool false] ?_
  refine WpCall.enterL c5 rfl ?_
  refine kp 95 (.bool true) ?_
  refine WpOps.nil (thenK_at (on' (Wp.seq (Wp.text ?_))))
  refine kp 96 (.agg zc.toArray) ?_
  refine ld (.tuple #[]) (6) (Blk.mk 24 true zc) ?_
  refine kp 5 (.bool false) ?_
  refine kp 6 (.int IntKind.i64 0) ?_
  refine WpOps.nil (thenK_at (Wp.ret (thenK_ret ?_)))
  refine endK_retn [Value.agg #[Value.slice none 0 0, Value.slice none 0 0, Value.int IntKind.i64 0, Value.int IntKind.i64 0, Value.int IntKind.i64 0, Value.int IntKind.i64 0, Value.int IntKind.i64 0, Value.bool false, Value.bool false, Value.bool false, Value.string (ByteArray.mk #[])], Value.bool false, Value.int IntKind.i64 0] (Value.tuple #[Value.agg #[Value.slice none 0 0, Value.slice none 0 0, Value.int IntKind.i64 0, Value.int IntKind.i64 0, Value.int IntKind.i64 0, Value.int IntKind.i64 0, Value.int IntKind.i64 0, Value.bool false, Value.bool false, Value.bool false, Value.string (ByteArray.mk #[])], Value.bool false, Value.int IntKind.i64 0]) (by kernel_rfl) (by kernel_rfl) ?_
  exact lentSame [st1, ar1, ⟨122, true, (wB T h k)⟩, ⟨5, true, dC D T (thN th a p.data.size)⟩, ⟨4, true, bC T (thN th a p.data.size)⟩] (pre5 ⟨by kernel_rfl, by kernel_rfl⟩ ⟨by kernel_rfl, by kernel_rfl⟩ ⟨by kernel_rfl, by kernel_rfl⟩ ⟨by kernel_rfl, okCs_flat (dC_flat _ _ _)⟩ ⟨by kernel_rfl, okCs_flat (bC_flat _ _)⟩) (.tuple _ _ (by kernel_rfl) rfl (.cons (.un rfl rfl) (.cons (.un rfl rfl) (.cons (.un rfl rfl) .nil))))
set_option maxHeartbeats 8000000 in
theorem take_old_BB_done (T : Nat) (D : ByteArray) (th : Nat → Bool) (h : Gr) (k : Gr) (p : Gr) (ok : OkGr p) (hv : okG p = true) (a : Nat) (ha : p.at' = a) (hd : p.data = D.extract a (a + p.data.size)) (hD : a + p.data.size ≤ D.size) (hT : D.size = T) (hT2 : T ≤ 4000) (e1 : k.fr = p.fr) (e2 : k.to = p.to) (e3 : k.number = p.number) (e4 : k.total = p.total) (hall : ∀ i, i < T → (thN th a p.data.size) i = true) : Lent E 32 [.pointer (some ⟨0, 0, none⟩), gv p] [st1, ar1, ⟨122, true, (wB T h k)⟩, ⟨5, true, dC D T th⟩, ⟨4, true, bC T th⟩] (.tuple #[.agg #[sl h.fx h.fr, sl h.tx h.to, .int .i64 h.number, .int .i64 h.life, .int .i64 h.at', .int .i64 h.total, .int .i64 h.report, .bool false, .bool h.may, .bool h.wants, .string D], .bool true, .int .i64 0]) [⟨66, true, [.int .i64 1, .int .i64 60, .slice (some ⟨1, 0, none⟩) 0 1]⟩, ⟨119, true, [.pointer none]⟩, ⟨122, true, (wB T h k)⟩, ⟨5, true, dC D T (thN th a p.data.size)⟩, ⟨4, true, bC T (thN th a p.data.size)⟩] := by
  refine Lent.of f32 rfl (of_decide_eq_true (by kernel_rfl)) rfl rfl (Nat.le_of_ble_eq_true rfl) (by kernel_rfl) (all5 (by kernel_rfl) (by kernel_rfl) (by kernel_rfl) (okCs_flat (dC_flat _ _ _)) (okCs_flat (bC_flat _ _))) (by kernel_rfl) ?_
  have c1 := valid20 p (by have := ok.fl; omega) (by have := ok.tl; omega)
  rw [hv] at c1
  have c2 := no60B T D th h k p
  have c3 := idx61B T D th h k p e1 e2 e3 (by have := ok.fl; omega) (by have := ok.tl; omega)
  have d1 : (k.total != p.total) = false := by rw [e4]; simp
  have c4 := put65BB T D th h k p a ha hd hD hT hT2
  have c5 := cont66_all T D (thN th a p.data.size) h k p hT2 hall
  have c6 := del67 T D (thN th a p.data.size) h k p
  have hcb := dC_all hT hall
  have hca := dC_cells D T (thN th a p.data.size)
  refine Wp.seq (Wp.text ?_)
  refine md 3 (.pointer (some ⟨5, 0, none⟩)) (Blk.mk 24 true (gc p)) ?_
  refine md 4 (.pointer (some ⟨6, 0, none⟩)) (Blk.mk 24 true zc) ?_
  refine kp 5 (.bool false) ?_
  refine kp 6 (.int IntKind.i64 0) ?_
  refine WpOps.nil (thenK_at (Wp.seq (Wp.seq (Wp.text ?_))))
  refine kp 10 (.pointer (some ⟨0, 0, none⟩)) ?_
  refine cl 11 60 [Value.pointer (some ⟨0, 0, none⟩)] ?_
  refine WpCall.enterL c2 (by simp only [none_heapOf, heapOf_alloc]; rfl) ?_
  refine kp 12 (.bool false) ?_
  refine kp 13 (gv p) ?_
  refine fr 14 20 [gv p] ?_
  refine WpFun.of (c1) ?_
  refine kp 15 (.bool false) ?_
  refine kp 16 (.bool false) ?_
  refine WpOps.nil (thenK_at (off' (Wp.skip (thenK_at (Wp.seq (Wp.text ?_))))))
  refine kp 18 (.pointer (some ⟨0, 0, none⟩)) ?_
  refine kp 19 (.pointer (some ⟨0, 0, none⟩)) ?_
  refine kp 20 (.pointer (some ⟨0, 2, none⟩)) ?_
  refine kp 21 (.slice (some ⟨1, 0, none⟩) 1 1) ?_
  refine kp 22 (.func (Fn.func 62) #[] #[Value.pointer (some ⟨5, 0, none⟩)]) ?_
  refine cl 23 61 [Value.slice (some ⟨1, 0, none⟩) 1 1, Value.func (Fn.func 62) #[] #[Value.pointer (some ⟨5, 0, none⟩)]] ?_
  refine WpCall.enterL c3 rfl ?_
  refine kp 7 (.int IntKind.i64 0) ?_
  refine WpOps.nil (thenK_at (Wp.seq (Wp.seq (Wp.text ?_))))
  refine kp 24 (.int IntKind.i64 0) ?_
  refine kp 25 (.bool false) ?_
  refine WpOps.nil (thenK_at (off' (Wp.skip (thenK_at (Wp.seq (Wp.text ?_))))))
  refine kp 65 (.pointer (some ⟨0, 0, none⟩)) ?_
  refine kp 66 (.pointer (some ⟨0, 0, none⟩)) ?_
  refine kp 67 (.pointer (some ⟨0, 2, none⟩)) ?_
  refine kp 68 (.slice (some ⟨1, 0, none⟩) 1 1) ?_
  refine kp 69 (.int IntKind.i64 0) ?_
  refine kp 70 (.pointer (some ⟨1, 0, none⟩)) ?_
  refine kp 71 (.pointer (some ⟨2, 0, none⟩)) ?_
  refine kp 8 (.pointer (some ⟨2, 0, none⟩)) ?_
  refine WpOps.nil (thenK_at (Wp.seq (Wp.seq ?_)))
  refine Wp.region (by kernel_rfl) ?_
  refine kp 72 (.pointer (some ⟨2, 0, none⟩)) ?_
  refine kp 73 (.pointer (some ⟨2, 0, none⟩)) ?_
  refine kp 74 (.pointer (some ⟨2, 12, none⟩)) ?_
  refine kp 75 (.pointer (some ⟨2, 17, none⟩)) ?_
  refine kp 76 (.int IntKind.i64 (Gr.total k)) ?_
  refine kp 77 (.pointer (some ⟨5, 5, none⟩)) ?_
  refine kp 78 (.int IntKind.i64 (Gr.total p)) ?_
  refine kp 79 (.bool false) ?_ (hop := fun _ => by_fact d1)
  refine WpOps.nil (thenK_at (off' (Wp.skip (thenK_at (Wp.seq (Wp.text ?_))))))
  refine kp 81 (.pointer (some ⟨2, 0, none⟩)) ?_
  refine kp 82 (gv p) ?_
  refine cl 83 65 [Value.pointer (some ⟨2, 0, none⟩), gv p] ?_
  refine WpCall.enterL c4 rfl ?_
  refine WpOps.nil (thenK_at (Wp.seq (Wp.seq (Wp.text ?_))))
  refine kp 84 (.pointer (some ⟨2, 0, none⟩)) ?_
  refine kp 85 (.pointer (some ⟨2, 0, none⟩)) ?_
  refine kp 86 (.pointer (some ⟨2, 11, none⟩)) ?_
  refine kp 87 (.bool true) ?_
  refine kp 88 (.bool false) ?_
  refine kp 89 (.bool false) ?_
  refine kp 90 (.pointer (some ⟨2, 0, none⟩)) ?_
  refine kp 91 (.pointer (some ⟨2, 0, none⟩)) ?_
  refine kp 92 (.pointer (some ⟨2, 24, none⟩)) ?_
  refine kp 93 (.slice (some ⟨4, 0, none⟩) T T) ?_
  refine cl 94 66 [Value.slice (some ⟨4, 0, none⟩) T T, Value.bool false] ?_
  refine WpCall.enterL c5 rfl ?_
  refine kp 95 (.bool false) ?_
  refine WpOps.nil (thenK_at (off' (Wp.skip (thenK_at (Wp.seq (Wp.text ?_))))))
  refine kp 97 (.pointer (some ⟨0, 0, none⟩)) ?_
  refine kp 98 (.pointer (some ⟨0, 0, none⟩)) ?_
  refine kp 99 (.pointer (some ⟨0, 0, none⟩)) ?_
  refine kp 100 (.pointer (some ⟨0, 2, none⟩)) ?_
  refine kp 101 (.slice (some ⟨1, 0, none⟩) 1 1) ?_
  refine kp 102 (.int IntKind.i64 0) ?_
  refine kp 103 (.int IntKind.i64 0) ?_
  refine kp 104 (.int IntKind.i64 (IntKind.wrap .i64 (0 + 1))) ?_
  refine cl 105 67 [Value.slice (some ⟨1, 0, none⟩) 1 1, Value.int .i64 0, Value.int .i64 (IntKind.wrap .i64 (0 + 1))] ?_
  refine WpCall.enterL c6 rfl ?_
  refine kp 106 (.pointer (some ⟨0, 0, none⟩)) ?_
  refine kp 107 (.pointer (some ⟨0, 2, none⟩)) ?_
  refine ld (.tuple #[]) (0) (Blk.mk 66 true [Value.int .i64 1, Value.int .i64 60, Value.slice (some ⟨1, 0, none⟩) 0 1]) ?_
  refine WpOps.nil (thenK_at (Wp.seq (Wp.text ?_)))
  refine kp 108 (.pointer (some ⟨2, 0, none⟩)) ?_
  refine kp 109 (.pointer (some ⟨2, 0, none⟩)) ?_
  refine kp 110 (.pointer (some ⟨2, 0, none⟩)) ?_
  refine kp 111 (gv h) ?_
  refine md 9 (.pointer (some ⟨7, 0, none⟩)) (Blk.mk 24 true zc) ?_
  refine ld (.tuple #[]) (7) (Blk.mk 24 true (gc h)) ?_
  refine WpOps.nil (thenK_at (Wp.seq (Wp.text ?_)))
  refine kp 112 (.pointer (some ⟨2, 0, none⟩)) ?_
  refine kp 113 (.pointer (some ⟨2, 0, none⟩)) ?_
  refine kp 114 (.pointer (some ⟨2, 23, none⟩)) ?_
  refine kp 115 (.slice (some ⟨3, 0, none⟩) T T) ?_
  refine kp 116 (.string (ByteArray.mk (List.toArray (Array.toList (ByteArray.data D))))) ?_ (hop := fun _ => o_bytes 5 (3) (0) (T) hca hcb)
  refine kp 117 (.pointer (some ⟨7, 10, none⟩)) ?_
  refine ld (.tuple #[]) (7) (Blk.mk 24 true [Value.iface 3 (Value.iface (List.length (Gr.fr h)) (Value.iface (Gr.fx h) (Value.agg (List.toArray (List.map (fun n => Value.int .i64 n) (Gr.fr h)))))), Value.iface 3 (Value.iface (List.length (Gr.to h)) (Value.iface (Gr.tx h) (Value.agg (List.toArray (List.map (fun n => Value.int .i64 n) (Gr.to h)))))), Value.int .i64 (Gr.number h), Value.int .i64 (Gr.life h), Value.int .i64 (Gr.at' h), Value.int .i64 (Gr.total h), Value.int .i64 (Gr.report h), Value.bool (Gr.more h), Value.bool (Gr.may h), Value.bool (Gr.wants h), Value.string (ByteArray.mk (List.toArray (Array.toList (ByteArray.data D))))]) ?_
  refine kp 118 (.pointer (some ⟨7, 7, none⟩)) ?_
  refine ld (.tuple #[]) (7) (Blk.mk 24 true [Value.iface 3 (Value.iface (List.length (Gr.fr h)) (Value.iface (Gr.fx h) (Value.agg (List.toArray (List.map (fun n => Value.int .i64 n) (Gr.fr h)))))), Value.iface 3 (Value.iface (List.length (Gr.to h)) (Value.iface (Gr.tx h) (Value.agg (List.toArray (List.map (fun n => Value.int .i64 n) (Gr.to h)))))), Value.int .i64 (Gr.number h), Value.int .i64 (Gr.life h), Value.int .i64 (Gr.at' h), Value.int .i64 (Gr.total h), Value.int .i64 (Gr.report h), Value.bool false, Value.bool (Gr.may h), Value.bool (Gr.wants h), Value.string (ByteArray.mk (List.toArray (Array.toList (ByteArray.data D))))]) ?_
  refine WpOps.nil (thenK_at (Wp.seq (Wp.text ?_)))
  refine kp 119 (.agg #[Value.iface 3 (Value.iface (List.length (Gr.fr h)) (Value.iface (Gr.fx h) (Value.agg (List.toArray (List.map (fun n => Value.int .i64 n) (Gr.fr h)))))), Value.iface 3 (Value.iface (List.length (Gr.to h)) (Value.iface (Gr.tx h) (Value.agg (List.toArray (List.map (fun n => Value.int .i64 n) (Gr.to h)))))), Value.int .i64 (Gr.number h), Value.int .i64 (Gr.life h), Value.int .i64 (Gr.at' h), Value.int .i64 (Gr.total h), Value.int .i64 (Gr.report h), Value.bool false, Value.bool (Gr.may h), Value.bool (Gr.wants h), Value.string (ByteArray.mk (List.toArray (Array.toList (ByteArray.data D))))]) ?_
  refine ld (.tuple #[]) (6) (Blk.mk 24 true [Value.iface 3 (Value.iface (List.length (Gr.fr h)) (Value.iface (Gr.fx h) (Value.agg (List.toArray (List.map (fun n => Value.int .i64 n) (Gr.fr h)))))), Value.iface 3 (Value.iface (List.length (Gr.to h)) (Value.iface (Gr.tx h) (Value.agg (List.toArray (List.map (fun n => Value.int .i64 n) (Gr.to h)))))), Value.int .i64 (Gr.number h), Value.int .i64 (Gr.life h), Value.int .i64 (Gr.at' h), Value.int .i64 (Gr.total h), Value.int .i64 (Gr.report h), Value.bool false, Value.bool (Gr.may h), Value.bool (Gr.wants h), Value.string (ByteArray.mk (List.toArray (Array.toList (ByteArray.data D))))]) ?_
  refine kp 5 (.bool true) ?_
  refine kp 6 (.int IntKind.i64 0) ?_
  refine WpOps.nil (thenK_at (Wp.ret ?_))
  refine endK_retn [Value.agg #[Value.iface 3 (Value.iface (List.length (Gr.fr h)) (Value.iface (Gr.fx h) (Value.agg (List.toArray (List.map (fun n => Value.int IntKind.i64 n) (Gr.fr h)))))), Value.iface 3 (Value.iface (List.length (Gr.to h)) (Value.iface (Gr.tx h) (Value.agg (List.toArray (List.map (fun n => Value.int IntKind.i64 n) (Gr.to h)))))), Value.int IntKind.i64 (Gr.number h), Value.int IntKind.i64 (Gr.life h), Value.int IntKind.i64 (Gr.at' h), Value.int IntKind.i64 (Gr.total h), Value.int IntKind.i64 (Gr.report h), Value.bool false, Value.bool (Gr.may h), Value.bool (Gr.wants h), Value.string (ByteArray.mk (List.toArray (Array.toList (ByteArray.data D))))], Value.bool true, Value.int IntKind.i64 0] (Value.tuple #[Value.agg #[Value.iface 3 (Value.iface (List.length (Gr.fr h)) (Value.iface (Gr.fx h) (Value.agg (List.toArray (List.map (fun n => Value.int IntKind.i64 n) (Gr.fr h)))))), Value.iface 3 (Value.iface (List.length (Gr.to h)) (Value.iface (Gr.tx h) (Value.agg (List.toArray (List.map (fun n => Value.int IntKind.i64 n) (Gr.to h)))))), Value.int IntKind.i64 (Gr.number h), Value.int IntKind.i64 (Gr.life h), Value.int IntKind.i64 (Gr.at' h), Value.int IntKind.i64 (Gr.total h), Value.int IntKind.i64 (Gr.report h), Value.bool false, Value.bool (Gr.may h), Value.bool (Gr.wants h), Value.string (ByteArray.mk (List.toArray (Array.toList (ByteArray.data D))))], Value.bool true, Value.int IntKind.i64 0]) (by kernel_rfl) (by kernel_rfl) ?_
  exact lentSame [⟨66, true, [.int .i64 1, .int .i64 60, .slice (some ⟨1, 0, none⟩) 0 1]⟩, ⟨119, true, [.pointer none]⟩, ⟨122, true, (wB T h k)⟩, ⟨5, true, dC D T (thN th a p.data.size)⟩, ⟨4, true, bC T (thN th a p.data.size)⟩] (pre5 ⟨by kernel_rfl, by kernel_rfl⟩ ⟨by kernel_rfl, by kernel_rfl⟩ ⟨by kernel_rfl, by kernel_rfl⟩ ⟨by kernel_rfl, okCs_flat (dC_flat _ _ _)⟩ ⟨by kernel_rfl, okCs_flat (bC_flat _ _)⟩) (.tuple _ _ (by kernel_rfl) rfl (.cons (.un rfl rfl) (.cons (.un rfl rfl) (.cons (.un rfl rfl) .nil))))
end Go.Proofs.Ytpkkcpglbjbgfaa.D
