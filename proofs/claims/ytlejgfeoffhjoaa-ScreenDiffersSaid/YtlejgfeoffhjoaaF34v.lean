/- ref.apply, ref.Apply; slices.Repeat. -/
import Derived.Test.YtlejgfeoffhjoaaFwLem
import Derived.Test.YtlejgfeoffhjoaaF34u
namespace Go.Proofs.Ytlejgfeoffhjoaa.D
open Go.Fw Go.RowKit

theorem rapply42 (x y : Nat) (r m : List ByteArray) (i j op row col n : Int) (t : ByteArray) (hg : Good r m i j) (hf : Fits r.length (rowAt r 0).size op row col n t) : Fun E 42 [dv x y r m i j, uv op row col n t] (apV r m i j op row col n t) := by
  obtain ⟨e1, e2⟩ := good_mk hg
  obtain ⟨⟨g1, g2, g3, g4, g5⟩, _⟩ := hg
  unfold apV apD
  obtain ⟨R, hR⟩ : ∃ R, R = r.length := ⟨_, rfl⟩
  obtain ⟨C, hC⟩ : ∃ C, C = (rowAt r 0).size := ⟨_, rfl⟩
  rw [← hR, ← hC] at e1 e2 hf ⊢
  rw [← hR] at g1 g4
  rw [← hC] at g3 g5
  generalize cellF r = f at e1 ⊢
  generalize cellF m = g at e2 ⊢
  rw [e1, e2]
  obtain ⟨a, rfl⟩ : ∃ a : Nat, i = a := ⟨i.toNat, by omega⟩
  obtain ⟨b, rfl⟩ : ∃ b : Nat, j = b := ⟨j.toNat, by omega⟩
  simp only [Int.toNat_natCast]
  unfold apF
  unfold Fits at hf
  by_cases h0 : op = 0
  · subst h0
    rw [if_pos rfl]
    obtain ⟨p, rfl⟩ : ∃ p : Nat, row = p := ⟨row.toNat, by omega⟩
    obtain ⟨q, rfl⟩ : ∃ q : Nat, col = q := ⟨col.toNat, by omega⟩
    exact rapply0 x y R C f g a b p q n t (by omega) (by omega)
  rw [if_neg h0]
  by_cases h1 : op = 1
  · subst h1
    rw [if_pos rfl]
    obtain ⟨k, rfl⟩ : ∃ k : Nat, n = k := ⟨n.toNat, by omega⟩
    exact rapply1 x y R C f g a b k row col t (by omega) (by omega) (by omega) (by omega) (by omega) (by omega)
  rw [if_neg h1]
  by_cases h2 : op = 2
  · subst h2
    rw [if_pos rfl]
    exact rapply2 x y R C f g a b row col n t (by omega) (by omega) (by omega) (by omega)
  rw [if_neg h2]
  by_cases h3 : op = 3
  · subst h3
    rw [if_pos rfl]
    exact rapply3 x y R C f g a b row col n t (by omega) (by omega) (by omega)
  rw [if_neg h3]
  by_cases h5 : op = 5
  · subst h5
    rw [if_pos rfl]
    exact rapply5 x y R C f g a b row col n t (by omega) (by omega) (by omega)
  rw [if_neg h5]
  by_cases h6 : op = 6
  · subst h6
    rw [if_pos rfl]
    obtain ⟨p, rfl⟩ : ∃ p : Nat, row = p := ⟨row.toNat, by omega⟩
    obtain ⟨q, rfl⟩ : ∃ q : Nat, col = q := ⟨col.toNat, by omega⟩
    obtain ⟨k, rfl⟩ : ∃ k : Nat, n = k := ⟨n.toNat, by omega⟩
    exact rapply6 x y R C f g a b p q k t (by omega) (by omega) (by omega) (by omega) (by omega) (by omega) (by omega)
  rw [if_neg h6]
  have h4 : op = 4 := by omega
  subst h4
  exact rapply4 x y R C f g a b row col n t (by omega) (by omega)
theorem f10 : E.funcs 10 = some Try.f10 := by kernel_rfl
theorem Apply10 (x y : Nat) (r m : List ByteArray) (i j op row col n : Int) (t : ByteArray) (hr : ∀ k, (rowAt r k).size ≤ 140737488351232) (ht : t.size ≤ 140737488351232) :
    Fun E 10 [dv x y r m i j, uv op row col n t] (ApV r m i j op row col n t) := by
  refine Fun.ofN f10 rfl (of_decide_eq_true (by kernel_rfl)) (by unfold ApV; split <;> rfl) ?_
  have c1 := valid16 x y r m i j hr
  unfold dv strs at c1 ⊢
  unfold uv
  by_cases h1 : Good r m i j
  · rw [decide_eq_true h1] at c1
    have c2 := fits41 x y r m i j op row col n t ht h1.1.1.1
    unfold dv uv strs at c2
    by_cases h2 : Fits r.length (rowAt r 0).size op row col n t
    · rw [decide_eq_true h2] at c2
      have c3 := rapply42 x y r m i j op row col n t h1 h2
      have e : ApV r m i j op row col n t = _ := if_pos ⟨h1, h2⟩
      rw [e]
      unfold apV dv uv strs at c3
      unfold apV dv strs
      refine Wp.seq (Wp.text ?_)
      refine md 2 (.pointer (some ⟨0, 0, none⟩)) (Blk.mk 30 true [Value.iface 9 (Value.iface (List.length r) (Value.iface x (Value.agg (List.toArray (List.map Value.string r))))), Value.iface 9 (Value.iface (List.length m) (Value.iface y (Value.agg (List.toArray (List.map Value.string m))))), Value.int .i64 i, Value.int .i64 j]) ?_
      refine md 3 (.pointer (some ⟨1, 0, none⟩)) (Blk.mk 34 true [Value.int .i64 op, Value.int .i64 row, Value.int .i64 col, Value.int .i64 n, Value.string t]) ?_
      refine md 4 (.pointer (some ⟨2, 0, none⟩)) (Blk.mk 30 true [Value.slice none 0 0, Value.slice none 0 0, Value.int .i64 0, Value.int .i64 0]) ?_
      refine kp 5 (.int IntKind.i64 0) ?_
      refine WpOps.nil (thenK_at (Wp.seq (Wp.seq (Wp.text ?_))))
      refine kp 6 (.agg #[Value.iface 9 (Value.iface (List.length r) (Value.iface x (Value.agg (List.toArray (List.map Value.string r))))), Value.iface 9 (Value.iface (List.length m) (Value.iface y (Value.agg (List.toArray (List.map Value.string m))))), Value.int .i64 i, Value.int .i64 j]) ?_
      refine fr 7 16 [Value.agg #[Value.iface 9 (Value.iface (List.length r) (Value.iface x (Value.agg (List.toArray (List.map Value.string r))))), Value.iface 9 (Value.iface (List.length m) (Value.iface y (Value.agg (List.toArray (List.map Value.string m))))), Value.int .i64 i, Value.int .i64 j]] ?_
      refine WpFun.of (c1) ?_
      refine kp 8 (.bool false) ?_
      refine kp 9 (.bool false) ?_
      refine kp 10 (.agg #[Value.iface 9 (Value.iface (List.length r) (Value.iface x (Value.agg (List.toArray (List.map Value.string r))))), Value.iface 9 (Value.iface (List.length m) (Value.iface y (Value.agg (List.toArray (List.map Value.string m))))), Value.int .i64 i, Value.int .i64 j]) ?_
      refine kp 11 (.agg #[Value.int .i64 op, Value.int .i64 row, Value.int .i64 col, Value.int .i64 n, Value.string t]) ?_
      refine fr 12 41 [Value.agg #[Value.iface 9 (Value.iface (List.length r) (Value.iface x (Value.agg (List.toArray (List.map Value.string r))))), Value.iface 9 (Value.iface (List.length m) (Value.iface y (Value.agg (List.toArray (List.map Value.string m))))), Value.int .i64 i, Value.int .i64 j], Value.agg #[Value.int .i64 op, Value.int .i64 row, Value.int .i64 col, Value.int .i64 n, Value.string t]] ?_
      refine WpFun.of (c2) ?_
      refine kp 13 (.bool false) ?_
      refine kp 14 (.bool false) ?_
      refine WpOps.nil (thenK_at (off' (Wp.skip (thenK_at (Wp.seq (Wp.text ?_))))))
      refine kp 16 (.agg #[Value.iface 9 (Value.iface (List.length r) (Value.iface x (Value.agg (List.toArray (List.map Value.string r))))), Value.iface 9 (Value.iface (List.length m) (Value.iface y (Value.agg (List.toArray (List.map Value.string m))))), Value.int .i64 i, Value.int .i64 j]) ?_
      refine kp 17 (.agg #[Value.int .i64 op, Value.int .i64 row, Value.int .i64 col, Value.int .i64 n, Value.string t]) ?_
      refine fr 18 42 [Value.agg #[Value.iface 9 (Value.iface (List.length r) (Value.iface x (Value.agg (List.toArray (List.map Value.string r))))), Value.iface 9 (Value.iface (List.length m) (Value.iface y (Value.agg (List.toArray (List.map Value.string m))))), Value.int .i64 i, Value.int .i64 j], Value.agg #[Value.int .i64 op, Value.int .i64 row, Value.int .i64 col, Value.int .i64 n, Value.string t]] ?_
      refine WpFun.of (c3) ?_
      refine ld (.tuple #[]) (2) (Blk.mk 30 true [Value.iface 9 (Value.iface (List.length (mkR (List.length r) (ByteArray.size (rowAt r 0)) (Ap.f (apD r m i j op row col n t)))) (Value.iface 0 (Value.agg (List.toArray (List.map Value.string (mkR (List.length r) (ByteArray.size (rowAt r 0)) (Ap.f (apD r m i j op row col n t)))))))), Value.iface 9 (Value.iface (List.length (mkR (List.length r) (ByteArray.size (rowAt r 0)) (Ap.g (apD r m i j op row col n t)))) (Value.iface 0 (Value.agg (List.toArray (List.map Value.string (mkR (List.length r) (ByteArray.size (rowAt r 0)) (Ap.g (apD r m i j op row col n t)))))))), Value.int .i64 (↑(Ap.i (apD r m i j op row col n t)) : Int), Value.int .i64 (↑(Ap.j (apD r m i j op row col n t)) : Int)]) ?_
      refine kp 5 (.int IntKind.i64 0) ?_
      refine WpOps.nil (thenK_at (Wp.ret ?_))
      refine endK_retn [Value.agg #[Value.iface 9 (Value.iface (List.length (mkR (List.length r) (ByteArray.size (rowAt r 0)) (Ap.f (apD r m i j op row col n t)))) (Value.iface 0 (Value.agg (List.toArray (List.map Value.string (mkR (List.length r) (ByteArray.size (rowAt r 0)) (Ap.f (apD r m i j op row col n t)))))))), Value.iface 9 (Value.iface (List.length (mkR (List.length r) (ByteArray.size (rowAt r 0)) (Ap.g (apD r m i j op row col n t)))) (Value.iface 0 (Value.agg (List.toArray (List.map Value.string (mkR (List.length r) (ByteArray.size (rowAt r 0)) (Ap.g (apD r m i j op row col n t)))))))), Value.int IntKind.i64 (↑(Ap.i (apD r m i j op row col n t)) : Int), Value.int IntKind.i64 (↑(Ap.j (apD r m i j op row col n t)) : Int)], Value.int IntKind.i64 0] (Value.tuple #[Value.agg #[Value.iface 9 (Value.iface (List.length (mkR (List.length r) (ByteArray.size (rowAt r 0)) (Ap.f (apD r m i j op row col n t)))) (Value.iface 0 (Value.agg (List.toArray (List.map Value.string (mkR (List.length r) (ByteArray.size (rowAt r 0)) (Ap.f (apD r m i j op row col n t)))))))), Value.iface 9 (Value.iface (List.length (mkR (List.length r) (ByteArray.size (rowAt r 0)) (Ap.g (apD r m i j op row col n t)))) (Value.iface 0 (Value.agg (List.toArray (List.map Value.string (mkR (List.length r) (ByteArray.size (rowAt r 0)) (Ap.g (apD r m i j op row col n t)))))))), Value.int IntKind.i64 (↑(Ap.i (apD r m i j op row col n t)) : Int), Value.int IntKind.i64 (↑(Ap.j (apD r m i j op row col n t)) : Int)], Value.int IntKind.i64 0]) (by kernel_rfl) (by kernel_rfl) ?_
      exact ⟨.tuple #[apV r m i j op row col n t, .int .i64 0], by kernel_rfl, .w (.c (.inl rfl))⟩
    · rw [decide_eq_false h2] at c2
      have e : ApV r m i j op row col n t = _ := if_neg fun h => h2 h.2
      rw [e]
      refine Wp.seq (Wp.text ?_)
      refine md 2 (.pointer (some ⟨0, 0, none⟩)) (Blk.mk 30 true [Value.iface 9 (Value.iface (List.length r) (Value.iface x (Value.agg (List.toArray (List.map Value.string r))))), Value.iface 9 (Value.iface (List.length m) (Value.iface y (Value.agg (List.toArray (List.map Value.string m))))), Value.int .i64 i, Value.int .i64 j]) ?_
      refine md 3 (.pointer (some ⟨1, 0, none⟩)) (Blk.mk 34 true [Value.int .i64 op, Value.int .i64 row, Value.int .i64 col, Value.int .i64 n, Value.string t]) ?_
      refine md 4 (.pointer (some ⟨2, 0, none⟩)) (Blk.mk 30 true [Value.slice none 0 0, Value.slice none 0 0, Value.int .i64 0, Value.int .i64 0]) ?_
      refine kp 5 (.int IntKind.i64 0) ?_
      refine WpOps.nil (thenK_at (Wp.seq (Wp.seq (Wp.text ?_))))
      refine kp 6 (.agg #[Value.iface 9 (Value.iface (List.length r) (Value.iface x (Value.agg (List.toArray (List.map Value.string r))))), Value.iface 9 (Value.iface (List.length m) (Value.iface y (Value.agg (List.toArray (List.map Value.string m))))), Value.int .i64 i, Value.int .i64 j]) ?_
      refine fr 7 16 [Value.agg #[Value.iface 9 (Value.iface (List.length r) (Value.iface x (Value.agg (List.toArray (List.map Value.string r))))), Value.iface 9 (Value.iface (List.length m) (Value.iface y (Value.agg (List.toArray (List.map Value.string m))))), Value.int .i64 i, Value.int .i64 j]] ?_
      refine WpFun.of (c1) ?_
      refine kp 8 (.bool false) ?_
      refine kp 9 (.bool false) ?_
      refine kp 10 (.agg #[Value.iface 9 (Value.iface (List.length r) (Value.iface x (Value.agg (List.toArray (List.map Value.string r))))), Value.iface 9 (Value.iface (List.length m) (Value.iface y (Value.agg (List.toArray (List.map Value.string m))))), Value.int .i64 i, Value.int .i64 j]) ?_
      refine kp 11 (.agg #[Value.int .i64 op, Value.int .i64 row, Value.int .i64 col, Value.int .i64 n, Value.string t]) ?_
      refine fr 12 41 [Value.agg #[Value.iface 9 (Value.iface (List.length r) (Value.iface x (Value.agg (List.toArray (List.map Value.string r))))), Value.iface 9 (Value.iface (List.length m) (Value.iface y (Value.agg (List.toArray (List.map Value.string m))))), Value.int .i64 i, Value.int .i64 j], Value.agg #[Value.int .i64 op, Value.int .i64 row, Value.int .i64 col, Value.int .i64 n, Value.string t]] ?_
      refine WpFun.of (c2) ?_
      refine kp 13 (.bool true) ?_
      refine kp 14 (.bool true) ?_
      refine WpOps.nil (thenK_at (on' (Wp.seq (Wp.text ?_))))
      refine kp 15 (.agg #[Value.slice none 0 0, Value.slice none 0 0, Value.int .i64 0, Value.int .i64 0]) ?_
      refine ld (.tuple #[]) (2) (Blk.mk 30 true [Value.slice none 0 0, Value.slice none 0 0, Value.int .i64 0, Value.int .i64 0]) ?_
      refine kp 5 (.int IntKind.i64 1) ?_
      refine WpOps.nil (thenK_at (Wp.ret (thenK_ret ?_)))
      refine endK_retn [Value.agg #[Value.slice none 0 0, Value.slice none 0 0, Value.int IntKind.i64 0, Value.int IntKind.i64 0], Value.int IntKind.i64 1] (Value.tuple #[Value.agg #[Value.slice none 0 0, Value.slice none 0 0, Value.int IntKind.i64 0, Value.int IntKind.i64 0], Value.int IntKind.i64 1]) (by kernel_rfl) (by kernel_rfl) ?_
      obtain ⟨ti, ht⟩ := types9
      exact ⟨zero_disp, by kernel_rfl, zero_nil ht⟩
  · rw [decide_eq_false h1] at c1
    have e : ApV r m i j op row col n t = _ := if_neg fun h => h1 h.1
    rw [e]
    refine Wp.seq (Wp.text ?_)
    refine md 2 (.pointer (some ⟨0, 0, none⟩)) (Blk.mk 30 true [Value.iface 9 (Value.iface (List.length r) (Value.iface x (Value.agg (List.toArray (List.map Value.string r))))), Value.iface 9 (Value.iface (List.length m) (Value.iface y (Value.agg (List.toArray (List.map Value.string m))))), Value.int .i64 i, Value.int .i64 j]) ?_
    refine md 3 (.pointer (some ⟨1, 0, none⟩)) (Blk.mk 34 true [Value.int .i64 op, Value.int .i64 row, Value.int .i64 col, Value.int .i64 n, Value.string t]) ?_
    refine md 4 (.pointer (some ⟨2, 0, none⟩)) (Blk.mk 30 true [Value.slice none 0 0, Value.slice none 0 0, Value.int .i64 0, Value.int .i64 0]) ?_
    refine kp 5 (.int IntKind.i64 0) ?_
    refine WpOps.nil (thenK_at (Wp.seq (Wp.seq (Wp.text ?_))))
    refine kp 6 (.agg #[Value.iface 9 (Value.iface (List.length r) (Value.iface x (Value.agg (List.toArray (List.map Value.string r))))), Value.iface 9 (Value.iface (List.length m) (Value.iface y (Value.agg (List.toArray (List.map Value.string m))))), Value.int .i64 i, Value.int .i64 j]) ?_
    refine fr 7 16 [Value.agg #[Value.iface 9 (Value.iface (List.length r) (Value.iface x (Value.agg (List.toArray (List.map Value.string r))))), Value.iface 9 (Value.iface (List.length m) (Value.iface y (Value.agg (List.toArray (List.map Value.string m))))), Value.int .i64 i, Value.int .i64 j]] ?_
    refine WpFun.of (c1) ?_
    refine kp 8 (.bool true) ?_
    refine kp 9 (.bool true) ?_
    refine um 10 ?_
    refine um 11 ?_
    refine um 12 ?_
    refine um 13 ?_
    refine kp 14 (.bool true) ?_
    refine WpOps.nil (thenK_at (on' (Wp.seq (Wp.text ?_))))
    refine kp 15 (.agg #[Value.slice none 0 0, Value.slice none 0 0, Value.int .i64 0, Value.int .i64 0]) ?_
    refine ld (.tuple #[]) (2) (Blk.mk 30 true [Value.slice none 0 0, Value.slice none 0 0, Value.int .i64 0, Value.int .i64 0]) ?_
    refine kp 5 (.int IntKind.i64 1) ?_
    refine WpOps.nil (thenK_at (Wp.ret (thenK_ret ?_)))
    refine endK_retn [Value.agg #[Value.slice none 0 0, Value.slice none 0 0, Value.int IntKind.i64 0, Value.int IntKind.i64 0], Value.int IntKind.i64 1] (Value.tuple #[Value.agg #[Value.slice none 0 0, Value.slice none 0 0, Value.int IntKind.i64 0, Value.int IntKind.i64 0], Value.int IntKind.i64 1]) (by kernel_rfl) (by kernel_rfl) ?_
    obtain ⟨ti, ht⟩ := types9
    exact ⟨zero_disp, by kernel_rfl, zero_nil ht⟩
end Go.Proofs.Ytlejgfeoffhjoaa.D
