/- Displays: apply, one kind of update after the other. -/
import Derived.Test.YtlejgfeoffhjoaaFwLem
import Derived.Test.YtlejgfeoffhjoaaF34d
namespace Go.Proofs.Ytlejgfeoffhjoaa.D
open Go.Fw Go.RowKit

theorem clone64s (x : Nat) (l : List ByteArray) (hx : x ≠ 2) (h0 : 1 ≤ l.length) (hl : l.length ≤ 40) : Lent E 64 [strs x l] [] (.slice (some ⟨0, 0, none⟩) l.length l.length) [sB l] := by
  refine Lent.of f64 rfl (of_decide_eq_true (by kernel_rfl)) rfl rfl (Nat.zero_le _) rfl (by
    rw [List.all_cons, List.all_nil, Bool.and_true]
    exact flat_ok (strs_flat _)) rfl ?_
  have hc : (x == 2) = false := by simpa using hx
  have h1 : ¬ (0 + l.length ≤ 0) := by omega
  have h2 : 1 ≤ 16 ∧ (0 + l.length) * 16 ≤ 140737488355328 ∧ 1 = 1 ∧ 0 + l.length ≤ 9223372036854775807 := by omega
  unfold strs
  refine Wp.seq (Wp.text ?_)
  refine kp 2 (.slice none 0 0) ?_
  refine WpOps.nil (thenK_at (Wp.seq (Wp.seq (Wp.text ?_))))
  refine kp 3 (.iface 9 (Value.iface (List.length l) (Value.iface x (Value.agg (List.toArray (List.map Value.string l)))))) ?_
  refine kp 4 (.bool false) ?_ (hop := fun _ => by_fact hc)
  refine WpOps.nil (thenK_at (off' (Wp.skip (thenK_at (Wp.seq (Wp.text ?_))))))
  refine md 5 (.slice (some ⟨0, 0, none⟩) 0 0) (Blk.mk 9 true []) ?_
  refine kp 6 (.iface 9 (Value.iface (List.length l) (Value.iface x (Value.agg (List.toArray (List.map Value.string l)))))) ?_
  refine ra 7 (.slice (some ⟨1, 0, none⟩) (0 + List.length l) (0 + List.length l)) (0) (Blk.mk 9 true ([] ++ Array.toList (List.toArray (List.map Value.string l)))) ?_ (hop := fun _ => o_append (e := 9) 0 (0) (0) _ (0) h1 h2)
  refine kp 2 (.slice (some ⟨1, 0, none⟩) (0 + List.length l) (0 + List.length l)) ?_
  refine WpOps.nil (thenK_at (Wp.ret ?_))
  refine endK_retn [Value.slice (some (Addr.mk 1 0 none)) (0 + List.length l) (0 + List.length l)] (Value.slice (some (Addr.mk 1 0 none)) (0 + List.length l) (0 + List.length l)) (by kernel_rfl) (by kernel_rfl) ?_
  exact ⟨[1], by decide, by kernel_rfl, ⟨⟨_, by kernel_rfl, told_eq rfl (strs_flat _)⟩, trivial⟩, .w (.un (by rw [Nat.zero_add]; rfl) rfl)⟩
theorem clone64m (x R C : Nat) (f : Nat → Nat → UInt8) (hx : x ≠ 2) (h0 : 1 ≤ R) (hl : R ≤ 40) : Lent E 64 [strs x (mkR R C f)] [] (.slice (some ⟨0, 0, none⟩) R R) [sB (mkR R C f)] := by
  have h := clone64s x (mkR R C f) hx (by rw [mkR_len]; exact h0) (by rw [mkR_len]; exact hl)
  rwa [mkR_len] at h
theorem strs_len (l : List ByteArray) : (l.map Value.string).length = l.length := List.length_map _
theorem ice_strs {hp : Heap} {b n c : Nat} (l : List ByteArray) (hn : n = l.length) (hb : hp.get b = some (sB l)) : iceC E hp 4 (.slice (some ⟨b, 0, none⟩) n c) = some (strs 0 l) := by
  subst hn
  exact iceC_row 3 (by kernel_rfl) hb (by show l.length * 1 = (l.map Value.string).length; rw [strs_len]; omega) (strs_flat l)
theorem ice_dv {hp : Heap} {b1 b2 n1 n2 c1 c2 : Nat} (r m : List ByteArray) (i j : Int) (hn : n1 = r.length) (hm : n2 = m.length) (h1 : hp.get b1 = some (sB r)) (h2 : hp.get b2 = some (sB m)) :
    iceV E hp (.agg #[.slice (some ⟨b1, 0, none⟩) n1 c1, .slice (some ⟨b2, 0, none⟩) n2 c2, .int .i64 i, .int .i64 j]) = some (dv 0 0 r m i j) := by
  show (mapO (iceC E hp 4) [_, _, _, _]).map _ = _
  simp only [mapO, ice_strs r hn h1, ice_strs m hm h2]
  rfl
theorem dv_ice (x y : Nat) (r m : List ByteArray) (i j : Int) : iceV E Heap.none (dv x y r m i j) = some (dv x y r m i j) := rfl
/-- What apply works on. -/
def aBs (R C : Nat) (f g : Nat → Nat → UInt8) (i j : Int) (op row col n : Int) (t : ByteArray) : List Blk :=
  [dB R R i j, sB (mkR R C f), sB (mkR R C g), ⟨26, true, [.int .i64 op, .int .i64 row, .int .i64 col, .int .i64 n, .string t]⟩, ⟨24, true, [.slice none 0 0, .slice none 0 0, .int .i64 0, .int .i64 0]⟩]
set_option maxHeartbeats 4000000 in
/-- No change but a mark: nothing. -/
theorem apply4 (x y R C : Nat) (f g : Nat → Nat → UInt8) (i j row col n : Int) (t : ByteArray) (hx : x ≠ 2) (hy : y ≠ 2) (h0 : 1 ≤ R) (hR : R ≤ 40) : Fun E 40 [dv x y (mkR R C f) (mkR R C g) i j, uv 4 row col n t] (dv 0 0 (mkR R C f) (mkR R C g) i j) := by
  refine Fun.of f40 rfl (of_decide_eq_true (by kernel_rfl)) (dv_ice _ _ _ _ _ _) ?_
  have c1 := clone64m x R C f hx h0 hR
  have c2 := clone64m y R C g hy h0 hR
  have l1 : 0 ≤ (0 : Int) ∧ (0 : Int) < (mkR R C f).length := by rw [mkR_len]; omega
  have v1 := strs_0 (mkR R C f) (by rw [mkR_len]; omega)
  have fl1 := strs_flat (mkR R C f)
  have fl2 := strs_flat (mkR R C g)
  unfold dv uv strs
  unfold strs sB at c1 c2
  refine Wp.seq (Wp.text ?_)
  refine md 2 (.pointer (some ⟨0, 0, none⟩)) (Blk.mk 24 true [strs x (mkR R C f), strs y (mkR R C g), Value.int .i64 i, Value.int .i64 j]) ?_
  refine md 3 (.pointer (some ⟨1, 0, none⟩)) (Blk.mk 26 true [Value.int .i64 4, Value.int .i64 row, Value.int .i64 col, Value.int .i64 n, Value.string t]) ?_
  refine md 4 (.pointer (some ⟨2, 0, none⟩)) (Blk.mk 24 true [Value.slice none 0 0, Value.slice none 0 0, Value.int .i64 0, Value.int .i64 0]) ?_
  refine WpOps.nil (thenK_at (Wp.seq ?_))
  refine Wp.region (by kernel_rfl) ?_
  refine kp 11 (.pointer (some ⟨0, 0, none⟩)) ?_
  refine kp 12 (.iface 9 (Value.iface (List.length (mkR R C f)) (Value.iface x (Value.agg (List.toArray (List.map Value.string (mkR R C f))))))) ?_
  refine kp 13 (.int IntKind.i64 (↑(List.length (mkR R C f)) : Int)) ?_
  refine kp 14 (.pointer (some ⟨0, 0, none⟩)) ?_
  refine kp 15 (.iface 9 (Value.iface (List.length (mkR R C f)) (Value.iface x (Value.agg (List.toArray (List.map Value.string (mkR R C f))))))) ?_
  refine kp 16 (.iface 9 (Value.iface 0 (Value.agg (List.toArray (List.map Value.string (mkR R C f)))))) ?_ (hop := fun _ => o_indexI (e := 9) (size := 1) (a := 0) l1)
  refine kp 17 (.string (rowAt (mkR R C f) 0)) ?_ (hop := fun _ => o_loadI1 (0) v1)
  refine kp 18 (.int IntKind.i64 (↑(ByteArray.size (rowAt (mkR R C f) 0)) : Int)) ?_
  refine kp 5 (.int IntKind.i64 (↑(List.length (mkR R C f)) : Int)) ?_
  refine kp 6 (.int IntKind.i64 (↑(ByteArray.size (rowAt (mkR R C f) 0)) : Int)) ?_
  refine WpOps.nil (thenK_at (Wp.seq ?_))
  refine Wp.region (by kernel_rfl) ?_
  refine kp 19 (.pointer (some ⟨0, 0, none⟩)) ?_
  refine kp 20 (.iface 9 (Value.iface (List.length (mkR R C f)) (Value.iface x (Value.agg (List.toArray (List.map Value.string (mkR R C f))))))) ?_
  refine clr 21 64 [strs x (mkR R C f)] ?_
  refine WpCall.lent [] (c1) (by decide) trivial (by kernel_rfl) (Value.slice (some (Addr.mk (List.getD [3] 0 0) 0 none)) R R) ([Blk.mk 9 true (List.map Value.string (mkR R C f))]) (.cons (unB_flat (by assumption)) .nil) (by kernel_rfl) (Heap.alloc (Heap.ro (Heap.alloc (Heap.alloc (Heap.alloc Heap.none (Blk.mk 24 true [strs x (mkR R C f), strs y (mkR R C g), Value.int IntKind.i64 i, Value.int IntKind.i64 j])) (Blk.mk 26 true [Value.int IntKind.i64 4, Value.int IntKind.i64 row, Value.int IntKind.i64 col, Value.int IntKind.i64 n, Value.string t])) (Blk.mk 24 true [Value.slice none 0 0, Value.slice none 0 0, Value.int IntKind.i64 0, Value.int IntKind.i64 0]))) (Blk.mk 9 true (List.map Value.string (mkR R C f)))) (by kernel_rfl) ?_
  refine kp 22 (.pointer (some ⟨0, 1, none⟩)) ?_
  refine kp 23 (.iface 9 (Value.iface (List.length (mkR R C g)) (Value.iface y (Value.agg (List.toArray (List.map Value.string (mkR R C g))))))) ?_
  refine cl 24 64 [strs y (mkR R C g)] ?_
  refine WpCall.lent [] (c2) (by decide) trivial (by kernel_rfl) (Value.slice (some (Addr.mk (List.getD [4] 0 0) 0 none)) R R) ([Blk.mk 9 true (List.map Value.string (mkR R C g))]) (.cons (unB_flat (by assumption)) .nil) (by kernel_rfl) (Heap.alloc (Heap.merge (Heap.alloc (Heap.alloc (Heap.alloc Heap.none (Blk.mk 24 true [strs x (mkR R C f), strs y (mkR R C g), Value.int IntKind.i64 i, Value.int IntKind.i64 j])) (Blk.mk 26 true [Value.int IntKind.i64 4, Value.int IntKind.i64 row, Value.int IntKind.i64 col, Value.int IntKind.i64 n, Value.string t])) (Blk.mk 24 true [Value.slice none 0 0, Value.slice none 0 0, Value.int IntKind.i64 0, Value.int IntKind.i64 0])) (Heap.alloc (Heap.ro (Heap.alloc (Heap.alloc (Heap.alloc Heap.none (Blk.mk 24 true [strs x (mkR R C f), strs y (mkR R C g), Value.int IntKind.i64 i, Value.int IntKind.i64 j])) (Blk.mk 26 true [Value.int IntKind.i64 4, Value.int IntKind.i64 row, Value.int IntKind.i64 col, Value.int IntKind.i64 n, Value.string t])) (Blk.mk 24 true [Value.slice none 0 0, Value.slice none 0 0, Value.int IntKind.i64 0, Value.int IntKind.i64 0]))) (Blk.mk 9 true (List.map Value.string (mkR R C f))))) (Blk.mk 9 true (List.map Value.string (mkR R C g)))) (by kernel_rfl) ?_
  refine kp 25 (.pointer (some ⟨0, 0, none⟩)) ?_
  refine ld (.tuple #[]) (0) (Blk.mk 24 true [Value.slice (some (Addr.mk (List.getD [3] 0 0) 0 none)) R R, strs y (mkR R C g), Value.int .i64 i, Value.int .i64 j]) ?_
  refine kp 26 (.pointer (some ⟨0, 1, none⟩)) ?_
  refine cg0 (.tuple #[]) (Heap.set (Heap.set (Heap.alloc (Heap.merge (Heap.alloc (Heap.alloc (Heap.alloc Heap.none (Blk.mk 24 true [strs x (mkR R C f), strs y (mkR R C g), Value.int .i64 i, Value.int .i64 j])) (Blk.mk 26 true [Value.int .i64 4, Value.int .i64 row, Value.int .i64 col, Value.int .i64 n, Value.string t])) (Blk.mk 24 true [Value.slice none 0 0, Value.slice none 0 0, Value.int .i64 0, Value.int .i64 0])) (Heap.alloc (Heap.ro (Heap.alloc (Heap.alloc (Heap.alloc Heap.none (Blk.mk 24 true [strs x (mkR R C f), strs y (mkR R C g), Value.int .i64 i, Value.int .i64 j])) (Blk.mk 26 true [Value.int .i64 4, Value.int .i64 row, Value.int .i64 col, Value.int .i64 n, Value.string t])) (Blk.mk 24 true [Value.slice none 0 0, Value.slice none 0 0, Value.int .i64 0, Value.int .i64 0]))) (Blk.mk 9 true (List.map Value.string (mkR R C f))))) (Blk.mk 9 true (List.map Value.string (mkR R C g)))) 0 (some (Blk.mk 24 true [Value.slice (some ⟨3, 0, none⟩) R R, strs y (mkR R C g), Value.int .i64 i, Value.int .i64 j]))) 0 (some (Blk.mk 24 true [Value.slice (some ⟨3, 0, none⟩) R R, Value.slice (some (Addr.mk (List.getD [4] 0 0) 0 none)) R R, Value.int .i64 i, Value.int .i64 j]))) ?_
  refine WpOps.nil (thenK_at (Wp.seq (Wp.text ?_)))
  refine kp 7 (.func (Fn.func 65) #[] #[]) ?_
  refine WpOps.nil (thenK_at (Wp.seq (Wp.seq (Wp.text ?_))))
  refine kp 27 (.pointer (some ⟨1, 0, none⟩)) ?_
  refine kp 28 (.int IntKind.i64 4) ?_
  refine WpOps.nil (thenK_at (Wp.block (Wp.seq (Wp.text ?_))))
  refine kp 30 (.bool false) ?_
  refine kp 29 (.bool false) ?_
  refine WpOps.nil (thenK_at (off' (Wp.seq (Wp.text ?_))))
  refine kp 38 (.bool false) ?_
  refine kp 37 (.bool false) ?_
  refine WpOps.nil (thenK_at (off' (Wp.seq (Wp.text ?_))))
  refine kp 45 (.bool false) ?_
  refine kp 44 (.bool false) ?_
  refine WpOps.nil (thenK_at (off' (Wp.seq (Wp.text ?_))))
  refine kp 58 (.bool false) ?_
  refine kp 57 (.bool false) ?_
  refine WpOps.nil (thenK_at (off' (Wp.seq (Wp.text ?_))))
  refine kp 72 (.bool false) ?_
  refine kp 71 (.bool false) ?_
  refine WpOps.nil (thenK_at (off' (Wp.seq (Wp.text ?_))))
  refine kp 91 (.bool false) ?_
  refine kp 90 (.bool false) ?_
  refine WpOps.nil (thenK_at (off' (Wp.skip (blockK_norm (thenK_at (Wp.seq (Wp.text ?_)))))))
  refine kp 123 (.agg #[Value.slice (some ⟨3, 0, none⟩) R R, Value.slice (some ⟨4, 0, none⟩) R R, Value.int .i64 i, Value.int .i64 j]) ?_
  refine cg0 (.tuple #[]) (Heap.set (Heap.set (Heap.set (Heap.alloc (Heap.merge (Heap.alloc (Heap.alloc (Heap.alloc Heap.none (Blk.mk 24 true [strs x (mkR R C f), strs y (mkR R C g), Value.int .i64 i, Value.int .i64 j])) (Blk.mk 26 true [Value.int .i64 4, Value.int .i64 row, Value.int .i64 col, Value.int .i64 n, Value.string t])) (Blk.mk 24 true [Value.slice none 0 0, Value.slice none 0 0, Value.int .i64 0, Value.int .i64 0])) (Heap.alloc (Heap.ro (Heap.alloc (Heap.alloc (Heap.alloc Heap.none (Blk.mk 24 true [strs x (mkR R C f), strs y (mkR R C g), Value.int .i64 i, Value.int .i64 j])) (Blk.mk 26 true [Value.int .i64 4, Value.int .i64 row, Value.int .i64 col, Value.int .i64 n, Value.string t])) (Blk.mk 24 true [Value.slice none 0 0, Value.slice none 0 0, Value.int .i64 0, Value.int .i64 0]))) (Blk.mk 9 true (List.map Value.string (mkR R C f))))) (Blk.mk 9 true (List.map Value.string (mkR R C g)))) 0 (some (Blk.mk 24 true [Value.slice (some ⟨3, 0, none⟩) R R, strs y (mkR R C g), Value.int .i64 i, Value.int .i64 j]))) 0 (some (Blk.mk 24 true [Value.slice (some ⟨3, 0, none⟩) R R, Value.slice (some ⟨4, 0, none⟩) R R, Value.int .i64 i, Value.int .i64 j]))) 2 (some (Blk.mk 24 true [Value.slice (some ⟨3, 0, none⟩) R R, Value.slice (some ⟨4, 0, none⟩) R R, Value.int .i64 i, Value.int .i64 j]))) ?_
  refine WpOps.nil (thenK_at (Wp.ret ?_))
  refine endK_retn [Value.agg #[Value.slice (some (Addr.mk 3 0 none)) R R, Value.slice (some (Addr.mk 4 0 none)) R R, Value.int IntKind.i64 i, Value.int IntKind.i64 j]] (Value.agg #[Value.slice (some (Addr.mk 3 0 none)) R R, Value.slice (some (Addr.mk 4 0 none)) R R, Value.int IntKind.i64 i, Value.int IntKind.i64 j]) (by kernel_rfl) (by kernel_rfl) ?_
  exact ice_dv (mkR R C f) (mkR R C g) i j mkR_len.symm mkR_len.symm (by kernel_rfl) (by kernel_rfl)
set_option maxHeartbeats 4000000 in
theorem apply1 (x y R C : Nat) (f g : Nat → Nat → UInt8) (i j mk : Nat) (row col : Int) (t : ByteArray) (hx : x ≠ 2) (hy : y ≠ 2) (hi : i < R) (hj : j < C) (hR : R ≤ 40) (hC : C ≤ 80) (ht : t.size ≤ 1000000) (hmk : mk ≤ 7) :
    Fun E 40 [dv x y (mkR R C f) (mkR R C g) i j, uv 1 row col mk t] (dv 0 0 (mkR R C (tF C (i * C + j) t f)) (mkR R C (tF C (i * C + j) (fillS (UInt8.ofNat (48 + mk)) t.size) g)) ((min (i * C + j + t.size) (R * C - 1) / C : Nat) : Int) ((min (i * C + j + t.size) (R * C - 1) % C : Nat) : Int)) := by
  refine Fun.of f40 rfl (of_decide_eq_true (by kernel_rfl)) (dv_ice _ _ _ _ _ _) ?_
  have c1 := clone64m x R C f hx (by omega) hR
  have c2 := clone64m y R C g hy (by omega) hR
  have l1 : 0 ≤ (0 : Int) ∧ (0 : Int) < (mkR R C f).length := by rw [mkR_len]; omega
  have v1 := strs_0 (mkR R C f) (by rw [mkR_len]; omega)
  have fl1 := strs_flat (mkR R C f)
  have fl2 := strs_flat (mkR R C g)
  have c3 := text66 R C f g i j mk t hi hj hR hC ht hmk
  have fl3 := strs_flat (mkR R C (tF C (i * C + j) t f))
  have fl4 := strs_flat (mkR R C (tF C (i * C + j) (fillS (UInt8.ofNat (48 + mk)) t.size) g))
  unfold dv uv strs
  unfold strs sB at c1 c2
  unfold dBs dB sB at c3
  refine Wp.seq (Wp.text ?_)
  refine md 2 (.pointer (some ⟨0, 0, none⟩)) (Blk.mk 24 true [strs x (mkR R C f), strs y (mkR R C g), Value.int .i64 (↑i : Int), Value.int .i64 (↑j : Int)]) ?_
  refine md 3 (.pointer (some ⟨1, 0, none⟩)) (Blk.mk 26 true [Value.int .i64 1, Value.int .i64 row, Value.int .i64 col, Value.int .i64 (↑mk : Int), Value.string t]) ?_
  refine md 4 (.pointer (some ⟨2, 0, none⟩)) (Blk.mk 24 true [Value.slice none 0 0, Value.slice none 0 0, Value.int .i64 0, Value.int .i64 0]) ?_
  refine WpOps.nil (thenK_at (Wp.seq ?_))
  refine Wp.region (by kernel_rfl) ?_
  refine kp 11 (.pointer (some ⟨0, 0, none⟩)) ?_
  refine kp 12 (.iface 9 (Value.iface (List.length (mkR R C f)) (Value.iface x (Value.agg (List.toArray (List.map Value.string (mkR R C f))))))) ?_
  refine kp 13 (.int IntKind.i64 (↑(List.length (mkR R C f)) : Int)) ?_
  refine kp 14 (.pointer (some ⟨0, 0, none⟩)) ?_
  refine kp 15 (.iface 9 (Value.iface (List.length (mkR R C f)) (Value.iface x (Value.agg (List.toArray (List.map Value.string (mkR R C f))))))) ?_
  refine kp 16 (.iface 9 (Value.iface 0 (Value.agg (List.toArray (List.map Value.string (mkR R C f)))))) ?_ (hop := fun _ => o_indexI (e := 9) (size := 1) (a := 0) l1)
  refine kp 17 (.string (rowAt (mkR R C f) 0)) ?_ (hop := fun _ => o_loadI1 (0) v1)
  refine kp 18 (.int IntKind.i64 (↑(ByteArray.size (rowAt (mkR R C f) 0)) : Int)) ?_
  refine kp 5 (.int IntKind.i64 (↑(List.length (mkR R C f)) : Int)) ?_
  refine kp 6 (.int IntKind.i64 (↑(ByteArray.size (rowAt (mkR R C f) 0)) : Int)) ?_
  refine WpOps.nil (thenK_at (Wp.seq ?_))
  refine Wp.region (by kernel_rfl) ?_
  refine kp 19 (.pointer (some ⟨0, 0, none⟩)) ?_
  refine kp 20 (.iface 9 (Value.iface (List.length (mkR R C f)) (Value.iface x (Value.agg (List.toArray (List.map Value.string (mkR R C f))))))) ?_
  refine clr 21 64 [strs x (mkR R C f)] ?_
  refine WpCall.lent [] (c1) (by decide) trivial (by kernel_rfl) (Value.slice (some (Addr.mk (List.getD [3] 0 0) 0 none)) R R) ([Blk.mk 9 true (List.map Value.string (mkR R C f))]) (.cons (unB_flat (by assumption)) .nil) (by kernel_rfl) (Heap.alloc (Heap.ro (Heap.alloc (Heap.alloc (Heap.alloc Heap.none (Blk.mk 24 true [strs x (mkR R C f), strs y (mkR R C g), Value.int IntKind.i64 (↑i : Int), Value.int IntKind.i64 (↑j : Int)])) (Blk.mk 26 true [Value.int IntKind.i64 1, Value.int IntKind.i64 row, Value.int IntKind.i64 col, Value.int IntKind.i64 (↑mk : Int), Value.string t])) (Blk.mk 24 true [Value.slice none 0 0, Value.slice none 0 0, Value.int IntKind.i64 0, Value.int IntKind.i64 0]))) (Blk.mk 9 true (List.map Value.string (mkR R C f)))) (by kernel_rfl) ?_
  refine kp 22 (.pointer (some ⟨0, 1, none⟩)) ?_
  refine kp 23 (.iface 9 (Value.iface (List.length (mkR R C g)) (Value.iface y (Value.agg (List.toArray (List.map Value.string (mkR R C g))))))) ?_
  refine cl 24 64 [strs y (mkR R C g)] ?_
  refine WpCall.lent [] (c2) (by decide) trivial (by kernel_rfl) (Value.slice (some (Addr.mk (List.getD [4] 0 0) 0 none)) R R) ([Blk.mk 9 true (List.map Value.string (mkR R C g))]) (.cons (unB_flat (by assumption)) .nil) (by kernel_rfl) (Heap.alloc (Heap.merge (Heap.alloc (Heap.alloc (Heap.alloc Heap.none (Blk.mk 24 true [strs x (mkR R C f), strs y (mkR R C g), Value.int IntKind.i64 (↑i : Int), Value.int IntKind.i64 (↑j : Int)])) (Blk.mk 26 true [Value.int IntKind.i64 1, Value.int IntKind.i64 row, Value.int IntKind.i64 col, Value.int IntKind.i64 (↑mk : Int), Value.string t])) (Blk.mk 24 true [Value.slice none 0 0, Value.slice none 0 0, Value.int IntKind.i64 0, Value.int IntKind.i64 0])) (Heap.alloc (Heap.ro (Heap.alloc (Heap.alloc (Heap.alloc Heap.none (Blk.mk 24 true [strs x (mkR R C f), strs y (mkR R C g), Value.int IntKind.i64 (↑i : Int), Value.int IntKind.i64 (↑j : Int)])) (Blk.mk 26 true [Value.int IntKind.i64 1, Value.int IntKind.i64 row, Value.int IntKind.i64 col, Value.int IntKind.i64 (↑mk : Int), Value.string t])) (Blk.mk 24 true [Value.slice none 0 0, Value.slice none 0 0, Value.int IntKind.i64 0, Value.int IntKind.i64 0]))) (Blk.mk 9 true (List.map Value.string (mkR R C f))))) (Blk.mk 9 true (List.map Value.string (mkR R C g)))) (by kernel_rfl) ?_
  refine kp 25 (.pointer (some ⟨0, 0, none⟩)) ?_
  refine ld (.tuple #[]) (0) (Blk.mk 24 true [Value.slice (some (Addr.mk (List.getD [3] 0 0) 0 none)) R R, strs y (mkR R C g), Value.int .i64 (↑i : Int), Value.int .i64 (↑j : Int)]) ?_
  refine kp 26 (.pointer (some ⟨0, 1, none⟩)) ?_
  refine cg0 (.tuple #[]) (Heap.set (Heap.set (Heap.alloc (Heap.merge (Heap.alloc (Heap.alloc (Heap.alloc Heap.none (Blk.mk 24 true [strs x (mkR R C f), strs y (mkR R C g), Value.int .i64 (↑i : Int), Value.int .i64 (↑j : Int)])) (Blk.mk 26 true [Value.int .i64 1, Value.int .i64 row, Value.int .i64 col, Value.int .i64 (↑mk : Int), Value.string t])) (Blk.mk 24 true [Value.slice none 0 0, Value.slice none 0 0, Value.int .i64 0, Value.int .i64 0])) (Heap.alloc (Heap.ro (Heap.alloc (Heap.alloc (Heap.alloc Heap.none (Blk.mk 24 true [strs x (mkR R C f), strs y (mkR R C g), Value.int .i64 (↑i : Int), Value.int .i64 (↑j : Int)])) (Blk.mk 26 true [Value.int .i64 1, Value.int .i64 row, Value.int .i64 col, Value.int .i64 (↑mk : Int), Value.string t])) (Blk.mk 24 true [Value.slice none 0 0, Value.slice none 0 0, Value.int .i64 0, Value.int .i64 0]))) (Blk.mk 9 true (List.map Value.string (mkR R C f))))) (Blk.mk 9 true (List.map Value.string (mkR R C g)))) 0 (some (Blk.mk 24 true [Value.slice (some ⟨3, 0, none⟩) R R, strs y (mkR R C g), Value.int .i64 (↑i : Int), Value.int .i64 (↑j : Int)]))) 0 (some (Blk.mk 24 true [Value.slice (some ⟨3, 0, none⟩) R R, Value.slice (some (Addr.mk (List.getD [4] 0 0) 0 none)) R R, Value.int .i64 (↑i : Int), Value.int .i64 (↑j : Int)]))) ?_
  refine WpOps.nil (thenK_at (Wp.seq (Wp.text ?_)))
  refine kp 7 (.func (Fn.func 65) #[] #[]) ?_
  refine WpOps.nil (thenK_at (Wp.seq (Wp.seq (Wp.text ?_))))
  refine kp 27 (.pointer (some ⟨1, 0, none⟩)) ?_
  refine kp 28 (.int IntKind.i64 1) ?_
  refine WpOps.nil (thenK_at (Wp.block (Wp.seq (Wp.text ?_))))
  refine kp 30 (.bool false) ?_
  refine kp 29 (.bool false) ?_
  refine WpOps.nil (thenK_at (off' (Wp.seq (Wp.text ?_))))
  refine kp 38 (.bool true) ?_
  refine kp 37 (.bool true) ?_
  refine WpOps.nil (thenK_at (on' (Wp.text ?_)))
  refine kp 39 (.pointer (some ⟨1, 4, none⟩)) ?_
  refine kp 40 (.string t) ?_
  refine kp 41 (.pointer (some ⟨1, 3, none⟩)) ?_
  refine kp 42 (.int IntKind.i64 (↑mk : Int)) ?_
  refine cl 43 66 [Value.pointer (some ⟨0, 0, none⟩), Value.string t, Value.int .i64 (↑mk : Int)] ?_
  refine WpCall.lent [0, 3, 4] (c3) (by decide) ⟨⟨[Value.slice (some (Addr.mk 3 0 none)) R R, Value.slice (some (Addr.mk (List.getD [4] 0 0) 0 none)) R R, Value.int IntKind.i64 (↑i : Int), Value.int IntKind.i64 (↑j : Int)], (by kernel_rfl), (by kernel_rfl), (by kernel_rfl)⟩, ⟨⟨_, (by kernel_rfl), CellsOk.eq rfl (by assumption)⟩, ⟨⟨_, (by kernel_rfl), CellsOk.eq rfl (by assumption)⟩, trivial⟩⟩⟩ (by kernel_rfl) (Value.tuple #[]) ([Blk.mk 24 true [Value.slice (some (Addr.mk (List.getD [0, 3, 4] 1 0) 0 none)) R R, Value.slice (some (Addr.mk (List.getD [0, 3, 4] 2 0) 0 none)) R R, Value.int IntKind.i64 (↑(min (i * C + j + ByteArray.size t) (R * C - 1) / C) : Int), Value.int IntKind.i64 (↑(min (i * C + j + ByteArray.size t) (R * C - 1) % C) : Int)], Blk.mk 9 true (List.map Value.string (mkR R C (tF C (i * C + j) t f))), Blk.mk 9 true (List.map Value.string (mkR R C (tF C (i * C + j) (fillS (UInt8.ofNat (48 + mk)) (ByteArray.size t)) g)))]) (.cons (by kernel_rfl) (.cons (unB_flat (by assumption)) (.cons (unB_flat (by assumption)) .nil))) (by kernel_rfl) (Heap.set (Heap.set (Heap.set (Heap.set (Heap.set (Heap.alloc (Heap.merge (Heap.alloc (Heap.alloc (Heap.alloc Heap.none (Blk.mk 24 true [strs x (mkR R C f), strs y (mkR R C g), Value.int IntKind.i64 (↑i : Int), Value.int IntKind.i64 (↑j : Int)])) (Blk.mk 26 true [Value.int IntKind.i64 1, Value.int IntKind.i64 row, Value.int IntKind.i64 col, Value.int IntKind.i64 (↑mk : Int), Value.string t])) (Blk.mk 24 true [Value.slice none 0 0, Value.slice none 0 0, Value.int IntKind.i64 0, Value.int IntKind.i64 0])) (Heap.alloc (Heap.ro (Heap.alloc (Heap.alloc (Heap.alloc Heap.none (Blk.mk 24 true [strs x (mkR R C f), strs y (mkR R C g), Value.int IntKind.i64 (↑i : Int), Value.int IntKind.i64 (↑j : Int)])) (Blk.mk 26 true [Value.int IntKind.i64 1, Value.int IntKind.i64 row, Value.int IntKind.i64 col, Value.int IntKind.i64 (↑mk : Int), Value.string t])) (Blk.mk 24 true [Value.slice none 0 0, Value.slice none 0 0, Value.int IntKind.i64 0, Value.int IntKind.i64 0]))) (Blk.mk 9 true (List.map Value.string (mkR R C f))))) (Blk.mk 9 true (List.map Value.string (mkR R C g)))) 0 (some (Blk.mk 24 true [Value.slice (some (Addr.mk 3 0 none)) R R, strs y (mkR R C g), Value.int IntKind.i64 (↑i : Int), Value.int IntKind.i64 (↑j : Int)]))) 0 (some (Blk.mk 24 true [Value.slice (some (Addr.mk 3 0 none)) R R, Value.slice (some (Addr.mk 4 0 none)) R R, Value.int IntKind.i64 (↑i : Int), Value.int IntKind.i64 (↑j : Int)]))) 0 (some (Blk.mk 24 true [Value.slice (some (Addr.mk 3 0 none)) R R, Value.slice (some (Addr.mk 4 0 none)) R R, Value.int IntKind.i64 (↑(min (i * C + j + ByteArray.size t) (R * C - 1) / C) : Int), Value.int IntKind.i64 (↑(min (i * C + j + ByteArray.size t) (R * C - 1) % C) : Int)]))) 3 (some (Blk.mk 9 true (List.map Value.string (mkR R C (tF C (i * C + j) t f)))))) 4 (some (Blk.mk 9 true (List.map Value.string (mkR R C (tF C (i * C + j) (fillS (UInt8.ofNat (48 + mk)) (ByteArray.size t)) g)))))) (by kernel_rfl) ?_
  refine WpOps.nil (blockK_norm (thenK_at (Wp.seq (Wp.text ?_))))
  refine kp 123 (.agg #[Value.slice (some ⟨3, 0, none⟩) R R, Value.slice (some ⟨4, 0, none⟩) R R, Value.int .i64 (↑(min (i * C + j + ByteArray.size t) (R * C - 1) / C) : Int), Value.int .i64 (↑(min (i * C + j + ByteArray.size t) (R * C - 1) % C) : Int)]) ?_
  refine ld (.tuple #[]) (2) (Blk.mk 24 true [Value.slice (some ⟨3, 0, none⟩) R R, Value.slice (some ⟨4, 0, none⟩) R R, Value.int .i64 (↑(min (i * C + j + ByteArray.size t) (R * C - 1) / C) : Int), Value.int .i64 (↑(min (i * C + j + ByteArray.size t) (R * C - 1) % C) : Int)]) ?_
  refine WpOps.nil (thenK_at (Wp.ret ?_))
  refine endK_retn [Value.agg #[Value.slice (some (Addr.mk 3 0 none)) R R, Value.slice (some (Addr.mk 4 0 none)) R R, Value.int IntKind.i64 (↑(min (i * C + j + ByteArray.size t) (R * C - 1) / C) : Int), Value.int IntKind.i64 (↑(min (i * C + j + ByteArray.size t) (R * C - 1) % C) : Int)]] (Value.agg #[Value.slice (some (Addr.mk 3 0 none)) R R, Value.slice (some (Addr.mk 4 0 none)) R R, Value.int IntKind.i64 (↑(min (i * C + j + ByteArray.size t) (R * C - 1) / C) : Int), Value.int IntKind.i64 (↑(min (i * C + j + ByteArray.size t) (R * C - 1) % C) : Int)]) (by kernel_rfl) (by kernel_rfl) ?_
  exact ice_dv (mkR R C (tF C (i * C + j) t f)) (mkR R C (tF C (i * C + j) (fillS (UInt8.ofNat (48 + mk)) t.size) g)) _ _ mkR_len.symm mkR_len.symm (by kernel_rfl) (by kernel_rfl)
set_option maxHeartbeats 4000000 in
theorem apply0 (x y R C : Nat) (f g : Nat → Nat → UInt8) (i j row col n : Int) (t : ByteArray) (hx : x ≠ 2) (hy : y ≠ 2) (h0 : 1 ≤ R) (hR : R ≤ 40) : Fun E 40 [dv x y (mkR R C f) (mkR R C g) i j, uv 0 row col n t] (dv 0 0 (mkR R C f) (mkR R C g) row col) := by
  refine Fun.of f40 rfl (of_decide_eq_true (by kernel_rfl)) (dv_ice _ _ _ _ _ _) ?_
  have c1 := clone64m x R C f hx (by omega) hR
  have c2 := clone64m y R C g hy (by omega) hR
  have l1 : 0 ≤ (0 : Int) ∧ (0 : Int) < (mkR R C f).length := by rw [mkR_len]; omega
  have v1 := strs_0 (mkR R C f) (by rw [mkR_len]; omega)
  have fl1 := strs_flat (mkR R C f)
  have fl2 := strs_flat (mkR R C g)
  unfold dv uv strs
  unfold strs sB at c1 c2
  refine Wp.seq (Wp.text ?_)
  refine md 2 (.pointer (some ⟨0, 0, none⟩)) (Blk.mk 24 true [strs x (mkR R C f), strs y (mkR R C g), Value.int .i64 i, Value.int .i64 j]) ?_
  refine md 3 (.pointer (some ⟨1, 0, none⟩)) (Blk.mk 26 true [Value.int .i64 0, Value.int .i64 row, Value.int .i64 col, Value.int .i64 n, Value.string t]) ?_
  refine md 4 (.pointer (some ⟨2, 0, none⟩)) (Blk.mk 24 true [Value.slice none 0 0, Value.slice none 0 0, Value.int .i64 0, Value.int .i64 0]) ?_
  refine WpOps.nil (thenK_at (Wp.seq ?_))
  refine Wp.region (by kernel_rfl) ?_
  refine kp 11 (.pointer (some ⟨0, 0, none⟩)) ?_
  refine kp 12 (.iface 9 (Value.iface (List.length (mkR R C f)) (Value.iface x (Value.agg (List.toArray (List.map Value.string (mkR R C f))))))) ?_
  refine kp 13 (.int IntKind.i64 (↑(List.length (mkR R C f)) : Int)) ?_
  refine kp 14 (.pointer (some ⟨0, 0, none⟩)) ?_
  refine kp 15 (.iface 9 (Value.iface (List.length (mkR R C f)) (Value.iface x (Value.agg (List.toArray (List.map Value.string (mkR R C f))))))) ?_
  refine kp 16 (.iface 9 (Value.iface 0 (Value.agg (List.toArray (List.map Value.string (mkR R C f)))))) ?_ (hop := fun _ => o_indexI (e := 9) (size := 1) (a := 0) l1)
  refine kp 17 (.string (rowAt (mkR R C f) 0)) ?_ (hop := fun _ => o_loadI1 (0) v1)
  refine kp 18 (.int IntKind.i64 (↑(ByteArray.size (rowAt (mkR R C f) 0)) : Int)) ?_
  refine kp 5 (.int IntKind.i64 (↑(List.length (mkR R C f)) : Int)) ?_
  refine kp 6 (.int IntKind.i64 (↑(ByteArray.size (rowAt (mkR R C f) 0)) : Int)) ?_
  refine WpOps.nil (thenK_at (Wp.seq ?_))
  refine Wp.region (by kernel_rfl) ?_
  refine kp 19 (.pointer (some ⟨0, 0, none⟩)) ?_
  refine kp 20 (.iface 9 (Value.iface (List.length (mkR R C f)) (Value.iface x (Value.agg (List.toArray (List.map Value.string (mkR R C f))))))) ?_
  refine clr 21 64 [strs x (mkR R C f)] ?_
  refine WpCall.lent [] (c1) (by decide) trivial (by kernel_rfl) (Value.slice (some (Addr.mk (List.getD [3] 0 0) 0 none)) R R) ([Blk.mk 9 true (List.map Value.string (mkR R C f))]) (.cons (unB_flat (by assumption)) .nil) (by kernel_rfl) (Heap.alloc (Heap.ro (Heap.alloc (Heap.alloc (Heap.alloc Heap.none (Blk.mk 24 true [strs x (mkR R C f), strs y (mkR R C g), Value.int IntKind.i64 i, Value.int IntKind.i64 j])) (Blk.mk 26 true [Value.int IntKind.i64 0, Value.int IntKind.i64 row, Value.int IntKind.i64 col, Value.int IntKind.i64 n, Value.string t])) (Blk.mk 24 true [Value.slice none 0 0, Value.slice none 0 0, Value.int IntKind.i64 0, Value.int IntKind.i64 0]))) (Blk.mk 9 true (List.map Value.string (mkR R C f)))) (by kernel_rfl) ?_
  refine kp 22 (.pointer (some ⟨0, 1, none⟩)) ?_
  refine kp 23 (.iface 9 (Value.iface (List.length (mkR R C g)) (Value.iface y (Value.agg (List.toArray (List.map Value.string (mkR R C g))))))) ?_
  refine cl 24 64 [strs y (mkR R C g)] ?_
  refine WpCall.lent [] (c2) (by decide) trivial (by kernel_rfl) (Value.slice (some (Addr.mk (List.getD [4] 0 0) 0 none)) R R) ([Blk.mk 9 true (List.map Value.string (mkR R C g))]) (.cons (unB_flat (by assumption)) .nil) (by kernel_rfl) (Heap.alloc (Heap.merge (Heap.alloc (Heap.alloc (Heap.alloc Heap.none (Blk.mk 24 true [strs x (mkR R C f), strs y (mkR R C g), Value.int IntKind.i64 i, Value.int IntKind.i64 j])) (Blk.mk 26 true [Value.int IntKind.i64 0, Value.int IntKind.i64 row, Value.int IntKind.i64 col, Value.int IntKind.i64 n, Value.string t])) (Blk.mk 24 true [Value.slice none 0 0, Value.slice none 0 0, Value.int IntKind.i64 0, Value.int IntKind.i64 0])) (Heap.alloc (Heap.ro (Heap.alloc (Heap.alloc (Heap.alloc Heap.none (Blk.mk 24 true [strs x (mkR R C f), strs y (mkR R C g), Value.int IntKind.i64 i, Value.int IntKind.i64 j])) (Blk.mk 26 true [Value.int IntKind.i64 0, Value.int IntKind.i64 row, Value.int IntKind.i64 col, Value.int IntKind.i64 n, Value.string t])) (Blk.mk 24 true [Value.slice none 0 0, Value.slice none 0 0, Value.int IntKind.i64 0, Value.int IntKind.i64 0]))) (Blk.mk 9 true (List.map Value.string (mkR R C f))))) (Blk.mk 9 true (List.map Value.string (mkR R C g)))) (by kernel_rfl) ?_
  refine kp 25 (.pointer (some ⟨0, 0, none⟩)) ?_
  refine ld (.tuple #[]) (0) (Blk.mk 24 true [Value.slice (some (Addr.mk (List.getD [3] 0 0) 0 none)) R R, strs y (mkR R C g), Value.int .i64 i, Value.int .i64 j]) ?_
  refine kp 26 (.pointer (some ⟨0, 1, none⟩)) ?_
  refine cg0 (.tuple #[]) (Heap.set (Heap.set (Heap.alloc (Heap.merge (Heap.alloc (Heap.alloc (Heap.alloc Heap.none (Blk.mk 24 true [strs x (mkR R C f), strs y (mkR R C g), Value.int .i64 i, Value.int .i64 j])) (Blk.mk 26 true [Value.int .i64 0, Value.int .i64 row, Value.int .i64 col, Value.int .i64 n, Value.string t])) (Blk.mk 24 true [Value.slice none 0 0, Value.slice none 0 0, Value.int .i64 0, Value.int .i64 0])) (Heap.alloc (Heap.ro (Heap.alloc (Heap.alloc (Heap.alloc Heap.none (Blk.mk 24 true [strs x (mkR R C f), strs y (mkR R C g), Value.int .i64 i, Value.int .i64 j])) (Blk.mk 26 true [Value.int .i64 0, Value.int .i64 row, Value.int .i64 col, Value.int .i64 n, Value.string t])) (Blk.mk 24 true [Value.slice none 0 0, Value.slice none 0 0, Value.int .i64 0, Value.int .i64 0]))) (Blk.mk 9 true (List.map Value.string (mkR R C f))))) (Blk.mk 9 true (List.map Value.string (mkR R C g)))) 0 (some (Blk.mk 24 true [Value.slice (some ⟨3, 0, none⟩) R R, strs y (mkR R C g), Value.int .i64 i, Value.int .i64 j]))) 0 (some (Blk.mk 24 true [Value.slice (some ⟨3, 0, none⟩) R R, Value.slice (some (Addr.mk (List.getD [4] 0 0) 0 none)) R R, Value.int .i64 i, Value.int .i64 j]))) ?_
  refine WpOps.nil (thenK_at (Wp.seq (Wp.text ?_)))
  refine kp 7 (.func (Fn.func 65) #[] #[]) ?_
  refine WpOps.nil (thenK_at (Wp.seq (Wp.seq (Wp.text ?_))))
  refine kp 27 (.pointer (some ⟨1, 0, none⟩)) ?_
  refine kp 28 (.int IntKind.i64 0) ?_
  refine WpOps.nil (thenK_at (Wp.block (Wp.seq (Wp.text ?_))))
  refine kp 30 (.bool true) ?_
  refine kp 29 (.bool true) ?_
  refine WpOps.nil (thenK_at (on' ?_))
  refine Wp.regionT (by kernel_rfl) (by kernel_rfl) ?_
  refine kp 31 (.pointer (some ⟨1, 1, none⟩)) ?_
  refine kp 32 (.int IntKind.i64 row) ?_
  refine kp 33 (.pointer (some ⟨1, 2, none⟩)) ?_
  refine kp 34 (.int IntKind.i64 col) ?_
  refine kp 35 (.pointer (some ⟨0, 2, none⟩)) ?_
  refine cg0 (.tuple #[]) (Heap.set (Heap.set (Heap.set (Heap.alloc (Heap.merge (Heap.alloc (Heap.alloc (Heap.alloc Heap.none (Blk.mk 24 true [strs x (mkR R C f), strs y (mkR R C g), Value.int .i64 i, Value.int .i64 j])) (Blk.mk 26 true [Value.int .i64 0, Value.int .i64 row, Value.int .i64 col, Value.int .i64 n, Value.string t])) (Blk.mk 24 true [Value.slice none 0 0, Value.slice none 0 0, Value.int .i64 0, Value.int .i64 0])) (Heap.alloc (Heap.ro (Heap.alloc (Heap.alloc (Heap.alloc Heap.none (Blk.mk 24 true [strs x (mkR R C f), strs y (mkR R C g), Value.int .i64 i, Value.int .i64 j])) (Blk.mk 26 true [Value.int .i64 0, Value.int .i64 row, Value.int .i64 col, Value.int .i64 n, Value.string t])) (Blk.mk 24 true [Value.slice none 0 0, Value.slice none 0 0, Value.int .i64 0, Value.int .i64 0]))) (Blk.mk 9 true (List.map Value.string (mkR R C f))))) (Blk.mk 9 true (List.map Value.string (mkR R C g)))) 0 (some (Blk.mk 24 true [Value.slice (some ⟨3, 0, none⟩) R R, strs y (mkR R C g), Value.int .i64 i, Value.int .i64 j]))) 0 (some (Blk.mk 24 true [Value.slice (some ⟨3, 0, none⟩) R R, Value.slice (some ⟨4, 0, none⟩) R R, Value.int .i64 i, Value.int .i64 j]))) 0 (some (Blk.mk 24 true [Value.slice (some ⟨3, 0, none⟩) R R, Value.slice (some ⟨4, 0, none⟩) R R, Value.int .i64 row, Value.int .i64 j]))) ?_
  refine kp 36 (.pointer (some ⟨0, 3, none⟩)) ?_
  refine ld (.tuple #[]) (0) (Blk.mk 24 true [Value.slice (some ⟨3, 0, none⟩) R R, Value.slice (some ⟨4, 0, none⟩) R R, Value.int .i64 row, Value.int .i64 col]) ?_
  refine WpOps.nil ?_
  refine ⟨by kernel_rfl, ?_⟩
  refine blockK_norm (thenK_at (Wp.seq (Wp.text ?_)))
  refine kp 123 (.agg #[Value.slice (some ⟨3, 0, none⟩) R R, Value.slice (some ⟨4, 0, none⟩) R R, Value.int .i64 row, Value.int .i64 col]) ?_
  refine ld (.tuple #[]) (2) (Blk.mk 24 true [Value.slice (some ⟨3, 0, none⟩) R R, Value.slice (some ⟨4, 0, none⟩) R R, Value.int .i64 row, Value.int .i64 col]) ?_
  refine WpOps.nil (thenK_at (Wp.ret ?_))
  refine endK_retn [Value.agg #[Value.slice (some (Addr.mk 3 0 none)) R R, Value.slice (some (Addr.mk 4 0 none)) R R, Value.int IntKind.i64 row, Value.int IntKind.i64 col]] (Value.agg #[Value.slice (some (Addr.mk 3 0 none)) R R, Value.slice (some (Addr.mk 4 0 none)) R R, Value.int IntKind.i64 row, Value.int IntKind.i64 col]) (by kernel_rfl) (by kernel_rfl) ?_
  exact ice_dv (mkR R C f) (mkR R C g) row col mkR_len.symm mkR_len.symm (by kernel_rfl) (by kernel_rfl)
theorem f65 : E.funcs 65 = some Try.f65 := by kernel_rfl
theorem blank65 (n : Nat) (hn : n ≤ 140737488351232) : Lent E 65 [.int .i64 n] [] (.string (fillS 32 n)) [] := by
  refine Lent.of f65 rfl (of_decide_eq_true (by kernel_rfl)) rfl rfl (Nat.le_refl _) rfl rfl rfl ?_
  have c := fill45 32 n hn
  refine Wp.seq (Wp.text ?_)
  refine kp 2 (.string (ByteArray.mk #[])) ?_
  refine WpOps.nil (thenK_at (Wp.seq (Wp.text ?_)))
  refine kp 3 (.int IntKind.i64 (↑n : Int)) ?_
  refine fr 4 45 [Value.string (ByteArray.mk #[32]), Value.int .i64 (↑n : Int)] ?_
  refine WpFun.of (c) ?_
  refine kp 2 (.string (fillS 32 n)) ?_
  refine WpOps.nil (thenK_at (Wp.ret ?_))
  refine endK_retn [Value.string (fillS 32 n)] (Value.string (fillS 32 n)) (by kernel_rfl) (by kernel_rfl) ?_
  exact ⟨[], by decide, by kernel_rfl, trivial, .w (.un rfl rfl)⟩
set_option maxHeartbeats 4000000 in
theorem apply2 (x y R C : Nat) (f g : Nat → Nat → UInt8) (i j : Nat) (row col n : Int) (t : ByteArray) (hx : x ≠ 2) (hy : y ≠ 2) (hi : i < R) (hj : j < C) (hR : R ≤ 40) (hC : C ≤ 80) :
    Fun E 40 [dv x y (mkR R C f) (mkR R C g) i j, uv 2 row col n t] (dv 0 0 (mkR R C (putF f i j (fillS 32 (C - j)))) (mkR R C (putF g i j (fillS 48 (C - j)))) i j) := by
  refine Fun.of f40 rfl (of_decide_eq_true (by kernel_rfl)) (dv_ice _ _ _ _ _ _) ?_
  have c1 := clone64m x R C f hx (by omega) hR
  have c2 := clone64m y R C g hy (by omega) hR
  have l1 : 0 ≤ (0 : Int) ∧ (0 : Int) < (mkR R C f).length := by rw [mkR_len]; omega
  have v1 := strs_0 (mkR R C f) (by rw [mkR_len]; omega)
  have fl1 := strs_flat (mkR R C f)
  have fl2 := strs_flat (mkR R C g)
  have e0 : (rowAt (mkR R C f) 0).size = C := mkR_size (by omega)
  have w : IntKind.i64.wrap (((rowAt (mkR R C f) 0).size : Int) - j) = ((C - j : Nat) : Int) := by rw [e0, wr _ (by omega) (by omega)]; omega
  have c3 : Lent E 65 [.int .i64 (IntKind.i64.wrap (((rowAt (mkR R C f) 0).size : Int) - j))] [] (.string (fillS 32 (C - j))) [] := by rw [w]; exact blank65 _ (by omega)
  have c4 := putM R C f g i j i j 0 (fillS 32 (C - j)) hi hC (by rw [fillS_size]; omega) (by omega)
  rw [fillS_size] at c4
  have fl3 := strs_flat (mkR R C (putF f i j (fillS 32 (C - j))))
  have fl4 := strs_flat (mkR R C (putF g i j (fillS (UInt8.ofNat (48 + 0)) (C - j))))
  unfold dv uv strs
  unfold strs sB at c1 c2
  unfold dBs dB sB at c4
  refine Wp.seq (Wp.text ?_)
  refine md 2 (.pointer (some ⟨0, 0, none⟩)) (Blk.mk 24 true [strs x (mkR R C f), strs y (mkR R C g), Value.int .i64 (↑i : Int), Value.int .i64 (↑j : Int)]) ?_
  refine md 3 (.pointer (some ⟨1, 0, none⟩)) (Blk.mk 26 true [Value.int .i64 2, Value.int .i64 row, Value.int .i64 col, Value.int .i64 n, Value.string t]) ?_
  refine md 4 (.pointer (some ⟨2, 0, none⟩)) (Blk.mk 24 true [Value.slice none 0 0, Value.slice none 0 0, Value.int .i64 0, Value.int .i64 0]) ?_
  refine WpOps.nil (thenK_at (Wp.seq ?_))
  refine Wp.region (by kernel_rfl) ?_
  refine kp 11 (.pointer (some ⟨0, 0, none⟩)) ?_
  refine kp 12 (.iface 9 (Value.iface (List.length (mkR R C f)) (Value.iface x (Value.agg (List.toArray (List.map Value.string (mkR R C f))))))) ?_
  refine kp 13 (.int IntKind.i64 (↑(List.length (mkR R C f)) : Int)) ?_
  refine kp 14 (.pointer (some ⟨0, 0, none⟩)) ?_
  refine kp 15 (.iface 9 (Value.iface (List.length (mkR R C f)) (Value.iface x (Value.agg (List.toArray (List.map Value.string (mkR R C f))))))) ?_
  refine kp 16 (.iface 9 (Value.iface 0 (Value.agg (List.toArray (List.map Value.string (mkR R C f)))))) ?_ (hop := fun _ => o_indexI (e := 9) (size := 1) (a := 0) l1)
  refine kp 17 (.string (rowAt (mkR R C f) 0)) ?_ (hop := fun _ => o_loadI1 (0) v1)
  refine kp 18 (.int IntKind.i64 (↑(ByteArray.size (rowAt (mkR R C f) 0)) : Int)) ?_
  refine kp 5 (.int IntKind.i64 (↑(List.length (mkR R C f)) : Int)) ?_
  refine kp 6 (.int IntKind.i64 (↑(ByteArray.size (rowAt (mkR R C f) 0)) : Int)) ?_
  refine WpOps.nil (thenK_at (Wp.seq ?_))
  refine Wp.region (by kernel_rfl) ?_
  refine kp 19 (.pointer (some ⟨0, 0, none⟩)) ?_
  refine kp 20 (.iface 9 (Value.iface (List.length (mkR R C f)) (Value.iface x (Value.agg (List.toArray (List.map Value.string (mkR R C f))))))) ?_
  refine clr 21 64 [strs x (mkR R C f)] ?_
  refine WpCall.lent [] (c1) (by decide) trivial (by kernel_rfl) (Value.slice (some (Addr.mk (List.getD [3] 0 0) 0 none)) R R) ([Blk.mk 9 true (List.map Value.string (mkR R C f))]) (.cons (unB_flat (by assumption)) .nil) (by kernel_rfl) (Heap.alloc (Heap.ro (Heap.alloc (Heap.alloc (Heap.alloc Heap.none (Blk.mk 24 true [strs x (mkR R C f), strs y (mkR R C g), Value.int IntKind.i64 (↑i : Int), Value.int IntKind.i64 (↑j : Int)])) (Blk.mk 26 true [Value.int IntKind.i64 2, Value.int IntKind.i64 row, Value.int IntKind.i64 col, Value.int IntKind.i64 n, Value.string t])) (Blk.mk 24 true [Value.slice none 0 0, Value.slice none 0 0, Value.int IntKind.i64 0, Value.int IntKind.i64 0]))) (Blk.mk 9 true (List.map Value.string (mkR R C f)))) (by kernel_rfl) ?_
  refine kp 22 (.pointer (some ⟨0, 1, none⟩)) ?_
  refine kp 23 (.iface 9 (Value.iface (List.length (mkR R C g)) (Value.iface y (Value.agg (List.toArray (List.map Value.string (mkR R C g))))))) ?_
  refine cl 24 64 [strs y (mkR R C g)] ?_
  refine WpCall.lent [] (c2) (by decide) trivial (by kernel_rfl) (Value.slice (some (Addr.mk (List.getD [4] 0 0) 0 none)) R R) ([Blk.mk 9 true (List.map Value.string (mkR R C g))]) (.cons (unB_flat (by assumption)) .nil) (by kernel_rfl) (Heap.alloc (Heap.merge (Heap.alloc (Heap.alloc (Heap.alloc Heap.none (Blk.mk 24 true [strs x (mkR R C f), strs y (mkR R C g), Value.int IntKind.i64 (↑i : Int), Value.int IntKind.i64 (↑j : Int)])) (Blk.mk 26 true [Value.int IntKind.i64 2, Value.int IntKind.i64 row, Value.int IntKind.i64 col, Value.int IntKind.i64 n, Value.string t])) (Blk.mk 24 true [Value.slice none 0 0, Value.slice none 0 0, Value.int IntKind.i64 0, Value.int IntKind.i64 0])) (Heap.alloc (Heap.ro (Heap.alloc (Heap.alloc (Heap.alloc Heap.none (Blk.mk 24 true [strs x (mkR R C f), strs y (mkR R C g), Value.int IntKind.i64 (↑i : Int), Value.int IntKind.i64 (↑j : Int)])) (Blk.mk 26 true [Value.int IntKind.i64 2, Value.int IntKind.i64 row, Value.int IntKind.i64 col, Value.int IntKind.i64 n, Value.string t])) (Blk.mk 24 true [Value.slice none 0 0, Value.slice none 0 0, Value.int IntKind.i64 0, Value.int IntKind.i64 0]))) (Blk.mk 9 true (List.map Value.string (mkR R C f))))) (Blk.mk 9 true (List.map Value.string (mkR R C g)))) (by kernel_rfl) ?_
  refine kp 25 (.pointer (some ⟨0, 0, none⟩)) ?_
  refine ld (.tuple #[]) (0) (Blk.mk 24 true [Value.slice (some (Addr.mk (List.getD [3] 0 0) 0 none)) R R, strs y (mkR R C g), Value.int .i64 (↑i : Int), Value.int .i64 (↑j : Int)]) ?_
  refine kp 26 (.pointer (some ⟨0, 1, none⟩)) ?_
  refine cg0 (.tuple #[]) (Heap.set (Heap.set (Heap.alloc (Heap.merge (Heap.alloc (Heap.alloc (Heap.alloc Heap.none (Blk.mk 24 true [strs x (mkR R C f), strs y (mkR R C g), Value.int .i64 (↑i : Int), Value.int .i64 (↑j : Int)])) (Blk.mk 26 true [Value.int .i64 2, Value.int .i64 row, Value.int .i64 col, Value.int .i64 n, Value.string t])) (Blk.mk 24 true [Value.slice none 0 0, Value.slice none 0 0, Value.int .i64 0, Value.int .i64 0])) (Heap.alloc (Heap.ro (Heap.alloc (Heap.alloc (Heap.alloc Heap.none (Blk.mk 24 true [strs x (mkR R C f), strs y (mkR R C g), Value.int .i64 (↑i : Int), Value.int .i64 (↑j : Int)])) (Blk.mk 26 true [Value.int .i64 2, Value.int .i64 row, Value.int .i64 col, Value.int .i64 n, Value.string t])) (Blk.mk 24 true [Value.slice none 0 0, Value.slice none 0 0, Value.int .i64 0, Value.int .i64 0]))) (Blk.mk 9 true (List.map Value.string (mkR R C f))))) (Blk.mk 9 true (List.map Value.string (mkR R C g)))) 0 (some (Blk.mk 24 true [Value.slice (some ⟨3, 0, none⟩) R R, strs y (mkR R C g), Value.int .i64 (↑i : Int), Value.int .i64 (↑j : Int)]))) 0 (some (Blk.mk 24 true [Value.slice (some ⟨3, 0, none⟩) R R, Value.slice (some (Addr.mk (List.getD [4] 0 0) 0 none)) R R, Value.int .i64 (↑i : Int), Value.int .i64 (↑j : Int)]))) ?_
  refine WpOps.nil (thenK_at (Wp.seq (Wp.text ?_)))
  refine kp 7 (.func (Fn.func 65) #[] #[]) ?_
  refine WpOps.nil (thenK_at (Wp.seq (Wp.seq (Wp.text ?_))))
  refine kp 27 (.pointer (some ⟨1, 0, none⟩)) ?_
  refine kp 28 (.int IntKind.i64 2) ?_
  refine WpOps.nil (thenK_at (Wp.block (Wp.seq (Wp.text ?_))))
  refine kp 30 (.bool false) ?_
  refine kp 29 (.bool false) ?_
  refine WpOps.nil (thenK_at (off' (Wp.seq (Wp.text ?_))))
  refine kp 38 (.bool false) ?_
  refine kp 37 (.bool false) ?_
  refine WpOps.nil (thenK_at (off' (Wp.seq (Wp.text ?_))))
  refine kp 45 (.bool true) ?_
  refine kp 44 (.bool true) ?_
  refine WpOps.nil (thenK_at (on' ?_))
  refine Wp.region (by kernel_rfl) ?_
  refine kp 46 (.pointer (some ⟨0, 2, none⟩)) ?_
  refine kp 47 (.int IntKind.i64 (↑i : Int)) ?_
  refine kp 48 (.pointer (some ⟨0, 3, none⟩)) ?_
  refine kp 49 (.int IntKind.i64 (↑j : Int)) ?_
  refine kp 50 (.func (Fn.func 65) #[] #[]) ?_
  refine kp 51 (.int IntKind.i64 (↑(ByteArray.size (rowAt (mkR R C f) 0)) : Int)) ?_
  refine kp 52 (.pointer (some ⟨0, 3, none⟩)) ?_
  refine kp 53 (.int IntKind.i64 (↑j : Int)) ?_
  refine kp 54 (.int IntKind.i64 (IntKind.wrap .i64 ((↑(ByteArray.size (rowAt (mkR R C f) 0)) : Int) - (↑j : Int)))) ?_
  refine clr 55 65 [Value.int .i64 (IntKind.wrap .i64 ((↑(ByteArray.size (rowAt (mkR R C f) 0)) : Int) - (↑j : Int)))] ?_
  refine WpCall.lent [] (c3) (by decide) trivial (by kernel_rfl) (Value.string (fillS 32 (C - j))) ([]) .nil (by kernel_rfl) (Heap.ro (Heap.set (Heap.set (Heap.alloc (Heap.merge (Heap.alloc (Heap.alloc (Heap.alloc Heap.none (Blk.mk 24 true [strs x (mkR R C f), strs y (mkR R C g), Value.int IntKind.i64 (↑i : Int), Value.int IntKind.i64 (↑j : Int)])) (Blk.mk 26 true [Value.int IntKind.i64 2, Value.int IntKind.i64 row, Value.int IntKind.i64 col, Value.int IntKind.i64 n, Value.string t])) (Blk.mk 24 true [Value.slice none 0 0, Value.slice none 0 0, Value.int IntKind.i64 0, Value.int IntKind.i64 0])) (Heap.alloc (Heap.ro (Heap.alloc (Heap.alloc (Heap.alloc Heap.none (Blk.mk 24 true [strs x (mkR R C f), strs y (mkR R C g), Value.int IntKind.i64 (↑i : Int), Value.int IntKind.i64 (↑j : Int)])) (Blk.mk 26 true [Value.int IntKind.i64 2, Value.int IntKind.i64 row, Value.int IntKind.i64 col, Value.int IntKind.i64 n, Value.string t])) (Blk.mk 24 true [Value.slice none 0 0, Value.slice none 0 0, Value.int IntKind.i64 0, Value.int IntKind.i64 0]))) (Blk.mk 9 true (List.map Value.string (mkR R C f))))) (Blk.mk 9 true (List.map Value.string (mkR R C g)))) 0 (some (Blk.mk 24 true [Value.slice (some (Addr.mk 3 0 none)) R R, strs y (mkR R C g), Value.int IntKind.i64 (↑i : Int), Value.int IntKind.i64 (↑j : Int)]))) 0 (some (Blk.mk 24 true [Value.slice (some (Addr.mk 3 0 none)) R R, Value.slice (some (Addr.mk 4 0 none)) R R, Value.int IntKind.i64 (↑i : Int), Value.int IntKind.i64 (↑j : Int)])))) (by kernel_rfl) ?_
  refine cl 56 67 [Value.pointer (some ⟨0, 0, none⟩), Value.int .i64 (↑i : Int), Value.int .i64 (↑j : Int), Value.string (fillS 32 (C - j)), Value.int .i64 0] ?_
  refine WpCall.lent [0, 3, 4] (c4) (by decide) ⟨⟨[Value.slice (some (Addr.mk 3 0 none)) R R, Value.slice (some (Addr.mk (List.getD [4] 0 0) 0 none)) R R, Value.int IntKind.i64 (↑i : Int), Value.int IntKind.i64 (↑j : Int)], (by kernel_rfl), (by kernel_rfl), (by kernel_rfl)⟩, ⟨⟨_, (by kernel_rfl), CellsOk.eq rfl (by assumption)⟩, ⟨⟨_, (by kernel_rfl), CellsOk.eq rfl (by assumption)⟩, trivial⟩⟩⟩ (by kernel_rfl) (Value.tuple #[]) ([Blk.mk 24 true [Value.slice (some (Addr.mk (List.getD [0, 3, 4] 1 0) 0 none)) R R, Value.slice (some (Addr.mk (List.getD [0, 3, 4] 2 0) 0 none)) R R, Value.int IntKind.i64 (↑i : Int), Value.int IntKind.i64 (↑j : Int)], Blk.mk 9 true (List.map Value.string (mkR R C (putF f i j (fillS 32 (C - j))))), Blk.mk 9 true (List.map Value.string (mkR R C (putF g i j (fillS (UInt8.ofNat (48 + 0)) (C - j)))))]) (.cons (by kernel_rfl) (.cons (unB_flat (by assumption)) (.cons (unB_flat (by assumption)) .nil))) (by kernel_rfl) (Heap.set (Heap.set (Heap.set (Heap.merge (Heap.set (Heap.set (Heap.alloc (Heap.merge (Heap.alloc (Heap.alloc (Heap.alloc Heap.none (Blk.mk 24 true [strs x (mkR R C f), strs y (mkR R C g), Value.int IntKind.i64 (↑i : Int), Value.int IntKind.i64 (↑j : Int)])) (Blk.mk 26 true [Value.int IntKind.i64 2, Value.int IntKind.i64 row, Value.int IntKind.i64 col, Value.int IntKind.i64 n, Value.string t])) (Blk.mk 24 true [Value.slice none 0 0, Value.slice none 0 0, Value.int IntKind.i64 0, Value.int IntKind.i64 0])) (Heap.alloc (Heap.ro (Heap.alloc (Heap.alloc (Heap.alloc Heap.none (Blk.mk 24 true [strs x (mkR R C f), strs y (mkR R C g), Value.int IntKind.i64 (↑i : Int), Value.int IntKind.i64 (↑j : Int)])) (Blk.mk 26 true [Value.int IntKind.i64 2, Value.int IntKind.i64 row, Value.int IntKind.i64 col, Value.int IntKind.i64 n, Value.string t])) (Blk.mk 24 true [Value.slice none 0 0, Value.slice none 0 0, Value.int IntKind.i64 0, Value.int IntKind.i64 0]))) (Blk.mk 9 true (List.map Value.string (mkR R C f))))) (Blk.mk 9 true (List.map Value.string (mkR R C g)))) 0 (some (Blk.mk 24 true [Value.slice (some (Addr.mk 3 0 none)) R R, strs y (mkR R C g), Value.int IntKind.i64 (↑i : Int), Value.int IntKind.i64 (↑j : Int)]))) 0 (some (Blk.mk 24 true [Value.slice (some (Addr.mk 3 0 none)) R R, Value.slice (some (Addr.mk 4 0 none)) R R, Value.int IntKind.i64 (↑i : Int), Value.int IntKind.i64 (↑j : Int)]))) (Heap.ro (Heap.set (Heap.set (Heap.alloc (Heap.merge (Heap.alloc (Heap.alloc (Heap.alloc Heap.none (Blk.mk 24 true [strs x (mkR R C f), strs y (mkR R C g), Value.int IntKind.i64 (↑i : Int), Value.int IntKind.i64 (↑j : Int)])) (Blk.mk 26 true [Value.int IntKind.i64 2, Value.int IntKind.i64 row, Value.int IntKind.i64 col, Value.int IntKind.i64 n, Value.string t])) (Blk.mk 24 true [Value.slice none 0 0, Value.slice none 0 0, Value.int IntKind.i64 0, Value.int IntKind.i64 0])) (Heap.alloc (Heap.ro (Heap.alloc (Heap.alloc (Heap.alloc Heap.none (Blk.mk 24 true [strs x (mkR R C f), strs y (mkR R C g), Value.int IntKind.i64 (↑i : Int), Value.int IntKind.i64 (↑j : Int)])) (Blk.mk 26 true [Value.int IntKind.i64 2, Value.int IntKind.i64 row, Value.int IntKind.i64 col, Value.int IntKind.i64 n, Value.string t])) (Blk.mk 24 true [Value.slice none 0 0, Value.slice none 0 0, Value.int IntKind.i64 0, Value.int IntKind.i64 0]))) (Blk.mk 9 true (List.map Value.string (mkR R C f))))) (Blk.mk 9 true (List.map Value.string (mkR R C g)))) 0 (some (Blk.mk 24 true [Value.slice (some (Addr.mk 3 0 none)) R R, strs y (mkR R C g), Value.int IntKind.i64 (↑i : Int), Value.int IntKind.i64 (↑j : Int)]))) 0 (some (Blk.mk 24 true [Value.slice (some (Addr.mk 3 0 none)) R R, Value.slice (some (Addr.mk 4 0 none)) R R, Value.int IntKind.i64 (↑i : Int), Value.int IntKind.i64 (↑j : Int)]))))) 0 (some (Blk.mk 24 true [Value.slice (some (Addr.mk 3 0 none)) R R, Value.slice (some (Addr.mk 4 0 none)) R R, Value.int IntKind.i64 (↑i : Int), Value.int IntKind.i64 (↑j : Int)]))) 3 (some (Blk.mk 9 true (List.map Value.string (mkR R C (putF f i j (fillS 32 (C - j)))))))) 4 (some (Blk.mk 9 true (List.map Value.string (mkR R C (putF g i j (fillS (UInt8.ofNat 48) (C - j)))))))) (by kernel_rfl) ?_
  refine WpOps.nil (blockK_norm (thenK_at (Wp.seq (Wp.text ?_))))
  refine kp 123 (.agg #[Value.slice (some ⟨3, 0, none⟩) R R, Value.slice (some ⟨4, 0, none⟩) R R, Value.int .i64 (↑i : Int), Value.int .i64 (↑j : Int)]) ?_
  refine ld (.tuple #[]) (2) (Blk.mk 24 true [Value.slice (some ⟨3, 0, none⟩) R R, Value.slice (some ⟨4, 0, none⟩) R R, Value.int .i64 (↑i : Int), Value.int .i64 (↑j : Int)]) ?_
  refine WpOps.nil (thenK_at (Wp.ret ?_))
  refine endK_retn [Value.agg #[Value.slice (some (Addr.mk 3 0 none)) R R, Value.slice (some (Addr.mk 4 0 none)) R R, Value.int IntKind.i64 (↑i : Int), Value.int IntKind.i64 (↑j : Int)]] (Value.agg #[Value.slice (some (Addr.mk 3 0 none)) R R, Value.slice (some (Addr.mk 4 0 none)) R R, Value.int IntKind.i64 (↑i : Int), Value.int IntKind.i64 (↑j : Int)]) (by kernel_rfl) (by kernel_rfl) ?_
  exact ice_dv (mkR R C (putF f i j (fillS 32 (C - j)))) (mkR R C (putF g i j (fillS 48 (C - j)))) i j mkR_len.symm mkR_len.symm (by kernel_rfl) (by kernel_rfl)
end Go.Proofs.Ytlejgfeoffhjoaa.D
