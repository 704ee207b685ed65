/- The law ScreenApplies. -/
import Derived.Test.YtlejgfeoffhjoaaFwLem
import Derived.Test.YtlejgfeoffhjoaaF34w
namespace Go.Proofs.Ytlejgfeoffhjoaa.D
open Go.Fw Go.RowKit

theorem f3 : E.funcs 3 = some Try.f3 := by kernel_rfl
set_option maxHeartbeats 4000000 in
theorem law3_core (x y x1 y1 x2 y2 : Nat) (r m r1 m1 r2 m2 : List ByteArray) (i j op row col n i1 j1 i2 j2 ea eb : Int) (v : Bool) (t : ByteArray) (lr : r.length ≤ 8796093022208) (lm : m.length ≤ 8796093022208)
    (lr1 : r1.length ≤ 8796093022208) (lm1 : m1.length ≤ 8796093022208) (lr2 : r2.length ≤ 8796093022208) (lm2 : m2.length ≤ 8796093022208)
    (cA : Fun E 9 [dv x y r m i j, uv op row col n t] (.tuple #[dv x1 y1 r1 m1 i1 j1, .int .i64 ea])) (cB : Fun E 10 [dv 0 0 r m i j, uv op row col n t] (.tuple #[dv x1 y1 r1 m1 i1 j1, .int .i64 ea]))
    (cX : Fun E 13 [.int .i64 row, .int .i64 col] (.tuple #[dv x2 y2 r2 m2 i2 j2, .int .i64 eb])) (cY : Fun E 14 [.int .i64 row, .int .i64 col] (.tuple #[dv x2 y2 r2 m2 i2 j2, .int .i64 eb]))
    (cV : Fun E 15 [dv x y r m i j] (.bool v)) (cW : Fun E 16 [dv 0 0 r m i j] (.bool v)) :
    Fun E 3 [dv x y r m i j, uv op row col n t] (.bool true) := by
  have cT := to11 x y r m i j lr lm
  have cU := up12 op row col n t
  have cT1 := to11 x1 y1 r1 m1 i1 j1 lr1 lm1
  have cT2 := to11 x2 y2 r2 m2 i2 j2 lr2 lm2
  have cS1 := same17 0 0 x1 y1 r1 m1 i1 j1 lr1 lm1
  have cS2 := same17 0 0 x2 y2 r2 m2 i2 j2 lr2 lm2
  have cS := sane18
  have b1 : (v == v) = true := beq_self_eq_true v
  have b2 : (ea == ea) = true := beq_self_eq_true ea
  have b3 : (eb == eb) = true := beq_self_eq_true eb
  refine Fun.of f3 rfl (of_decide_eq_true (by kernel_rfl)) rfl ?_
  simp only [dv, uv, strs] at cA cB cX cY cV cW cT cU cT1 cT2 cS1 cS2 ⊢
  refine Wp.seq (Wp.text ?_)
  refine md 2 (.pointer (some ⟨0, 0, none⟩)) (Blk.mk 24 true [Value.iface 9 (Value.iface (List.length r) (Value.iface x (Value.agg (List.toArray (List.map Value.string r))))), Value.iface 9 (Value.iface (List.length m) (Value.iface y (Value.agg (List.toArray (List.map Value.string m))))), Value.int .i64 i, Value.int .i64 j]) ?_
  refine md 3 (.pointer (some ⟨1, 0, none⟩)) (Blk.mk 26 true [Value.int .i64 op, Value.int .i64 row, Value.int .i64 col, Value.int .i64 n, Value.string t]) ?_
  refine kp 4 (.bool false) ?_
  refine WpOps.nil (thenK_at (Wp.seq (Wp.text ?_)))
  refine kp 14 (.agg #[Value.iface 9 (Value.iface (List.length r) (Value.iface x (Value.agg (List.toArray (List.map Value.string r))))), Value.iface 9 (Value.iface (List.length m) (Value.iface y (Value.agg (List.toArray (List.map Value.string m))))), Value.int .i64 i, Value.int .i64 j]) ?_
  refine kp 15 (.agg #[Value.int .i64 op, Value.int .i64 row, Value.int .i64 col, Value.int .i64 n, Value.string t]) ?_
  refine fr 16 9 [Value.agg #[Value.iface 9 (Value.iface (List.length r) (Value.iface x (Value.agg (List.toArray (List.map Value.string r))))), Value.iface 9 (Value.iface (List.length m) (Value.iface y (Value.agg (List.toArray (List.map Value.string m))))), Value.int .i64 i, Value.int .i64 j], Value.agg #[Value.int .i64 op, Value.int .i64 row, Value.int .i64 col, Value.int .i64 n, Value.string t]] ?_
  refine WpFun.of (cA) ?_
  refine kp 13 (.tuple #[Value.agg #[FS 9 (List.length r1) x1 (List.toArray (List.map Value.string r1)), FS 9 (List.length m1) y1 (List.toArray (List.map Value.string m1)), Value.int .i64 i1, Value.int .i64 j1], Value.int .i64 ea]) ?_
  refine kp 17 (.agg #[FS 9 (List.length r1) x1 (List.toArray (List.map Value.string r1)), FS 9 (List.length m1) y1 (List.toArray (List.map Value.string m1)), Value.int .i64 i1, Value.int .i64 j1]) ?_
  refine kp 18 (.int IntKind.i64 ea) ?_
  refine md 5 (.pointer (some ⟨2, 0, none⟩)) (Blk.mk 24 true [Value.slice none 0 0, Value.slice none 0 0, Value.int .i64 0, Value.int .i64 0]) ?_
  refine ld (.tuple #[]) (2) (Blk.mk 24 true [Value.iface 9 (Value.iface (List.length r1) (Value.iface x1 (Value.agg (List.toArray (List.map Value.string r1))))), Value.iface 9 (Value.iface (List.length m1) (Value.iface y1 (Value.agg (List.toArray (List.map Value.string m1))))), Value.int .i64 i1, Value.int .i64 j1]) ?_
  refine kp 6 (.int IntKind.i64 ea) ?_
  refine WpOps.nil (thenK_at (Wp.seq ?_))
  refine Wp.region (by kernel_rfl) ?_
  refine kp 20 (.agg #[Value.iface 9 (Value.iface (List.length r) (Value.iface x (Value.agg (List.toArray (List.map Value.string r))))), Value.iface 9 (Value.iface (List.length m) (Value.iface y (Value.agg (List.toArray (List.map Value.string m))))), Value.int .i64 i, Value.int .i64 j]) ?_
  refine fr 21 11 [Value.agg #[Value.iface 9 (Value.iface (List.length r) (Value.iface x (Value.agg (List.toArray (List.map Value.string r))))), Value.iface 9 (Value.iface (List.length m) (Value.iface y (Value.agg (List.toArray (List.map Value.string m))))), Value.int .i64 i, Value.int .i64 j]] ?_
  refine WpFun.of (cT) ?_
  refine kp 22 (.agg #[Value.int .i64 op, Value.int .i64 row, Value.int .i64 col, Value.int .i64 n, Value.string t]) ?_
  refine fr 23 12 [Value.agg #[Value.int .i64 op, Value.int .i64 row, Value.int .i64 col, Value.int .i64 n, Value.string t]] ?_
  refine WpFun.of (cU) ?_
  refine fr 24 10 [Value.agg #[FS 9 (List.length r) 0 (List.toArray (List.map Value.string r)), FS 9 (List.length m) 0 (List.toArray (List.map Value.string m)), Value.int .i64 i, Value.int .i64 j], Value.agg #[Value.int .i64 op, Value.int .i64 row, Value.int .i64 col, Value.int .i64 n, Value.string t]] ?_
  refine WpFun.of (cB) ?_
  refine kp 19 (.tuple #[Value.agg #[FS 9 (List.length r1) x1 (List.toArray (List.map Value.string r1)), FS 9 (List.length m1) y1 (List.toArray (List.map Value.string m1)), Value.int .i64 i1, Value.int .i64 j1], Value.int .i64 ea]) ?_
  refine kp 25 (.agg #[FS 9 (List.length r1) x1 (List.toArray (List.map Value.string r1)), FS 9 (List.length m1) y1 (List.toArray (List.map Value.string m1)), Value.int .i64 i1, Value.int .i64 j1]) ?_
  refine kp 26 (.int IntKind.i64 ea) ?_
  refine md 7 (.pointer (some ⟨3, 0, none⟩)) (Blk.mk 30 true [Value.slice none 0 0, Value.slice none 0 0, Value.int .i64 0, Value.int .i64 0]) ?_
  refine ld (.tuple #[]) (3) (Blk.mk 30 true [Value.iface 9 (Value.iface (List.length r1) (Value.iface x1 (Value.agg (List.toArray (List.map Value.string r1))))), Value.iface 9 (Value.iface (List.length m1) (Value.iface y1 (Value.agg (List.toArray (List.map Value.string m1))))), Value.int .i64 i1, Value.int .i64 j1]) ?_
  refine kp 8 (.int IntKind.i64 ea) ?_
  refine WpOps.nil (thenK_at (Wp.seq (Wp.text ?_)))
  refine kp 28 (.pointer (some ⟨1, 1, none⟩)) ?_
  refine kp 29 (.int IntKind.i64 row) ?_
  refine kp 30 (.pointer (some ⟨1, 2, none⟩)) ?_
  refine kp 31 (.int IntKind.i64 col) ?_
  refine fr 32 13 [Value.int .i64 row, Value.int .i64 col] ?_
  refine WpFun.of (cX) ?_
  refine kp 27 (.tuple #[Value.agg #[FS 9 (List.length r2) x2 (List.toArray (List.map Value.string r2)), FS 9 (List.length m2) y2 (List.toArray (List.map Value.string m2)), Value.int .i64 i2, Value.int .i64 j2], Value.int .i64 eb]) ?_
  refine kp 33 (.agg #[FS 9 (List.length r2) x2 (List.toArray (List.map Value.string r2)), FS 9 (List.length m2) y2 (List.toArray (List.map Value.string m2)), Value.int .i64 i2, Value.int .i64 j2]) ?_
  refine kp 34 (.int IntKind.i64 eb) ?_
  refine md 9 (.pointer (some ⟨4, 0, none⟩)) (Blk.mk 24 true [Value.slice none 0 0, Value.slice none 0 0, Value.int .i64 0, Value.int .i64 0]) ?_
  refine ld (.tuple #[]) (4) (Blk.mk 24 true [Value.iface 9 (Value.iface (List.length r2) (Value.iface x2 (Value.agg (List.toArray (List.map Value.string r2))))), Value.iface 9 (Value.iface (List.length m2) (Value.iface y2 (Value.agg (List.toArray (List.map Value.string m2))))), Value.int .i64 i2, Value.int .i64 j2]) ?_
  refine kp 10 (.int IntKind.i64 eb) ?_
  refine WpOps.nil (thenK_at (Wp.seq (Wp.text ?_)))
  refine kp 36 (.pointer (some ⟨1, 1, none⟩)) ?_
  refine kp 37 (.int IntKind.i64 row) ?_
  refine kp 38 (.pointer (some ⟨1, 2, none⟩)) ?_
  refine kp 39 (.int IntKind.i64 col) ?_
  refine fr 40 14 [Value.int .i64 row, Value.int .i64 col] ?_
  refine WpFun.of (cY) ?_
  refine kp 35 (.tuple #[Value.agg #[FS 9 (List.length r2) x2 (List.toArray (List.map Value.string r2)), FS 9 (List.length m2) y2 (List.toArray (List.map Value.string m2)), Value.int .i64 i2, Value.int .i64 j2], Value.int .i64 eb]) ?_
  refine kp 41 (.agg #[FS 9 (List.length r2) x2 (List.toArray (List.map Value.string r2)), FS 9 (List.length m2) y2 (List.toArray (List.map Value.string m2)), Value.int .i64 i2, Value.int .i64 j2]) ?_
  refine kp 42 (.int IntKind.i64 eb) ?_
  refine md 11 (.pointer (some ⟨5, 0, none⟩)) (Blk.mk 30 true [Value.slice none 0 0, Value.slice none 0 0, Value.int .i64 0, Value.int .i64 0]) ?_
  refine ld (.tuple #[]) (5) (Blk.mk 30 true [Value.iface 9 (Value.iface (List.length r2) (Value.iface x2 (Value.agg (List.toArray (List.map Value.string r2))))), Value.iface 9 (Value.iface (List.length m2) (Value.iface y2 (Value.agg (List.toArray (List.map Value.string m2))))), Value.int .i64 i2, Value.int .i64 j2]) ?_
  refine kp 12 (.int IntKind.i64 eb) ?_
  refine WpOps.nil (thenK_at (Wp.seq ?_))
  refine Wp.region (by kernel_rfl) ?_
  refine kp 43 (.agg #[Value.iface 9 (Value.iface (List.length r) (Value.iface x (Value.agg (List.toArray (List.map Value.string r))))), Value.iface 9 (Value.iface (List.length m) (Value.iface y (Value.agg (List.toArray (List.map Value.string m))))), Value.int .i64 i, Value.int .i64 j]) ?_
  refine fr 44 15 [Value.agg #[Value.iface 9 (Value.iface (List.length r) (Value.iface x (Value.agg (List.toArray (List.map Value.string r))))), Value.iface 9 (Value.iface (List.length m) (Value.iface y (Value.agg (List.toArray (List.map Value.string m))))), Value.int .i64 i, Value.int .i64 j]] ?_
  refine WpFun.of (cV) ?_
  refine kp 45 (.agg #[Value.iface 9 (Value.iface (List.length r) (Value.iface x (Value.agg (List.toArray (List.map Value.string r))))), Value.iface 9 (Value.iface (List.length m) (Value.iface y (Value.agg (List.toArray (List.map Value.string m))))), Value.int .i64 i, Value.int .i64 j]) ?_
  refine fr 46 11 [Value.agg #[Value.iface 9 (Value.iface (List.length r) (Value.iface x (Value.agg (List.toArray (List.map Value.string r))))), Value.iface 9 (Value.iface (List.length m) (Value.iface y (Value.agg (List.toArray (List.map Value.string m))))), Value.int .i64 i, Value.int .i64 j]] ?_
  refine WpFun.of (cT) ?_
  refine fr 47 16 [Value.agg #[FS 9 (List.length r) 0 (List.toArray (List.map Value.string r)), FS 9 (List.length m) 0 (List.toArray (List.map Value.string m)), Value.int .i64 i, Value.int .i64 j]] ?_
  refine WpFun.of (cW) ?_
  refine kp 48 (.bool true) ?_ (hop := fun _ => by_fact b1)
  refine kp 49 (.bool true) ?_
  refine kp 50 (.int IntKind.i64 ea) ?_
  refine kp 51 (.int IntKind.i64 ea) ?_
  refine kp 52 (.bool true) ?_ (hop := fun _ => by_fact b2)
  refine kp 53 (.bool true) ?_
  refine kp 54 (.bool true) ?_
  refine kp 55 (.int IntKind.i64 eb) ?_
  refine kp 56 (.int IntKind.i64 eb) ?_
  refine kp 57 (.bool true) ?_ (hop := fun _ => by_fact b3)
  refine kp 58 (.bool true) ?_
  refine kp 59 (.bool true) ?_
  refine kp 60 (.agg #[Value.iface 9 (Value.iface (List.length r1) (Value.iface x1 (Value.agg (List.toArray (List.map Value.string r1))))), Value.iface 9 (Value.iface (List.length m1) (Value.iface y1 (Value.agg (List.toArray (List.map Value.string m1))))), Value.int .i64 i1, Value.int .i64 j1]) ?_
  refine fr 61 11 [Value.agg #[Value.iface 9 (Value.iface (List.length r1) (Value.iface x1 (Value.agg (List.toArray (List.map Value.string r1))))), Value.iface 9 (Value.iface (List.length m1) (Value.iface y1 (Value.agg (List.toArray (List.map Value.string m1))))), Value.int .i64 i1, Value.int .i64 j1]] ?_
  refine WpFun.of (cT1) ?_
  refine kp 62 (.agg #[Value.iface 9 (Value.iface (List.length r1) (Value.iface x1 (Value.agg (List.toArray (List.map Value.string r1))))), Value.iface 9 (Value.iface (List.length m1) (Value.iface y1 (Value.agg (List.toArray (List.map Value.string m1))))), Value.int .i64 i1, Value.int .i64 j1]) ?_
  refine fr 63 17 [Value.agg #[FS 9 (List.length r1) 0 (List.toArray (List.map Value.string r1)), FS 9 (List.length m1) 0 (List.toArray (List.map Value.string m1)), Value.int .i64 i1, Value.int .i64 j1], Value.agg #[Value.iface 9 (Value.iface (List.length r1) (Value.iface x1 (Value.agg (List.toArray (List.map Value.string r1))))), Value.iface 9 (Value.iface (List.length m1) (Value.iface y1 (Value.agg (List.toArray (List.map Value.string m1))))), Value.int .i64 i1, Value.int .i64 j1]] ?_
  refine WpFun.of (cS1) ?_
  refine kp 64 (.bool true) ?_
  refine kp 65 (.bool true) ?_
  refine kp 66 (.agg #[Value.iface 9 (Value.iface (List.length r2) (Value.iface x2 (Value.agg (List.toArray (List.map Value.string r2))))), Value.iface 9 (Value.iface (List.length m2) (Value.iface y2 (Value.agg (List.toArray (List.map Value.string m2))))), Value.int .i64 i2, Value.int .i64 j2]) ?_
  refine fr 67 11 [Value.agg #[Value.iface 9 (Value.iface (List.length r2) (Value.iface x2 (Value.agg (List.toArray (List.map Value.string r2))))), Value.iface 9 (Value.iface (List.length m2) (Value.iface y2 (Value.agg (List.toArray (List.map Value.string m2))))), Value.int .i64 i2, Value.int .i64 j2]] ?_
  refine WpFun.of (cT2) ?_
  refine kp 68 (.agg #[Value.iface 9 (Value.iface (List.length r2) (Value.iface x2 (Value.agg (List.toArray (List.map Value.string r2))))), Value.iface 9 (Value.iface (List.length m2) (Value.iface y2 (Value.agg (List.toArray (List.map Value.string m2))))), Value.int .i64 i2, Value.int .i64 j2]) ?_
  refine fr 69 17 [Value.agg #[FS 9 (List.length r2) 0 (List.toArray (List.map Value.string r2)), FS 9 (List.length m2) 0 (List.toArray (List.map Value.string m2)), Value.int .i64 i2, Value.int .i64 j2], Value.agg #[Value.iface 9 (Value.iface (List.length r2) (Value.iface x2 (Value.agg (List.toArray (List.map Value.string r2))))), Value.iface 9 (Value.iface (List.length m2) (Value.iface y2 (Value.agg (List.toArray (List.map Value.string m2))))), Value.int .i64 i2, Value.int .i64 j2]] ?_
  refine WpFun.of (cS2) ?_
  refine kp 70 (.bool true) ?_
  refine kp 71 (.bool true) ?_
  refine fr 72 18 [] ?_
  refine WpFun.of (cS) ?_
  refine kp 73 (.bool true) ?_
  refine kp 4 (.bool true) ?_
  refine WpOps.nil (thenK_at (Wp.ret ?_))
  refine endK_retn [Value.bool true] (Value.bool true) (by kernel_rfl) (by kernel_rfl) ?_
  rfl
theorem apV_len (r m : List ByteArray) (i j op row col n : Int) (t : ByteArray) (h : ApOk r m i j op row col n t) : (mkR r.length (rowAt r 0).size (apD r m i j op row col n t).f).length ≤ 8796093022208 ∧ (mkR r.length (rowAt r 0).size (apD r m i j op row col n t).g).length ≤ 8796093022208 := by
  obtain ⟨⟨⟨g1, _⟩, _⟩, _⟩ := h
  rw [mkR_len, mkR_len]
  omega
theorem law3 (x y : Nat) (r m : List ByteArray) (i j op row col n : Int) (t : ByteArray) (hx : x = 2 → r = []) (hy : y = 2 → m = []) (hr : ∀ k, (rowAt r k).size ≤ 140737488351232) (hm : ∀ k, (rowAt m k).size ≤ 140737488351232) (lr : r.length ≤ 8796093022208) (lm : m.length ≤ 8796093022208) (ht : t.size ≤ 140737488351232) :
    Fun E 3 [dv x y r m i j, uv op row col n t] (.bool true) := by
  have cA := Apply9 x y r m i j op row col n t hx hy hr hm ht
  have cB := Apply10 0 0 r m i j op row col n t hr ht
  have cV := valid15 x y r m i j hr hm
  have cW := valid16 0 0 r m i j hr
  have cX := Blank13 row col
  have cY := Blank14 row col
  have nl : ([] : List ByteArray).length ≤ 8796093022208 := by decide
  by_cases hA : ApOk r m i j op row col n t
  · have e : ApV r m i j op row col n t = _ := if_pos hA
    obtain ⟨q1, q2⟩ := apV_len r m i j op row col n t hA
    rw [e] at cA cB
    by_cases hB : (1 ≤ row ∧ row ≤ 40) ∧ (1 ≤ col ∧ col ≤ 80)
    · have e2 : BlankV row col = _ := if_pos hB
      rw [e2] at cX cY
      exact law3_core x y 0 0 0 0 r m _ _ _ _ i j op row col n _ _ _ _ _ _ _ t lr lm q1 q2 (by rw [mkR_len]; omega) (by rw [mkR_len]; omega) cA cB cX cY cV cW
    · have e2 : BlankV row col = _ := if_neg hB
      rw [e2] at cX cY
      exact law3_core x y 0 0 2 2 r m _ _ _ _ i j op row col n _ _ _ _ _ _ _ t lr lm q1 q2 nl nl cA cB cX cY cV cW
  · have e : ApV r m i j op row col n t = _ := if_neg hA
    rw [e] at cA cB
    by_cases hB : (1 ≤ row ∧ row ≤ 40) ∧ (1 ≤ col ∧ col ≤ 80)
    · have e2 : BlankV row col = _ := if_pos hB
      rw [e2] at cX cY
      exact law3_core x y 2 2 0 0 r m _ _ _ _ i j op row col n _ _ _ _ _ _ _ t lr lm nl nl (by rw [mkR_len]; omega) (by rw [mkR_len]; omega) cA cB cX cY cV cW
    · have e2 : BlankV row col = _ := if_neg hB
      rw [e2] at cX cY
      exact law3_core x y 2 2 2 2 r m _ _ _ _ i j op row col n _ _ _ _ _ _ _ t lr lm nl nl nl nl cA cB cX cY cV cW
end Go.Proofs.Ytlejgfeoffhjoaa.D
