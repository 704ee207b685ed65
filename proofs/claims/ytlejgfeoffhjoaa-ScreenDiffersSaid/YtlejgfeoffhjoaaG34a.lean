/- The law ScreenDiffers, of every two displays. -/
import Derived.Test.YtlejgfeoffhjoaaFwLem
import Derived.Test.YtlejgfeoffhjoaaF34y
namespace Go.Proofs.Ytlejgfeoffhjoaa.D
open Go.Fw Go.RowKit

def zero_ups : Value := .tuple #[.slice none 0 0, .int .i64 1]
theorem nil_ups {ti : TI} (ht : E.types 26 = some ti) : NilV E zero_ups (.tuple #[FS 26 0 2 #[], .int .i64 1]) :=
  .tuple (.cons (.c (.inr ⟨rfl, 26, ti, ht, rfl⟩)) (.cons (.c (.inl rfl)) .nil))
theorem law5_f5 : E.funcs 5 = some Try.f5 := by kernel_rfl
set_option maxHeartbeats 4000000 in
/-- The first is none. -/
theorem law5_e1 (x y x' y' : Nat) (r m r' m' : List ByteArray) (i j i' j' : Int) (lr : r.length ≤ 8796093022208) (lm : m.length ≤ 8796093022208) (cV : Fun E 15 [dv x y r m i j] (.bool false)) (cV0 : Fun E 16 [dv 0 0 r m i j] (.bool false)) :
    Fun E 5 [dv x y r m i j, dv x' y' r' m' i' j'] (.bool true) := by
  have cD : Fun E 19 [dv x y r m i j, dv x' y' r' m' i' j'] (.tuple #[FS 26 0 2 #[], .int .i64 1]) := by
    refine Fun.ofN f19 rfl (of_decide_eq_true (by kernel_rfl)) rfl ?_
    unfold dv strs at cV ⊢
    refine Wp.seq (Wp.text ?_)
    refine md 2 (.pointer (some ⟨0, 0, none⟩)) (Blk.mk 24 true [Value.iface 9 (Value.iface (List.length r) (Value.iface x (Value.agg (List.toArray (List.map Value.string r))))), Value.iface 9 (Value.iface (List.length m) (Value.iface y (Value.agg (List.toArray (List.map Value.string m))))), Value.int .i64 i, Value.int .i64 j]) ?_
    refine md 3 (.pointer (some ⟨1, 0, none⟩)) (Blk.mk 24 true [Value.iface 9 (Value.iface (List.length r') (Value.iface x' (Value.agg (List.toArray (List.map Value.string r'))))), Value.iface 9 (Value.iface (List.length m') (Value.iface y' (Value.agg (List.toArray (List.map Value.string m'))))), Value.int .i64 i', Value.int .i64 j']) ?_
    refine kp 4 (.slice none 0 0) ?_
    refine kp 5 (.int IntKind.i64 0) ?_
    refine WpOps.nil (thenK_at (Wp.seq (Wp.seq ?_)))
    refine Wp.region (by kernel_rfl) ?_
    refine kp 9 (.agg #[Value.iface 9 (Value.iface (List.length r) (Value.iface x (Value.agg (List.toArray (List.map Value.string r))))), Value.iface 9 (Value.iface (List.length m) (Value.iface y (Value.agg (List.toArray (List.map Value.string m))))), Value.int .i64 i, Value.int .i64 j]) ?_
    refine fr 10 15 [Value.agg #[Value.iface 9 (Value.iface (List.length r) (Value.iface x (Value.agg (List.toArray (List.map Value.string r))))), Value.iface 9 (Value.iface (List.length m) (Value.iface y (Value.agg (List.toArray (List.map Value.string m))))), Value.int .i64 i, Value.int .i64 j]] ?_
    refine WpFun.of (cV) ?_
    refine kp 11 (.bool true) ?_
    refine kp 12 (.bool true) ?_
    refine um 13 ?_
    refine um 14 ?_
    refine um 15 ?_
    refine kp 16 (.bool true) ?_
    refine kp 17 (.bool true) ?_
    refine um 18 ?_
    refine um 19 ?_
    refine um 20 ?_
    refine um 21 ?_
    refine um 22 ?_
    refine um 23 ?_
    refine um 24 ?_
    refine kp 25 (.bool true) ?_
    refine kp 26 (.bool true) ?_
    refine um 27 ?_
    refine um 28 ?_
    refine um 29 ?_
    refine um 30 ?_
    refine um 31 ?_
    refine um 32 ?_
    refine um 33 ?_
    refine um 34 ?_
    refine um 35 ?_
    refine um 36 ?_
    refine um 37 ?_
    refine kp 38 (.bool true) ?_
    refine WpOps.nil (thenK_at (on' (Wp.seq (Wp.text ?_))))
    refine kp 4 (.slice none 0 0) ?_
    refine kp 5 (.int IntKind.i64 1) ?_
    refine WpOps.nil (thenK_at (Wp.ret (thenK_ret ?_)))
    refine endK_retn [Value.slice none 0 0, Value.int IntKind.i64 1] (Value.tuple #[Value.slice none 0 0, Value.int IntKind.i64 1]) (by kernel_rfl) (by kernel_rfl) ?_
    obtain ⟨ti, ht⟩ := types26
    exact ⟨zero_ups, by kernel_rfl, nil_ups ht⟩
  refine Fun.of law5_f5 rfl (of_decide_eq_true (by kernel_rfl)) rfl ?_
  have cT := to11 x y r m i j lr lm
  have cS := sane18
  unfold dv strs at cD cT cV0 ⊢
  refine Wp.seq (Wp.text ?_)
  refine md 2 (.pointer (some ⟨0, 0, none⟩)) (Blk.mk 24 true [Value.iface 9 (Value.iface (List.length r) (Value.iface x (Value.agg (List.toArray (List.map Value.string r))))), Value.iface 9 (Value.iface (List.length m) (Value.iface y (Value.agg (List.toArray (List.map Value.string m))))), Value.int .i64 i, Value.int .i64 j]) ?_
  refine md 3 (.pointer (some ⟨1, 0, none⟩)) (Blk.mk 24 true [Value.iface 9 (Value.iface (List.length r') (Value.iface x' (Value.agg (List.toArray (List.map Value.string r'))))), Value.iface 9 (Value.iface (List.length m') (Value.iface y' (Value.agg (List.toArray (List.map Value.string m'))))), Value.int .i64 i', Value.int .i64 j']) ?_
  refine kp 4 (.bool false) ?_
  refine WpOps.nil (thenK_at (Wp.seq (Wp.text ?_)))
  refine kp 11 (.agg #[Value.iface 9 (Value.iface (List.length r) (Value.iface x (Value.agg (List.toArray (List.map Value.string r))))), Value.iface 9 (Value.iface (List.length m) (Value.iface y (Value.agg (List.toArray (List.map Value.string m))))), Value.int .i64 i, Value.int .i64 j]) ?_
  refine kp 12 (.agg #[Value.iface 9 (Value.iface (List.length r') (Value.iface x' (Value.agg (List.toArray (List.map Value.string r'))))), Value.iface 9 (Value.iface (List.length m') (Value.iface y' (Value.agg (List.toArray (List.map Value.string m'))))), Value.int .i64 i', Value.int .i64 j']) ?_
  refine fr 13 19 [Value.agg #[Value.iface 9 (Value.iface (List.length r) (Value.iface x (Value.agg (List.toArray (List.map Value.string r))))), Value.iface 9 (Value.iface (List.length m) (Value.iface y (Value.agg (List.toArray (List.map Value.string m))))), Value.int .i64 i, Value.int .i64 j], Value.agg #[Value.iface 9 (Value.iface (List.length r') (Value.iface x' (Value.agg (List.toArray (List.map Value.string r'))))), Value.iface 9 (Value.iface (List.length m') (Value.iface y' (Value.agg (List.toArray (List.map Value.string m'))))), Value.int .i64 i', Value.int .i64 j']] ?_
  refine WpFun.of (cD) ?_
  refine kp 10 (.tuple #[Value.iface 26 (Value.iface 0 (Value.iface 2 (Value.agg #[]))), Value.int .i64 1]) ?_
  refine kp 14 (.iface 26 (Value.iface 0 (Value.iface 2 (Value.agg #[])))) ?_
  refine kp 15 (.int IntKind.i64 1) ?_
  refine kp 5 (.iface 26 (Value.iface 0 (Value.iface 2 (Value.agg #[])))) ?_
  refine kp 6 (.int IntKind.i64 1) ?_
  refine WpOps.nil (thenK_at (Wp.seq (Wp.seq ?_)))
  refine Wp.region (by kernel_rfl) ?_
  refine kp 16 (.agg #[Value.iface 9 (Value.iface (List.length r) (Value.iface x (Value.agg (List.toArray (List.map Value.string r))))), Value.iface 9 (Value.iface (List.length m) (Value.iface y (Value.agg (List.toArray (List.map Value.string m))))), Value.int .i64 i, Value.int .i64 j]) ?_
  refine fr 17 11 [Value.agg #[Value.iface 9 (Value.iface (List.length r) (Value.iface x (Value.agg (List.toArray (List.map Value.string r))))), Value.iface 9 (Value.iface (List.length m) (Value.iface y (Value.agg (List.toArray (List.map Value.string m))))), Value.int .i64 i, Value.int .i64 j]] ?_
  refine WpFun.of (cT) ?_
  refine fr 18 16 [Value.agg #[FS 9 (List.length r) 0 (List.toArray (List.map Value.string r)), FS 9 (List.length m) 0 (List.toArray (List.map Value.string m)), Value.int .i64 i, Value.int .i64 j]] ?_
  refine WpFun.of (cV0) ?_
  refine kp 19 (.bool true) ?_
  refine kp 20 (.bool true) ?_
  refine um 21 ?_
  refine um 22 ?_
  refine um 23 ?_
  refine um 24 ?_
  refine kp 25 (.bool true) ?_
  refine kp 26 (.bool true) ?_
  refine um 27 ?_
  refine um 28 ?_
  refine um 29 ?_
  refine um 30 ?_
  refine um 31 ?_
  refine um 32 ?_
  refine um 33 ?_
  refine kp 34 (.bool true) ?_
  refine kp 35 (.bool true) ?_
  refine um 36 ?_
  refine um 37 ?_
  refine um 38 ?_
  refine um 39 ?_
  refine um 40 ?_
  refine um 41 ?_
  refine um 42 ?_
  refine um 43 ?_
  refine um 44 ?_
  refine um 45 ?_
  refine um 46 ?_
  refine kp 47 (.bool true) ?_
  refine WpOps.nil (thenK_at (on' (Wp.seq (Wp.text ?_))))
  refine kp 48 (.int IntKind.i64 1) ?_
  refine kp 49 (.bool true) ?_
  refine kp 50 (.bool true) ?_
  refine kp 51 (.iface 26 (Value.iface 0 (Value.iface 2 (Value.agg #[])))) ?_
  refine kp 52 (.int IntKind.i64 (↑0 : Int)) ?_
  refine kp 53 (.bool true) ?_
  refine kp 54 (.bool true) ?_
  refine kp 55 (.bool true) ?_
  refine fr 56 18 [] ?_
  refine WpFun.of (cS) ?_
  refine kp 57 (.bool true) ?_
  refine kp 4 (.bool true) ?_
  refine WpOps.nil (thenK_at (Wp.ret (thenK_ret ?_)))
  refine endK_retn [Value.bool true] (Value.bool true) (by kernel_rfl) (by kernel_rfl) ?_
  rfl
set_option maxHeartbeats 4000000 in
/-- The second is none. -/
theorem law5_e2 (x y x' y' : Nat) (r m r' m' : List ByteArray) (i j i' j' : Int) (lr : r.length ≤ 8796093022208) (lm : m.length ≤ 8796093022208) (lr' : r'.length ≤ 8796093022208) (lm' : m'.length ≤ 8796093022208) (cV : Fun E 15 [dv x y r m i j] (.bool true)) (cV0 : Fun E 16 [dv 0 0 r m i j] (.bool true))
    (cW : Fun E 15 [dv x' y' r' m' i' j'] (.bool false)) (cW0 : Fun E 16 [dv 0 0 r' m' i' j'] (.bool false)) :
    Fun E 5 [dv x y r m i j, dv x' y' r' m' i' j'] (.bool true) := by
  have cD : Fun E 19 [dv x y r m i j, dv x' y' r' m' i' j'] (.tuple #[FS 26 0 2 #[], .int .i64 1]) := by
    refine Fun.ofN f19 rfl (of_decide_eq_true (by kernel_rfl)) rfl ?_
    unfold dv strs at cV cW ⊢
    refine Wp.seq (Wp.text ?_)
    refine md 2 (.pointer (some ⟨0, 0, none⟩)) (Blk.mk 24 true [Value.iface 9 (Value.iface (List.length r) (Value.iface x (Value.agg (List.toArray (List.map Value.string r))))), Value.iface 9 (Value.iface (List.length m) (Value.iface y (Value.agg (List.toArray (List.map Value.string m))))), Value.int .i64 i, Value.int .i64 j]) ?_
    refine md 3 (.pointer (some ⟨1, 0, none⟩)) (Blk.mk 24 true [Value.iface 9 (Value.iface (List.length r') (Value.iface x' (Value.agg (List.toArray (List.map Value.string r'))))), Value.iface 9 (Value.iface (List.length m') (Value.iface y' (Value.agg (List.toArray (List.map Value.string m'))))), Value.int .i64 i', Value.int .i64 j']) ?_
    refine kp 4 (.slice none 0 0) ?_
    refine kp 5 (.int IntKind.i64 0) ?_
    refine WpOps.nil (thenK_at (Wp.seq (Wp.seq ?_)))
    refine Wp.region (by kernel_rfl) ?_
    refine kp 9 (.agg #[Value.iface 9 (Value.iface (List.length r) (Value.iface x (Value.agg (List.toArray (List.map Value.string r))))), Value.iface 9 (Value.iface (List.length m) (Value.iface y (Value.agg (List.toArray (List.map Value.string m))))), Value.int .i64 i, Value.int .i64 j]) ?_
    refine fr 10 15 [Value.agg #[Value.iface 9 (Value.iface (List.length r) (Value.iface x (Value.agg (List.toArray (List.map Value.string r))))), Value.iface 9 (Value.iface (List.length m) (Value.iface y (Value.agg (List.toArray (List.map Value.string m))))), Value.int .i64 i, Value.int .i64 j]] ?_
    refine WpFun.of (cV) ?_
    refine kp 11 (.bool false) ?_
    refine kp 12 (.bool false) ?_
    refine kp 13 (.agg #[Value.iface 9 (Value.iface (List.length r') (Value.iface x' (Value.agg (List.toArray (List.map Value.string r'))))), Value.iface 9 (Value.iface (List.length m') (Value.iface y' (Value.agg (List.toArray (List.map Value.string m'))))), Value.int .i64 i', Value.int .i64 j']) ?_
    refine fr 14 15 [Value.agg #[Value.iface 9 (Value.iface (List.length r') (Value.iface x' (Value.agg (List.toArray (List.map Value.string r'))))), Value.iface 9 (Value.iface (List.length m') (Value.iface y' (Value.agg (List.toArray (List.map Value.string m'))))), Value.int .i64 i', Value.int .i64 j']] ?_
    refine WpFun.of (cW) ?_
    refine kp 15 (.bool true) ?_
    refine kp 16 (.bool true) ?_
    refine kp 17 (.bool true) ?_
    refine um 18 ?_
    refine um 19 ?_
    refine um 20 ?_
    refine um 21 ?_
    refine um 22 ?_
    refine um 23 ?_
    refine um 24 ?_
    refine kp 25 (.bool true) ?_
    refine kp 26 (.bool true) ?_
    refine um 27 ?_
    refine um 28 ?_
    refine um 29 ?_
    refine um 30 ?_
    refine um 31 ?_
    refine um 32 ?_
    refine um 33 ?_
    refine um 34 ?_
    refine um 35 ?_
    refine um 36 ?_
    refine um 37 ?_
    refine kp 38 (.bool true) ?_
    refine WpOps.nil (thenK_at (on' (Wp.seq (Wp.text ?_))))
    refine kp 4 (.slice none 0 0) ?_
    refine kp 5 (.int IntKind.i64 1) ?_
    refine WpOps.nil (thenK_at (Wp.ret (thenK_ret ?_)))
    refine endK_retn [Value.slice none 0 0, Value.int IntKind.i64 1] (Value.tuple #[Value.slice none 0 0, Value.int IntKind.i64 1]) (by kernel_rfl) (by kernel_rfl) ?_
    obtain ⟨ti, ht⟩ := types26
    exact ⟨zero_ups, by kernel_rfl, nil_ups ht⟩
  refine Fun.of law5_f5 rfl (of_decide_eq_true (by kernel_rfl)) rfl ?_
  have cT := to11 x y r m i j lr lm
  have cT' := to11 x' y' r' m' i' j' lr' lm'
  have cS := sane18
  unfold dv strs at cD cT cT' cV0 cW0 ⊢
  refine Wp.seq (Wp.text ?_)
  refine md 2 (.pointer (some ⟨0, 0, none⟩)) (Blk.mk 24 true [Value.iface 9 (Value.iface (List.length r) (Value.iface x (Value.agg (List.toArray (List.map Value.string r))))), Value.iface 9 (Value.iface (List.length m) (Value.iface y (Value.agg (List.toArray (List.map Value.string m))))), Value.int .i64 i, Value.int .i64 j]) ?_
  refine md 3 (.pointer (some ⟨1, 0, none⟩)) (Blk.mk 24 true [Value.iface 9 (Value.iface (List.length r') (Value.iface x' (Value.agg (List.toArray (List.map Value.string r'))))), Value.iface 9 (Value.iface (List.length m') (Value.iface y' (Value.agg (List.toArray (List.map Value.string m'))))), Value.int .i64 i', Value.int .i64 j']) ?_
  refine kp 4 (.bool false) ?_
  refine WpOps.nil (thenK_at (Wp.seq (Wp.text ?_)))
  refine kp 11 (.agg #[Value.iface 9 (Value.iface (List.length r) (Value.iface x (Value.agg (List.toArray (List.map Value.string r))))), Value.iface 9 (Value.iface (List.length m) (Value.iface y (Value.agg (List.toArray (List.map Value.string m))))), Value.int .i64 i, Value.int .i64 j]) ?_
  refine kp 12 (.agg #[Value.iface 9 (Value.iface (List.length r') (Value.iface x' (Value.agg (List.toArray (List.map Value.string r'))))), Value.iface 9 (Value.iface (List.length m') (Value.iface y' (Value.agg (List.toArray (List.map Value.string m'))))), Value.int .i64 i', Value.int .i64 j']) ?_
  refine fr 13 19 [Value.agg #[Value.iface 9 (Value.iface (List.length r) (Value.iface x (Value.agg (List.toArray (List.map Value.string r))))), Value.iface 9 (Value.iface (List.length m) (Value.iface y (Value.agg (List.toArray (List.map Value.string m))))), Value.int .i64 i, Value.int .i64 j], Value.agg #[Value.iface 9 (Value.iface (List.length r') (Value.iface x' (Value.agg (List.toArray (List.map Value.string r'))))), Value.iface 9 (Value.iface (List.length m') (Value.iface y' (Value.agg (List.toArray (List.map Value.string m'))))), Value.int .i64 i', Value.int .i64 j']] ?_
  refine WpFun.of (cD) ?_
  refine kp 10 (.tuple #[Value.iface 26 (Value.iface 0 (Value.iface 2 (Value.agg #[]))), Value.int .i64 1]) ?_
  refine kp 14 (.iface 26 (Value.iface 0 (Value.iface 2 (Value.agg #[])))) ?_
  refine kp 15 (.int IntKind.i64 1) ?_
  refine kp 5 (.iface 26 (Value.iface 0 (Value.iface 2 (Value.agg #[])))) ?_
  refine kp 6 (.int IntKind.i64 1) ?_
  refine WpOps.nil (thenK_at (Wp.seq (Wp.seq ?_)))
  refine Wp.region (by kernel_rfl) ?_
  refine kp 16 (.agg #[Value.iface 9 (Value.iface (List.length r) (Value.iface x (Value.agg (List.toArray (List.map Value.string r))))), Value.iface 9 (Value.iface (List.length m) (Value.iface y (Value.agg (List.toArray (List.map Value.string m))))), Value.int .i64 i, Value.int .i64 j]) ?_
  refine fr 17 11 [Value.agg #[Value.iface 9 (Value.iface (List.length r) (Value.iface x (Value.agg (List.toArray (List.map Value.string r))))), Value.iface 9 (Value.iface (List.length m) (Value.iface y (Value.agg (List.toArray (List.map Value.string m))))), Value.int .i64 i, Value.int .i64 j]] ?_
  refine WpFun.of (cT) ?_
  refine fr 18 16 [Value.agg #[FS 9 (List.length r) 0 (List.toArray (List.map Value.string r)), FS 9 (List.length m) 0 (List.toArray (List.map Value.string m)), Value.int .i64 i, Value.int .i64 j]] ?_
  refine WpFun.of (cV0) ?_
  refine kp 19 (.bool false) ?_
  refine kp 20 (.bool false) ?_
  refine kp 21 (.agg #[Value.iface 9 (Value.iface (List.length r') (Value.iface x' (Value.agg (List.toArray (List.map Value.string r'))))), Value.iface 9 (Value.iface (List.length m') (Value.iface y' (Value.agg (List.toArray (List.map Value.string m'))))), Value.int .i64 i', Value.int .i64 j']) ?_
  refine fr 22 11 [Value.agg #[Value.iface 9 (Value.iface (List.length r') (Value.iface x' (Value.agg (List.toArray (List.map Value.string r'))))), Value.iface 9 (Value.iface (List.length m') (Value.iface y' (Value.agg (List.toArray (List.map Value.string m'))))), Value.int .i64 i', Value.int .i64 j']] ?_
  refine WpFun.of (cT') ?_
  refine fr 23 16 [Value.agg #[FS 9 (List.length r') 0 (List.toArray (List.map Value.string r')), FS 9 (List.length m') 0 (List.toArray (List.map Value.string m')), Value.int .i64 i', Value.int .i64 j']] ?_
  refine WpFun.of (cW0) ?_
  refine kp 24 (.bool true) ?_
  refine kp 25 (.bool true) ?_
  refine kp 26 (.bool true) ?_
  refine um 27 ?_
  refine um 28 ?_
  refine um 29 ?_
  refine um 30 ?_
  refine um 31 ?_
  refine um 32 ?_
  refine um 33 ?_
  refine kp 34 (.bool true) ?_
  refine kp 35 (.bool true) ?_
  refine um 36 ?_
  refine um 37 ?_
  refine um 38 ?_
  refine um 39 ?_
  refine um 40 ?_
  refine um 41 ?_
  refine um 42 ?_
  refine um 43 ?_
  refine um 44 ?_
  refine um 45 ?_
  refine um 46 ?_
  refine kp 47 (.bool true) ?_
  refine WpOps.nil (thenK_at (on' (Wp.seq (Wp.text ?_))))
  refine kp 48 (.int IntKind.i64 1) ?_
  refine kp 49 (.bool true) ?_
  refine kp 50 (.bool true) ?_
  refine kp 51 (.iface 26 (Value.iface 0 (Value.iface 2 (Value.agg #[])))) ?_
  refine kp 52 (.int IntKind.i64 (↑0 : Int)) ?_
  refine kp 53 (.bool true) ?_
  refine kp 54 (.bool true) ?_
  refine kp 55 (.bool true) ?_
  refine fr 56 18 [] ?_
  refine WpFun.of (cS) ?_
  refine kp 57 (.bool true) ?_
  refine kp 4 (.bool true) ?_
  refine WpOps.nil (thenK_at (Wp.ret (thenK_ret ?_)))
  refine endK_retn [Value.bool true] (Value.bool true) (by kernel_rfl) (by kernel_rfl) ?_
  rfl
set_option maxHeartbeats 4000000 in
/-- Their sizes differ. -/
theorem law5_e3 (x y x' y' : Nat) (r m r' m' : List ByteArray) (i j i' j' : Int) (lr : r.length ≤ 8796093022208) (lm : m.length ≤ 8796093022208) (lr' : r'.length ≤ 8796093022208) (lm' : m'.length ≤ 8796093022208) (cV : Fun E 15 [dv x y r m i j] (.bool true)) (cV0 : Fun E 16 [dv 0 0 r m i j] (.bool true))
    (cW : Fun E 15 [dv x' y' r' m' i' j'] (.bool true)) (cW0 : Fun E 16 [dv 0 0 r' m' i' j'] (.bool true)) (hn : ¬ r.length = r'.length) :
    Fun E 5 [dv x y r m i j, dv x' y' r' m' i' j'] (.bool true) := by
  have d1 : ((r.length : Int) != (r'.length : Int)) = true := by rw [bne_iff_ne]; omega
  have cD : Fun E 19 [dv x y r m i j, dv x' y' r' m' i' j'] (.tuple #[FS 26 0 2 #[], .int .i64 1]) := by
    refine Fun.ofN f19 rfl (of_decide_eq_true (by kernel_rfl)) rfl ?_
    unfold dv strs at cV cW ⊢
    refine Wp.seq (Wp.text ?_)
    refine md 2 (.pointer (some ⟨0, 0, none⟩)) (Blk.mk 24 true [Value.iface 9 (Value.iface (List.length r) (Value.iface x (Value.agg (List.toArray (List.map Value.string r))))), Value.iface 9 (Value.iface (List.length m) (Value.iface y (Value.agg (List.toArray (List.map Value.string m))))), Value.int .i64 i, Value.int .i64 j]) ?_
    refine md 3 (.pointer (some ⟨1, 0, none⟩)) (Blk.mk 24 true [Value.iface 9 (Value.iface (List.length r') (Value.iface x' (Value.agg (List.toArray (List.map Value.string r'))))), Value.iface 9 (Value.iface (List.length m') (Value.iface y' (Value.agg (List.toArray (List.map Value.string m'))))), Value.int .i64 i', Value.int .i64 j']) ?_
    refine kp 4 (.slice none 0 0) ?_
    refine kp 5 (.int IntKind.i64 0) ?_
    refine WpOps.nil (thenK_at (Wp.seq (Wp.seq ?_)))
    refine Wp.region (by kernel_rfl) ?_
    refine kp 9 (.agg #[Value.iface 9 (Value.iface (List.length r) (Value.iface x (Value.agg (List.toArray (List.map Value.string r))))), Value.iface 9 (Value.iface (List.length m) (Value.iface y (Value.agg (List.toArray (List.map Value.string m))))), Value.int .i64 i, Value.int .i64 j]) ?_
    refine fr 10 15 [Value.agg #[Value.iface 9 (Value.iface (List.length r) (Value.iface x (Value.agg (List.toArray (List.map Value.string r))))), Value.iface 9 (Value.iface (List.length m) (Value.iface y (Value.agg (List.toArray (List.map Value.string m))))), Value.int .i64 i, Value.int .i64 j]] ?_
    refine WpFun.of (cV) ?_
    refine kp 11 (.bool false) ?_
    refine kp 12 (.bool false) ?_
    refine kp 13 (.agg #[Value.iface 9 (Value.iface (List.length r') (Value.iface x' (Value.agg (List.toArray (List.map Value.string r'))))), Value.iface 9 (Value.iface (List.length m') (Value.iface y' (Value.agg (List.toArray (List.map Value.string m'))))), Value.int .i64 i', Value.int .i64 j']) ?_
    refine fr 14 15 [Value.agg #[Value.iface 9 (Value.iface (List.length r') (Value.iface x' (Value.agg (List.toArray (List.map Value.string r'))))), Value.iface 9 (Value.iface (List.length m') (Value.iface y' (Value.agg (List.toArray (List.map Value.string m'))))), Value.int .i64 i', Value.int .i64 j']] ?_
    refine WpFun.of (cW) ?_
    refine kp 15 (.bool false) ?_
    refine kp 16 (.bool false) ?_
    refine kp 17 (.bool false) ?_
    refine kp 18 (.pointer (some ⟨0, 0, none⟩)) ?_
    refine kp 19 (.iface 9 (Value.iface (List.length r) (Value.iface x (Value.agg (List.toArray (List.map Value.string r)))))) ?_
    refine kp 20 (.int IntKind.i64 (↑(List.length r) : Int)) ?_
    refine kp 21 (.pointer (some ⟨1, 0, none⟩)) ?_
    refine kp 22 (.iface 9 (Value.iface (List.length r') (Value.iface x' (Value.agg (List.toArray (List.map Value.string r')))))) ?_
    refine kp 23 (.int IntKind.i64 (↑(List.length r') : Int)) ?_
    refine kp 24 (.bool true) ?_ (hop := fun _ => by_fact d1)
    refine kp 25 (.bool true) ?_
    refine kp 26 (.bool true) ?_
    refine um 27 ?_
    refine um 28 ?_
    refine um 29 ?_
    refine um 30 ?_
    refine um 31 ?_
    refine um 32 ?_
    refine um 33 ?_
    refine um 34 ?_
    refine um 35 ?_
    refine um 36 ?_
    refine um 37 ?_
    refine kp 38 (.bool true) ?_
    refine WpOps.nil (thenK_at (on' (Wp.seq (Wp.text ?_))))
    refine kp 4 (.slice none 0 0) ?_
    refine kp 5 (.int IntKind.i64 1) ?_
    refine WpOps.nil (thenK_at (Wp.ret (thenK_ret ?_)))
    refine endK_retn [Value.slice none 0 0, Value.int IntKind.i64 1] (Value.tuple #[Value.slice none 0 0, Value.int IntKind.i64 1]) (by kernel_rfl) (by kernel_rfl) ?_
    obtain ⟨ti, ht⟩ := types26
    exact ⟨zero_ups, by kernel_rfl, nil_ups ht⟩
  refine Fun.of law5_f5 rfl (of_decide_eq_true (by kernel_rfl)) rfl ?_
  have cT := to11 x y r m i j lr lm
  have cT' := to11 x' y' r' m' i' j' lr' lm'
  have cS := sane18
  unfold dv strs at cD cT cT' cV0 cW0 ⊢
  refine Wp.seq (Wp.text ?_)
  refine md 2 (.pointer (some ⟨0, 0, none⟩)) (Blk.mk 24 true [Value.iface 9 (Value.iface (List.length r) (Value.iface x (Value.agg (List.toArray (List.map Value.string r))))), Value.iface 9 (Value.iface (List.length m) (Value.iface y (Value.agg (List.toArray (List.map Value.string m))))), Value.int .i64 i, Value.int .i64 j]) ?_
  refine md 3 (.pointer (some ⟨1, 0, none⟩)) (Blk.mk 24 true [Value.iface 9 (Value.iface (List.length r') (Value.iface x' (Value.agg (List.toArray (List.map Value.string r'))))), Value.iface 9 (Value.iface (List.length m') (Value.iface y' (Value.agg (List.toArray (List.map Value.string m'))))), Value.int .i64 i', Value.int .i64 j']) ?_
  refine kp 4 (.bool false) ?_
  refine WpOps.nil (thenK_at (Wp.seq (Wp.text ?_)))
  refine kp 11 (.agg #[Value.iface 9 (Value.iface (List.length r) (Value.iface x (Value.agg (List.toArray (List.map Value.string r))))), Value.iface 9 (Value.iface (List.length m) (Value.iface y (Value.agg (List.toArray (List.map Value.string m))))), Value.int .i64 i, Value.int .i64 j]) ?_
  refine kp 12 (.agg #[Value.iface 9 (Value.iface (List.length r') (Value.iface x' (Value.agg (List.toArray (List.map Value.string r'))))), Value.iface 9 (Value.iface (List.length m') (Value.iface y' (Value.agg (List.toArray (List.map Value.string m'))))), Value.int .i64 i', Value.int .i64 j']) ?_
  refine fr 13 19 [Value.agg #[Value.iface 9 (Value.iface (List.length r) (Value.iface x (Value.agg (List.toArray (List.map Value.string r))))), Value.iface 9 (Value.iface (List.length m) (Value.iface y (Value.agg (List.toArray (List.map Value.string m))))), Value.int .i64 i, Value.int .i64 j], Value.agg #[Value.iface 9 (Value.iface (List.length r') (Value.iface x' (Value.agg (List.toArray (List.map Value.string r'))))), Value.iface 9 (Value.iface (List.length m') (Value.iface y' (Value.agg (List.toArray (List.map Value.string m'))))), Value.int .i64 i', Value.int .i64 j']] ?_
  refine WpFun.of (cD) ?_
  refine kp 10 (.tuple #[Value.iface 26 (Value.iface 0 (Value.iface 2 (Value.agg #[]))), Value.int .i64 1]) ?_
  refine kp 14 (.iface 26 (Value.iface 0 (Value.iface 2 (Value.agg #[])))) ?_
  refine kp 15 (.int IntKind.i64 1) ?_
  refine kp 5 (.iface 26 (Value.iface 0 (Value.iface 2 (Value.agg #[])))) ?_
  refine kp 6 (.int IntKind.i64 1) ?_
  refine WpOps.nil (thenK_at (Wp.seq (Wp.seq ?_)))
  refine Wp.region (by kernel_rfl) ?_
  refine kp 16 (.agg #[Value.iface 9 (Value.iface (List.length r) (Value.iface x (Value.agg (List.toArray (List.map Value.string r))))), Value.iface 9 (Value.iface (List.length m) (Value.iface y (Value.agg (List.toArray (List.map Value.string m))))), Value.int .i64 i, Value.int .i64 j]) ?_
  refine fr 17 11 [Value.agg #[Value.iface 9 (Value.iface (List.length r) (Value.iface x (Value.agg (List.toArray (List.map Value.string r))))), Value.iface 9 (Value.iface (List.length m) (Value.iface y (Value.agg (List.toArray (List.map Value.string m))))), Value.int .i64 i, Value.int .i64 j]] ?_
  refine WpFun.of (cT) ?_
  refine fr 18 16 [Value.agg #[FS 9 (List.length r) 0 (List.toArray (List.map Value.string r)), FS 9 (List.length m) 0 (List.toArray (List.map Value.string m)), Value.int .i64 i, Value.int .i64 j]] ?_
  refine WpFun.of (cV0) ?_
  refine kp 19 (.bool false) ?_
  refine kp 20 (.bool false) ?_
  refine kp 21 (.agg #[Value.iface 9 (Value.iface (List.length r') (Value.iface x' (Value.agg (List.toArray (List.map Value.string r'))))), Value.iface 9 (Value.iface (List.length m') (Value.iface y' (Value.agg (List.toArray (List.map Value.string m'))))), Value.int .i64 i', Value.int .i64 j']) ?_
  refine fr 22 11 [Value.agg #[Value.iface 9 (Value.iface (List.length r') (Value.iface x' (Value.agg (List.toArray (List.map Value.string r'))))), Value.iface 9 (Value.iface (List.length m') (Value.iface y' (Value.agg (List.toArray (List.map Value.string m'))))), Value.int .i64 i', Value.int .i64 j']] ?_
  refine WpFun.of (cT') ?_
  refine fr 23 16 [Value.agg #[FS 9 (List.length r') 0 (List.toArray (List.map Value.string r')), FS 9 (List.length m') 0 (List.toArray (List.map Value.string m')), Value.int .i64 i', Value.int .i64 j']] ?_
  refine WpFun.of (cW0) ?_
  refine kp 24 (.bool false) ?_
  refine kp 25 (.bool false) ?_
  refine kp 26 (.bool false) ?_
  refine kp 27 (.pointer (some ⟨0, 0, none⟩)) ?_
  refine kp 28 (.iface 9 (Value.iface (List.length r) (Value.iface x (Value.agg (List.toArray (List.map Value.string r)))))) ?_
  refine kp 29 (.int IntKind.i64 (↑(List.length r) : Int)) ?_
  refine kp 30 (.pointer (some ⟨1, 0, none⟩)) ?_
  refine kp 31 (.iface 9 (Value.iface (List.length r') (Value.iface x' (Value.agg (List.toArray (List.map Value.string r')))))) ?_
  refine kp 32 (.int IntKind.i64 (↑(List.length r') : Int)) ?_
  refine kp 33 (.bool true) ?_ (hop := fun _ => by_fact d1)
  refine kp 34 (.bool true) ?_
  refine kp 35 (.bool true) ?_
  refine um 36 ?_
  refine um 37 ?_
  refine um 38 ?_
  refine um 39 ?_
  refine um 40 ?_
  refine um 41 ?_
  refine um 42 ?_
  refine um 43 ?_
  refine um 44 ?_
  refine um 45 ?_
  refine um 46 ?_
  refine kp 47 (.bool true) ?_
  refine WpOps.nil (thenK_at (on' (Wp.seq (Wp.text ?_))))
  refine kp 48 (.int IntKind.i64 1) ?_
  refine kp 49 (.bool true) ?_
  refine kp 50 (.bool true) ?_
  refine kp 51 (.iface 26 (Value.iface 0 (Value.iface 2 (Value.agg #[])))) ?_
  refine kp 52 (.int IntKind.i64 (↑0 : Int)) ?_
  refine kp 53 (.bool true) ?_
  refine kp 54 (.bool true) ?_
  refine kp 55 (.bool true) ?_
  refine fr 56 18 [] ?_
  refine WpFun.of (cS) ?_
  refine kp 57 (.bool true) ?_
  refine kp 4 (.bool true) ?_
  refine WpOps.nil (thenK_at (Wp.ret (thenK_ret ?_)))
  refine endK_retn [Value.bool true] (Value.bool true) (by kernel_rfl) (by kernel_rfl) ?_
  rfl
set_option maxHeartbeats 4000000 in
theorem law5_e4 (x y x' y' : Nat) (r m r' m' : List ByteArray) (i j i' j' : Int) (lr : r.length ≤ 8796093022208) (lm : m.length ≤ 8796093022208) (lr' : r'.length ≤ 8796093022208) (lm' : m'.length ≤ 8796093022208) (cV : Fun E 15 [dv x y r m i j] (.bool true)) (cV0 : Fun E 16 [dv 0 0 r m i j] (.bool true))
    (cW : Fun E 15 [dv x' y' r' m' i' j'] (.bool true)) (cW0 : Fun E 16 [dv 0 0 r' m' i' j'] (.bool true)) (hn : r.length = r'.length) (h0 : 1 ≤ r.length) (hz : ¬ (rowAt r 0).size = (rowAt r' 0).size) :
    Fun E 5 [dv x y r m i j, dv x' y' r' m' i' j'] (.bool true) := by
  have d1 : ((r.length : Int) != (r'.length : Int)) = false := by rw [hn]; simp
  have d2 : (((rowAt r 0).size : Int) != ((rowAt r' 0).size : Int)) = true := by rw [bne_iff_ne]; omega
  have l1 : 0 ≤ (0 : Int) ∧ (0 : Int) < r.length := by omega
  have l2 : 0 ≤ (0 : Int) ∧ (0 : Int) < r'.length := by omega
  have v1 := strs_0 r (by omega)
  have v2 := strs_0 r' (by omega)
  have cD : Fun E 19 [dv x y r m i j, dv x' y' r' m' i' j'] (.tuple #[FS 26 0 2 #[], .int .i64 1]) := by
    refine Fun.ofN f19 rfl (of_decide_eq_true (by kernel_rfl)) rfl ?_
    unfold dv strs at cV cW ⊢
    refine Wp.seq (Wp.text ?_)
    refine md 2 (.pointer (some ⟨0, 0, none⟩)) (Blk.mk 24 true [Value.iface 9 (Value.iface (List.length r) (Value.iface x (Value.agg (List.toArray (List.map Value.string r))))), Value.iface 9 (Value.iface (List.length m) (Value.iface y (Value.agg (List.toArray (List.map Value.string m))))), Value.int .i64 i, Value.int .i64 j]) ?_
    refine md 3 (.pointer (some ⟨1, 0, none⟩)) (Blk.mk 24 true [Value.iface 9 (Value.iface (List.length r') (Value.iface x' (Value.agg (List.toArray (List.map Value.string r'))))), Value.iface 9 (Value.iface (List.length m') (Value.iface y' (Value.agg (List.toArray (List.map Value.string m'))))), Value.int .i64 i', Value.int .i64 j']) ?_
    refine kp 4 (.slice none 0 0) ?_
    refine kp 5 (.int IntKind.i64 0) ?_
    refine WpOps.nil (thenK_at (Wp.seq (Wp.seq ?_)))
    refine Wp.region (by kernel_rfl) ?_
    refine kp 9 (.agg #[Value.iface 9 (Value.iface (List.length r) (Value.iface x (Value.agg (List.toArray (List.map Value.string r))))), Value.iface 9 (Value.iface (List.length m) (Value.iface y (Value.agg (List.toArray (List.map Value.string m))))), Value.int .i64 i, Value.int .i64 j]) ?_
    refine fr 10 15 [Value.agg #[Value.iface 9 (Value.iface (List.length r) (Value.iface x (Value.agg (List.toArray (List.map Value.string r))))), Value.iface 9 (Value.iface (List.length m) (Value.iface y (Value.agg (List.toArray (List.map Value.string m))))), Value.int .i64 i, Value.int .i64 j]] ?_
    refine WpFun.of (cV) ?_
    refine kp 11 (.bool false) ?_
    refine kp 12 (.bool false) ?_
    refine kp 13 (.agg #[Value.iface 9 (Value.iface (List.length r') (Value.iface x' (Value.agg (List.toArray (List.map Value.string r'))))), Value.iface 9 (Value.iface (List.length m') (Value.iface y' (Value.agg (List.toArray (List.map Value.string m'))))), Value.int .i64 i', Value.int .i64 j']) ?_
    refine fr 14 15 [Value.agg #[Value.iface 9 (Value.iface (List.length r') (Value.iface x' (Value.agg (List.toArray (List.map Value.string r'))))), Value.iface 9 (Value.iface (List.length m') (Value.iface y' (Value.agg (List.toArray (List.map Value.string m'))))), Value.int .i64 i', Value.int .i64 j']] ?_
    refine WpFun.of (cW) ?_
    refine kp 15 (.bool false) ?_
    refine kp 16 (.bool false) ?_
    refine kp 17 (.bool false) ?_
    refine kp 18 (.pointer (some ⟨0, 0, none⟩)) ?_
    refine kp 19 (.iface 9 (Value.iface (List.length r) (Value.iface x (Value.agg (List.toArray (List.map Value.string r)))))) ?_
    refine kp 20 (.int IntKind.i64 (↑(List.length r) : Int)) ?_
    refine kp 21 (.pointer (some ⟨1, 0, none⟩)) ?_
    refine kp 22 (.iface 9 (Value.iface (List.length r') (Value.iface x' (Value.agg (List.toArray (List.map Value.string r')))))) ?_
    refine kp 23 (.int IntKind.i64 (↑(List.length r') : Int)) ?_
    refine kp 24 (.bool false) ?_ (hop := fun _ => by_fact d1)
    refine kp 25 (.bool false) ?_
    refine kp 26 (.bool false) ?_
    refine kp 27 (.pointer (some ⟨0, 0, none⟩)) ?_
    refine kp 28 (.iface 9 (Value.iface (List.length r) (Value.iface x (Value.agg (List.toArray (List.map Value.string r)))))) ?_
    refine kp 29 (.iface 9 (Value.iface 0 (Value.agg (List.toArray (List.map Value.string r))))) ?_ (hop := fun _ => o_indexI (e := 9) (size := 1) (a := 0) l1)
    refine kp 30 (.string (rowAt r 0)) ?_ (hop := fun _ => o_loadI1 (0) v1)
    refine kp 31 (.int IntKind.i64 (↑(ByteArray.size (rowAt r 0)) : Int)) ?_
    refine kp 32 (.pointer (some ⟨1, 0, none⟩)) ?_
    refine kp 33 (.iface 9 (Value.iface (List.length r') (Value.iface x' (Value.agg (List.toArray (List.map Value.string r')))))) ?_
    refine kp 34 (.iface 9 (Value.iface 0 (Value.agg (List.toArray (List.map Value.string r'))))) ?_ (hop := fun _ => o_indexI (e := 9) (size := 1) (a := 0) l2)
    refine kp 35 (.string (rowAt r' 0)) ?_ (hop := fun _ => o_loadI1 (0) v2)
    refine kp 36 (.int IntKind.i64 (↑(ByteArray.size (rowAt r' 0)) : Int)) ?_
    refine kp 37 (.bool true) ?_ (hop := fun _ => by_fact d2)
    refine kp 38 (.bool true) ?_
    refine WpOps.nil (thenK_at (on' (Wp.seq (Wp.text ?_))))
    refine kp 4 (.slice none 0 0) ?_
    refine kp 5 (.int IntKind.i64 1) ?_
    refine WpOps.nil (thenK_at (Wp.ret (thenK_ret ?_)))
    refine endK_retn [Value.slice none 0 0, Value.int IntKind.i64 1] (Value.tuple #[Value.slice none 0 0, Value.int IntKind.i64 1]) (by kernel_rfl) (by kernel_rfl) ?_
    obtain ⟨ti, ht⟩ := types26
    exact ⟨zero_ups, by kernel_rfl, nil_ups ht⟩
  refine Fun.of law5_f5 rfl (of_decide_eq_true (by kernel_rfl)) rfl ?_
  have cT := to11 x y r m i j lr lm
  have cT' := to11 x' y' r' m' i' j' lr' lm'
  have cS := sane18
  unfold dv strs at cD cT cT' cV0 cW0 ⊢
  refine Wp.seq (Wp.text ?_)
  refine md 2 (.pointer (some ⟨0, 0, none⟩)) (Blk.mk 24 true [Value.iface 9 (Value.iface (List.length r) (Value.iface x (Value.agg (List.toArray (List.map Value.string r))))), Value.iface 9 (Value.iface (List.length m) (Value.iface y (Value.agg (List.toArray (List.map Value.string m))))), Value.int .i64 i, Value.int .i64 j]) ?_
  refine md 3 (.pointer (some ⟨1, 0, none⟩)) (Blk.mk 24 true [Value.iface 9 (Value.iface (List.length r') (Value.iface x' (Value.agg (List.toArray (List.map Value.string r'))))), Value.iface 9 (Value.iface (List.length m') (Value.iface y' (Value.agg (List.toArray (List.map Value.string m'))))), Value.int .i64 i', Value.int .i64 j']) ?_
  refine kp 4 (.bool false) ?_
  refine WpOps.nil (thenK_at (Wp.seq (Wp.text ?_)))
  refine kp 11 (.agg #[Value.iface 9 (Value.iface (List.length r) (Value.iface x (Value.agg (List.toArray (List.map Value.string r))))), Value.iface 9 (Value.iface (List.length m) (Value.iface y (Value.agg (List.toArray (List.map Value.string m))))), Value.int .i64 i, Value.int .i64 j]) ?_
  refine kp 12 (.agg #[Value.iface 9 (Value.iface (List.length r') (Value.iface x' (Value.agg (List.toArray (List.map Value.string r'))))), Value.iface 9 (Value.iface (List.length m') (Value.iface y' (Value.agg (List.toArray (List.map Value.string m'))))), Value.int .i64 i', Value.int .i64 j']) ?_
  refine fr 13 19 [Value.agg #[Value.iface 9 (Value.iface (List.length r) (Value.iface x (Value.agg (List.toArray (List.map Value.string r))))), Value.iface 9 (Value.iface (List.length m) (Value.iface y (Value.agg (List.toArray (List.map Value.string m))))), Value.int .i64 i, Value.int .i64 j], Value.agg #[Value.iface 9 (Value.iface (List.length r') (Value.iface x' (Value.agg (List.toArray (List.map Value.string r'))))), Value.iface 9 (Value.iface (List.length m') (Value.iface y' (Value.agg (List.toArray (List.map Value.string m'))))), Value.int .i64 i', Value.int .i64 j']] ?_
  refine WpFun.of (cD) ?_
  refine kp 10 (.tuple #[Value.iface 26 (Value.iface 0 (Value.iface 2 (Value.agg #[]))), Value.int .i64 1]) ?_
  refine kp 14 (.iface 26 (Value.iface 0 (Value.iface 2 (Value.agg #[])))) ?_
  refine kp 15 (.int IntKind.i64 1) ?_
  refine kp 5 (.iface 26 (Value.iface 0 (Value.iface 2 (Value.agg #[])))) ?_
  refine kp 6 (.int IntKind.i64 1) ?_
  refine WpOps.nil (thenK_at (Wp.seq (Wp.seq ?_)))
  refine Wp.region (by kernel_rfl) ?_
  refine kp 16 (.agg #[Value.iface 9 (Value.iface (List.length r) (Value.iface x (Value.agg (List.toArray (List.map Value.string r))))), Value.iface 9 (Value.iface (List.length m) (Value.iface y (Value.agg (List.toArray (List.map Value.string m))))), Value.int .i64 i, Value.int .i64 j]) ?_
  refine fr 17 11 [Value.agg #[Value.iface 9 (Value.iface (List.length r) (Value.iface x (Value.agg (List.toArray (List.map Value.string r))))), Value.iface 9 (Value.iface (List.length m) (Value.iface y (Value.agg (List.toArray (List.map Value.string m))))), Value.int .i64 i, Value.int .i64 j]] ?_
  refine WpFun.of (cT) ?_
  refine fr 18 16 [Value.agg #[FS 9 (List.length r) 0 (List.toArray (List.map Value.string r)), FS 9 (List.length m) 0 (List.toArray (List.map Value.string m)), Value.int .i64 i, Value.int .i64 j]] ?_
  refine WpFun.of (cV0) ?_
  refine kp 19 (.bool false) ?_
  refine kp 20 (.bool false) ?_
  refine kp 21 (.agg #[Value.iface 9 (Value.iface (List.length r') (Value.iface x' (Value.agg (List.toArray (List.map Value.string r'))))), Value.iface 9 (Value.iface (List.length m') (Value.iface y' (Value.agg (List.toArray (List.map Value.string m'))))), Value.int .i64 i', Value.int .i64 j']) ?_
  refine fr 22 11 [Value.agg #[Value.iface 9 (Value.iface (List.length r') (Value.iface x' (Value.agg (List.toArray (List.map Value.string r'))))), Value.iface 9 (Value.iface (List.length m') (Value.iface y' (Value.agg (List.toArray (List.map Value.string m'))))), Value.int .i64 i', Value.int .i64 j']] ?_
  refine WpFun.of (cT') ?_
  refine fr 23 16 [Value.agg #[FS 9 (List.length r') 0 (List.toArray (List.map Value.string r')), FS 9 (List.length m') 0 (List.toArray (List.map Value.string m')), Value.int .i64 i', Value.int .i64 j']] ?_
  refine WpFun.of (cW0) ?_
  refine kp 24 (.bool false) ?_
  refine kp 25 (.bool false) ?_
  refine kp 26 (.bool false) ?_
  refine kp 27 (.pointer (some ⟨0, 0, none⟩)) ?_
  refine kp 28 (.iface 9 (Value.iface (List.length r) (Value.iface x (Value.agg (List.toArray (List.map Value.string r)))))) ?_
  refine kp 29 (.int IntKind.i64 (↑(List.length r) : Int)) ?_
  refine kp 30 (.pointer (some ⟨1, 0, none⟩)) ?_
  refine kp 31 (.iface 9 (Value.iface (List.length r') (Value.iface x' (Value.agg (List.toArray (List.map Value.string r')))))) ?_
  refine kp 32 (.int IntKind.i64 (↑(List.length r') : Int)) ?_
  refine kp 33 (.bool false) ?_ (hop := fun _ => by_fact d1)
  refine kp 34 (.bool false) ?_
  refine kp 35 (.bool false) ?_
  refine kp 36 (.pointer (some ⟨0, 0, none⟩)) ?_
  refine kp 37 (.iface 9 (Value.iface (List.length r) (Value.iface x (Value.agg (List.toArray (List.map Value.string r)))))) ?_
  refine kp 38 (.iface 9 (Value.iface 0 (Value.agg (List.toArray (List.map Value.string r))))) ?_ (hop := fun _ => o_indexI (e := 9) (size := 1) (a := 0) l1)
  refine kp 39 (.string (rowAt r 0)) ?_ (hop := fun _ => o_loadI1 (0) v1)
  refine kp 40 (.int IntKind.i64 (↑(ByteArray.size (rowAt r 0)) : Int)) ?_
  refine kp 41 (.pointer (some ⟨1, 0, none⟩)) ?_
  refine kp 42 (.iface 9 (Value.iface (List.length r') (Value.iface x' (Value.agg (List.toArray (List.map Value.string r')))))) ?_
  refine kp 43 (.iface 9 (Value.iface 0 (Value.agg (List.toArray (List.map Value.string r'))))) ?_ (hop := fun _ => o_indexI (e := 9) (size := 1) (a := 0) l2)
  refine kp 44 (.string (rowAt r' 0)) ?_ (hop := fun _ => o_loadI1 (0) v2)
  refine kp 45 (.int IntKind.i64 (↑(ByteArray.size (rowAt r' 0)) : Int)) ?_
  refine kp 46 (.bool true) ?_ (hop := fun _ => by_fact d2)
  refine kp 47 (.bool true) ?_
  refine WpOps.nil (thenK_at (on' (Wp.seq (Wp.text ?_))))
  refine kp 48 (.int IntKind.i64 1) ?_
  refine kp 49 (.bool true) ?_
  refine kp 50 (.bool true) ?_
  refine kp 51 (.iface 26 (Value.iface 0 (Value.iface 2 (Value.agg #[])))) ?_
  refine kp 52 (.int IntKind.i64 (↑0 : Int)) ?_
  refine kp 53 (.bool true) ?_
  refine kp 54 (.bool true) ?_
  refine kp 55 (.bool true) ?_
  refine fr 56 18 [] ?_
  refine WpFun.of (cS) ?_
  refine kp 57 (.bool true) ?_
  refine kp 4 (.bool true) ?_
  refine WpOps.nil (thenK_at (Wp.ret (thenK_ret ?_)))
  refine endK_retn [Value.bool true] (Value.bool true) (by kernel_rfl) (by kernel_rfl) ?_
  rfl
end Go.Proofs.Ytlejgfeoffhjoaa.D
