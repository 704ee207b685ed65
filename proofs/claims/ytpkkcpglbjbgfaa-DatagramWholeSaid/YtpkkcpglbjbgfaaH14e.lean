/- Take: the first piece of a whole. -/
import Derived.Test.YtpkkcpglbjbgfaaFwLem
import Derived.Test.YtpkkcpglbjbgfaaFwCons
import Derived.Test.YtpkkcpglbjbgfaaFwMat
import Derived.Test.YtpkkcpglbjbgfaaFwEnter
import Derived.Test.YtpkkcpglbjbgfaaFwOver
import Derived.Test.YtpkkcpglbjbgfaaFwCall
import Derived.Test.YtpkkcpglbjbgfaaH14d
namespace Go.Proofs.Ytpkkcpglbjbgfaa.D
open Go.Fw Go.RowKit


theorem no60e (p : Gr) : SCall E 60 [.pointer (some ⟨0, 0, none⟩)] (heapOf [⟨66, true, [.int .i64 1, .int .i64 60, .slice none 0 0]⟩, ⟨24, true, (gc p)⟩, ⟨24, true, zc⟩]) (.bool false) (heapOf [⟨66, true, [.int .i64 1, .int .i64 60, .slice none 0 0]⟩, ⟨24, true, (gc p)⟩, ⟨24, true, zc⟩]) := SCall.closed 60 (by kernel_rfl)
theorem idx61e (p : Gr) : SCall E 61 [.slice none 0 0, .func (.func 62) #[] #[.pointer (some ⟨1, 0, none⟩)]] (heapOf [⟨66, true, [.int .i64 1, .int .i64 60, .slice none 0 0]⟩, ⟨24, true, (gc p)⟩, ⟨24, true, zc⟩]) (.int .i64 (-1)) (heapOf [⟨66, true, [.int .i64 1, .int .i64 60, .slice none 0 0]⟩, ⟨24, true, (gc p)⟩, ⟨24, true, zc⟩]) := SCall.closed 60 (by kernel_rfl)
set_option maxHeartbeats 8000000 in
theorem take_new_NN_inc (T : Nat) (D : ByteArray) (p : Gr) (ok : OkGr p) (hv : okG p = true) (a : Nat) (ha : p.at' = a) (hb : (p.at' == 0) = false) (hd : p.data = D.extract a (a + p.data.size)) (hD : a + p.data.size ≤ D.size) (hT : D.size = T) (hT2 : T ≤ 4000) (hpt : p.total = T)  : Lent E 32 [.pointer (some ⟨0, 0, none⟩), gv p] [⟨66, true, [.int .i64 1, .int .i64 60, .slice none 0 0]⟩] (.tuple #[.agg zc.toArray, .bool false, .int .i64 0]) [st1, ar1, ⟨122, true, (wN T (ownG p))⟩, ⟨5, true, dC D T (thN (fun _ => false) a p.data.size)⟩, ⟨4, true, bC T (thN (fun _ => false) a p.data.size)⟩] := by
  refine Lent.of f32 rfl (of_decide_eq_true (by kernel_rfl)) rfl rfl (Nat.le_of_ble_eq_true rfl) (by kernel_rfl) (all5 (by kernel_rfl) (by kernel_rfl) (by kernel_rfl) (okCs_flat (dC_flat _ _ _)) (okCs_flat (bC_flat _ _))) (by kernel_rfl) ?_
  have c1 := valid20 p (by have := ok.fl; omega) (by have := ok.tl; omega)
  rw [hv] at c1
  have c4 := put65NN T D (fun _ => false) (ownG p) p a ha hb hd hD hT hT2
  have c8 := own64 p ok
  have c2 := no60e p
  have c3 := idx61e p
  have d1 : ((ownG p).total != p.total) = false := by show (p.total != p.total) = false; simp
  have hn : p.total.toNat = T := by omega
  have q5 : 0 ≤ p.total ∧ p.total = p.total ∧ ((1 : Nat) : Int) * p.total ≤ 281474976710656 ∧ p.total ≤ 9223372036854775807 := by omega
  have d2 : decide ((0 : Int) ≥ 1) = false := rfl
  have q0 := hpt
  refine Wp.seq (Wp.text ?_)
  refine md 3 (.pointer (some ⟨1, 0, none⟩)) (Blk.mk 24 true (gc p)) ?_
  refine md 4 (.pointer (some ⟨2, 0, none⟩)) (Blk.mk 24 true zc) ?_
  refine kp 5 (.bool false) ?_
  refine kp 6 (.int IntKind.i64 0) ?_
  refine WpOps.nil (thenK_at (Wp.seq (Wp.seq (Wp.text ?_))))
  refine kp 10 (.pointer (some ⟨0, 0, none⟩)) ?_
  refine cl 11 60 [Value.pointer (some ⟨0, 0, none⟩)] ?_
  refine WpCall.enterL c2 (by simp only [none_heapOf, heapOf_alloc]; rfl) ?_
  refine kp 12 (.bool false) ?_
  refine kp 13 (gv p) ?_
  refine fr 14 20 [gv p] ?_
  refine WpFun.of (c1) ?_
  refine kp 15 (.bool false) ?_
  refine kp 16 (.bool false) ?_
  refine WpOps.nil (thenK_at (off' (Wp.skip (thenK_at (Wp.seq (Wp.text ?_))))))
  refine kp 18 (.pointer (some ⟨0, 0, none⟩)) ?_
  refine kp 19 (.pointer (some ⟨0, 0, none⟩)) ?_
  refine kp 20 (.pointer (some ⟨0, 2, none⟩)) ?_
  refine kp 21 (.slice none 0 0) ?_
  refine kp 22 (.func (Fn.func 62) #[] #[Value.pointer (some ⟨1, 0, none⟩)]) ?_
  refine cl 23 61 [Value.slice none 0 0, Value.func (Fn.func 62) #[] #[Value.pointer (some ⟨1, 0, none⟩)]] ?_
  refine WpCall.enterL c3 rfl ?_
  refine kp 7 (.int IntKind.i64 (-1)) ?_
  refine WpOps.nil (thenK_at (Wp.seq (Wp.seq (Wp.text ?_))))
  refine kp 24 (.int IntKind.i64 (-1)) ?_
  refine kp 25 (.bool true) ?_
  refine WpOps.nil (thenK_at (on' (Wp.seq (Wp.seq ?_))))
  refine Wp.region (by kernel_rfl) ?_
  refine kp 26 (.pointer (some ⟨0, 0, none⟩)) ?_
  refine kp 27 (.pointer (some ⟨0, 0, none⟩)) ?_
  refine kp 28 (.pointer (some ⟨0, 2, none⟩)) ?_
  refine kp 29 (.slice none 0 0) ?_
  refine kp 30 (.int IntKind.i64 (↑0 : Int)) ?_
  refine kp 31 (.pointer (some ⟨0, 0, none⟩)) ?_
  refine kp 32 (.pointer (some ⟨0, 0, none⟩)) ?_
  refine kp 33 (.pointer (some ⟨0, 0, none⟩)) ?_
  refine kp 34 (.int IntKind.i64 1) ?_
  refine kp 35 (.bool false) ?_
  refine WpOps.nil (thenK_at (off' (Wp.skip (thenK_at (Wp.seq (Wp.text ?_))))))
  refine kp 37 (.pointer (some ⟨0, 0, none⟩)) ?_
  refine kp 38 (.pointer (some ⟨0, 0, none⟩)) ?_
  refine kp 39 (.pointer (some ⟨0, 2, none⟩)) ?_
  refine kp 40 (.slice none 0 0) ?_
  refine kp 41 (.int IntKind.i64 (↑0 : Int)) ?_
  refine kp 7 (.int IntKind.i64 (↑0 : Int)) ?_
  refine WpOps.nil (thenK_at ?_)
  refine Wp.regionG (fun _ => one 64 [gv p] Heap.none (gv (ownG p)) Heap.none) (fun ok _ => one_sim c8 ok) [[0, 1, 2, 3, 4, 5, 6, 7, 8, 9, 10, 11, 12, 13, 14, 15, 16, 17, 18, 19, 20, 21, 22, 23], [0, 1, 2, 3, 4, 5, 6, 7, 8, 10, 11, 12, 9, 13, 14, 15, 16, 17, 18, 19, 20, 21, 22, 23]] (by kernel_rfl) [(0, .pointer (some ⟨0, 0, none⟩)), (3, .pointer (some ⟨5, 0, none⟩)), (4, .pointer (some ⟨6, 0, none⟩)), (7, .int .i64 0)] [st1, ar1, ⟨122, true, (wN T (ownG p))⟩, ⟨5, true, dC D T (fun _ => false)⟩, ⟨4, true, bC T (fun _ => false)⟩, ⟨24, true, (gc p)⟩, ⟨24, true, zc⟩] (allC ?_ (all1 ?_)) ?_
  · refine WpRun.ops [0, 1, 2, 3, 4, 5] [6, 7, 8, 9, 10, 11, 12, 13, 14, 15, 16, 17, 18, 19, 20, 21, 22, 23] (by kernel_rfl) ?_
    refine kp 42 (.pointer (some ⟨0, 0, none⟩)) ?_
    refine kp 43 (.pointer (some ⟨0, 0, none⟩)) ?_
    refine kp 44 (.pointer (some ⟨0, 0, none⟩)) ?_
    refine kp 45 (.pointer (some ⟨0, 2, none⟩)) ?_
    refine kp 46 (.slice none 0 0) ?_
    refine kp 47 (gv p) ?_
    refine WpOps.nil ?_
    refine WpRun.frame 6 [7, 8, 9, 10, 11, 12, 13, 14, 15, 16, 17, 18, 19, 20, 21, 22, 23] 48 64 [gv p] (gv (ownG p)) rfl (by kernel_rfl) (by kernel_rfl) (by kernel_rfl) (by kernel_rfl) (fun cf => by kernel_rfl) (frame_one c8 (by kernel_rfl) _) ?_
    refine WpRun.ops [7, 8, 9, 10, 11, 12, 13, 14, 15, 16, 17, 18, 19, 20, 21, 22, 23] [] (by kernel_rfl) ?_
    refine kp 49 (.pointer (some ⟨1, 5, none⟩)) ?_
    refine kp 50 (.int IntKind.i64 (Gr.total p)) ?_
    refine md 51 (.slice (some ⟨3, 0, none⟩) (Int.toNat (Gr.total p)) (Int.toNat (Gr.total p))) (Blk.mk 5 true (zeros [Value.int .u8 0] (Int.toNat (Gr.total p)))) ?_ (hop := fun _ => o_makeSlice (e := 5) q5)
    refine kp 52 (.pointer (some ⟨1, 5, none⟩)) ?_
    refine kp 53 (.int IntKind.i64 (Gr.total p)) ?_
    refine md 54 (.slice (some ⟨4, 0, none⟩) (Int.toNat (Gr.total p)) (Int.toNat (Gr.total p))) (Blk.mk 4 true (zeros [Value.bool false] (Int.toNat (Gr.total p)))) ?_ (hop := fun _ => o_makeSlice (e := 4) q5)
    refine kp 55 (.pointer (some ⟨0, 0, none⟩)) ?_
    refine kp 56 (.pointer (some ⟨0, 0, none⟩)) ?_
    refine kp 57 (.pointer (some ⟨0, 1, none⟩)) ?_
    refine kp 58 (.int IntKind.i64 60) ?_
    refine kp 59 (.agg #[Value.slice none 0 0, Value.slice none 0 0, Value.int .i64 0, Value.int .i64 0, Value.int .i64 0, Value.int .i64 0, Value.int .i64 0, Value.bool false, Value.bool false, Value.bool false, Value.string (ByteArray.mk #[]), Value.bool false, Value.iface 3 (Value.iface (List.length (Gr.fr (ownG p))) (Value.iface (Gr.fx (ownG p)) (Value.agg (List.toArray (List.map (fun n => Value.int .i64 n) (Gr.fr (ownG p))))))), Value.iface 3 (Value.iface (List.length (Gr.to (ownG p))) (Value.iface (Gr.tx (ownG p)) (Value.agg (List.toArray (List.map (fun n => Value.int .i64 n) (Gr.to (ownG p))))))), Value.int .i64 (Gr.number (ownG p)), Value.int .i64 (Gr.life (ownG p)), Value.int .i64 (Gr.at' (ownG p)), Value.int .i64 (Gr.total (ownG p)), Value.int .i64 (Gr.report (ownG p)), Value.bool (Gr.more (ownG p)), Value.bool (Gr.may (ownG p)), Value.bool (Gr.wants (ownG p)), Value.string (Gr.data (ownG p)), Value.slice (some ⟨3, 0, none⟩) (Int.toNat (Gr.total p)) (Int.toNat (Gr.total p)), Value.slice (some ⟨4, 0, none⟩) (Int.toNat (Gr.total p)) (Int.toNat (Gr.total p)), Value.int .i64 60]) ?_
    refine md 60 (.pointer (some ⟨5, 0, none⟩)) (Blk.mk 122 true [Value.slice none 0 0, Value.slice none 0 0, Value.int .i64 0, Value.int .i64 0, Value.int .i64 0, Value.int .i64 0, Value.int .i64 0, Value.bool false, Value.bool false, Value.bool false, Value.string (ByteArray.mk #[]), Value.bool false, Value.iface 3 (Value.iface (List.length (Gr.fr (ownG p))) (Value.iface (Gr.fx (ownG p)) (Value.agg (List.toArray (List.map (fun n => Value.int .i64 n) (Gr.fr (ownG p))))))), Value.iface 3 (Value.iface (List.length (Gr.to (ownG p))) (Value.iface (Gr.tx (ownG p)) (Value.agg (List.toArray (List.map (fun n => Value.int .i64 n) (Gr.to (ownG p))))))), Value.int .i64 (Gr.number (ownG p)), Value.int .i64 (Gr.life (ownG p)), Value.int .i64 (Gr.at' (ownG p)), Value.int .i64 (Gr.total (ownG p)), Value.int .i64 (Gr.report (ownG p)), Value.bool (Gr.more (ownG p)), Value.bool (Gr.may (ownG p)), Value.bool (Gr.wants (ownG p)), Value.string (Gr.data (ownG p)), Value.slice (some ⟨3, 0, none⟩) (Int.toNat (Gr.total p)) (Int.toNat (Gr.total p)), Value.slice (some ⟨4, 0, none⟩) (Int.toNat (Gr.total p)) (Int.toNat (Gr.total p)), Value.int .i64 60]) ?_
    refine md 61 (.slice (some ⟨6, 0, none⟩) 1 1) (Blk.mk 119 true [Value.pointer (some ⟨5, 0, none⟩)]) ?_
    refine md 62 (.slice (some ⟨7, 0, none⟩) 1 1) (Blk.mk 119 true [Value.pointer (some ⟨5, 0, none⟩)]) ?_
    refine kp 63 (.pointer (some ⟨0, 0, none⟩)) ?_
    refine kp 64 (.pointer (some ⟨0, 2, none⟩)) ?_
    refine ld (.tuple #[]) (0) (Blk.mk 66 true [Value.int .i64 1, Value.int .i64 60, Value.slice (some ⟨7, 0, none⟩) 1 1]) ?_
    refine WpOps.nil ?_
    exact WpRun.nil (View.of [0, 7, 5, 3, 4, 1, 2] [st1, ar1, ⟨122, true, (wN T (ownG p))⟩, ⟨5, true, dC D T (fun _ => false)⟩, ⟨4, true, bC T (fun _ => false)⟩, ⟨24, true, (gc p)⟩, ⟨24, true, zc⟩] _ (by decide) rfl ⟨⟨[.int .i64 1, .int .i64 60, .slice (some ⟨7, 0, none⟩) 1 1], by kernel_rfl, by kernel_rfl, by kernel_rfl⟩, ⟨[.pointer (some ⟨5, 0, none⟩)], by kernel_rfl, by kernel_rfl, by kernel_rfl⟩, ⟨[.slice none 0 0, .slice none 0 0, .int .i64 0, .int .i64 0, .int .i64 0, .int .i64 0, .int .i64 0, .bool false, .bool false, .bool false, .string ByteArray.empty, .bool false, sl (ownG p).fx (ownG p).fr, sl (ownG p).tx (ownG p).to, .int .i64 (ownG p).number, .int .i64 (ownG p).life, .int .i64 (ownG p).at', .int .i64 (ownG p).total, .int .i64 (ownG p).report, .bool (ownG p).more, .bool (ownG p).may, .bool (ownG p).wants, .string (ownG p).data, .slice (some ⟨3, 0, none⟩) p.total.toNat p.total.toNat, .slice (some ⟨4, 0, none⟩) p.total.toNat p.total.toNat, .int .i64 60], by kernel_rfl, by rw [hn]; kernel_rfl, by kernel_rfl⟩, ⟨zeros [.int .u8 0] p.total.toNat, by kernel_rfl, CellsOk.eq (by rw [hn]; exact dC_zero D T) (dC_flat _ _ _)⟩, ⟨zeros [.bool false] p.total.toNat, by kernel_rfl, CellsOk.eq (by rw [hn]; exact bC_zero T) (bC_flat _ _)⟩, ⟨_, by kernel_rfl, CellsOk.eq rfl (by kernel_rfl)⟩, ⟨_, by kernel_rfl, CellsOk.eq rfl (by kernel_rfl)⟩, trivial⟩ ⟨⟨by kernel_rfl, by kernel_rfl⟩, ⟨by kernel_rfl, by kernel_rfl⟩, ⟨by kernel_rfl, by kernel_rfl⟩, ⟨by kernel_rfl, rfl⟩, trivial⟩)
  · refine WpRun.ops [0, 1, 2, 3, 4, 5] [6, 7, 8, 10, 11, 12, 9, 13, 14, 15, 16, 17, 18, 19, 20, 21, 22, 23] (by kernel_rfl) ?_
    refine kp 42 (.pointer (some ⟨0, 0, none⟩)) ?_
    refine kp 43 (.pointer (some ⟨0, 0, none⟩)) ?_
    refine kp 44 (.pointer (some ⟨0, 0, none⟩)) ?_
    refine kp 45 (.pointer (some ⟨0, 2, none⟩)) ?_
    refine kp 46 (.slice none 0 0) ?_
    refine kp 47 (gv p) ?_
    refine WpOps.nil ?_
    refine WpRun.frame 6 [7, 8, 10, 11, 12, 9, 13, 14, 15, 16, 17, 18, 19, 20, 21, 22, 23] 48 64 [gv p] (gv (ownG p)) rfl (by kernel_rfl) (by kernel_rfl) (by kernel_rfl) (by kernel_rfl) (fun cf => by kernel_rfl) (frame_one c8 (by kernel_rfl) _) ?_
    refine WpRun.ops [7, 8, 10, 11, 12, 9, 13, 14, 15, 16, 17, 18, 19, 20, 21, 22, 23] [] (by kernel_rfl) ?_
    refine kp 49 (.pointer (some ⟨1, 5, none⟩)) ?_
    refine kp 50 (.int IntKind.i64 (Gr.total p)) ?_
    refine kp 52 (.pointer (some ⟨1, 5, none⟩)) ?_
    refine kp 53 (.int IntKind.i64 (Gr.total p)) ?_
    refine md 54 (.slice (some ⟨3, 0, none⟩) (Int.toNat (Gr.total p)) (Int.toNat (Gr.total p))) (Blk.mk 4 true (zeros [Value.bool false] (Int.toNat (Gr.total p)))) ?_ (hop := fun _ => o_makeSlice (e := 4) q5)
    refine md 51 (.slice (some ⟨4, 0, none⟩) (Int.toNat (Gr.total p)) (Int.toNat (Gr.total p))) (Blk.mk 5 true (zeros [Value.int .u8 0] (Int.toNat (Gr.total p)))) ?_ (hop := fun _ => o_makeSlice (e := 5) q5)
    refine kp 55 (.pointer (some ⟨0, 0, none⟩)) ?_
    refine kp 56 (.pointer (some ⟨0, 0, none⟩)) ?_
    refine kp 57 (.pointer (some ⟨0, 1, none⟩)) ?_
    refine kp 58 (.int IntKind.i64 60) ?_
    refine kp 59 (.agg #[Value.slice none 0 0, Value.slice none 0 0, Value.int .i64 0, Value.int .i64 0, Value.int .i64 0, Value.int .i64 0, Value.int .i64 0, Value.bool false, Value.bool false, Value.bool false, Value.string (ByteArray.mk #[]), Value.bool false, Value.iface 3 (Value.iface (List.length (Gr.fr (ownG p))) (Value.iface (Gr.fx (ownG p)) (Value.agg (List.toArray (List.map (fun n => Value.int .i64 n) (Gr.fr (ownG p))))))), Value.iface 3 (Value.iface (List.length (Gr.to (ownG p))) (Value.iface (Gr.tx (ownG p)) (Value.agg (List.toArray (List.map (fun n => Value.int .i64 n) (Gr.to (ownG p))))))), Value.int .i64 (Gr.number (ownG p)), Value.int .i64 (Gr.life (ownG p)), Value.int .i64 (Gr.at' (ownG p)), Value.int .i64 (Gr.total (ownG p)), Value.int .i64 (Gr.report (ownG p)), Value.bool (Gr.more (ownG p)), Value.bool (Gr.may (ownG p)), Value.bool (Gr.wants (ownG p)), Value.string (Gr.data (ownG p)), Value.slice (some ⟨4, 0, none⟩) (Int.toNat (Gr.total p)) (Int.toNat (Gr.total p)), Value.slice (some ⟨3, 0, none⟩) (Int.toNat (Gr.total p)) (Int.toNat (Gr.total p)), Value.int .i64 60]) ?_
    refine md 60 (.pointer (some ⟨5, 0, none⟩)) (Blk.mk 122 true [Value.slice none 0 0, Value.slice none 0 0, Value.int .i64 0, Value.int .i64 0, Value.int .i64 0, Value.int .i64 0, Value.int .i64 0, Value.bool false, Value.bool false, Value.bool false, Value.string (ByteArray.mk #[]), Value.bool false, Value.iface 3 (Value.iface (List.length (Gr.fr (ownG p))) (Value.iface (Gr.fx (ownG p)) (Value.agg (List.toArray (List.map (fun n => Value.int .i64 n) (Gr.fr (ownG p))))))), Value.iface 3 (Value.iface (List.length (Gr.to (ownG p))) (Value.iface (Gr.tx (ownG p)) (Value.agg (List.toArray (List.map (fun n => Value.int .i64 n) (Gr.to (ownG p))))))), Value.int .i64 (Gr.number (ownG p)), Value.int .i64 (Gr.life (ownG p)), Value.int .i64 (Gr.at' (ownG p)), Value.int .i64 (Gr.total (ownG p)), Value.int .i64 (Gr.report (ownG p)), Value.bool (Gr.more (ownG p)), Value.bool (Gr.may (ownG p)), Value.bool (Gr.wants (ownG p)), Value.string (Gr.data (ownG p)), Value.slice (some ⟨4, 0, none⟩) (Int.toNat (Gr.total p)) (Int.toNat (Gr.total p)), Value.slice (some ⟨3, 0, none⟩) (Int.toNat (Gr.total p)) (Int.toNat (Gr.total p)), Value.int .i64 60]) ?_
    refine md 61 (.slice (some ⟨6, 0, none⟩) 1 1) (Blk.mk 119 true [Value.pointer (some ⟨5, 0, none⟩)]) ?_
    refine md 62 (.slice (some ⟨7, 0, none⟩) 1 1) (Blk.mk 119 true [Value.pointer (some ⟨5, 0, none⟩)]) ?_
    refine kp 63 (.pointer (some ⟨0, 0, none⟩)) ?_
    refine kp 64 (.pointer (some ⟨0, 2, none⟩)) ?_
    refine ld (.tuple #[]) (0) (Blk.mk 66 true [Value.int .i64 1, Value.int .i64 60, Value.slice (some ⟨7, 0, none⟩) 1 1]) ?_
    refine WpOps.nil ?_
    exact WpRun.nil (View.of [0, 7, 5, 4, 3, 1, 2] [st1, ar1, ⟨122, true, (wN T (ownG p))⟩, ⟨5, true, dC D T (fun _ => false)⟩, ⟨4, true, bC T (fun _ => false)⟩, ⟨24, true, (gc p)⟩, ⟨24, true, zc⟩] _ (by decide) rfl ⟨⟨[.int .i64 1, .int .i64 60, .slice (some ⟨7, 0, none⟩) 1 1], by kernel_rfl, by kernel_rfl, by kernel_rfl⟩, ⟨[.pointer (some ⟨5, 0, none⟩)], by kernel_rfl, by kernel_rfl, by kernel_rfl⟩, ⟨[.slice none 0 0, .slice none 0 0, .int .i64 0, .int .i64 0, .int .i64 0, .int .i64 0, .int .i64 0, .bool false, .bool false, .bool false, .string ByteArray.empty, .bool false, sl (ownG p).fx (ownG p).fr, sl (ownG p).tx (ownG p).to, .int .i64 (ownG p).number, .int .i64 (ownG p).life, .int .i64 (ownG p).at', .int .i64 (ownG p).total, .int .i64 (ownG p).report, .bool (ownG p).more, .bool (ownG p).may, .bool (ownG p).wants, .string (ownG p).data, .slice (some ⟨4, 0, none⟩) p.total.toNat p.total.toNat, .slice (some ⟨3, 0, none⟩) p.total.toNat p.total.toNat, .int .i64 60], by kernel_rfl, by rw [hn]; kernel_rfl, by kernel_rfl⟩, ⟨zeros [.int .u8 0] p.total.toNat, by kernel_rfl, CellsOk.eq (by rw [hn]; exact dC_zero D T) (dC_flat _ _ _)⟩, ⟨zeros [.bool false] p.total.toNat, by kernel_rfl, CellsOk.eq (by rw [hn]; exact bC_zero T) (bC_flat _ _)⟩, ⟨_, by kernel_rfl, CellsOk.eq rfl (by kernel_rfl)⟩, ⟨_, by kernel_rfl, CellsOk.eq rfl (by kernel_rfl)⟩, trivial⟩ ⟨⟨by kernel_rfl, by kernel_rfl⟩, ⟨by kernel_rfl, by kernel_rfl⟩, ⟨by kernel_rfl, by kernel_rfl⟩, ⟨by kernel_rfl, rfl⟩, trivial⟩)
  · refine thenK_at (Wp.seq (Wp.text ?_))
    refine kp 65 (.pointer (some ⟨0, 0, none⟩)) ?_
    refine kp 66 (.pointer (some ⟨0, 0, none⟩)) ?_
    refine kp 67 (.pointer (some ⟨0, 2, none⟩)) ?_
    refine kp 68 (.slice (some ⟨1, 0, none⟩) 1 1) ?_
    refine kp 69 (.int IntKind.i64 0) ?_
    refine kp 70 (.pointer (some ⟨1, 0, none⟩)) ?_
    refine kp 71 (.pointer (some ⟨2, 0, none⟩)) ?_
    refine kp 8 (.pointer (some ⟨2, 0, none⟩)) ?_
    refine WpOps.nil (thenK_at (Wp.seq (Wp.seq ?_)))
    refine Wp.region (by kernel_rfl) ?_
    refine kp 72 (.pointer (some ⟨2, 0, none⟩)) ?_
    refine kp 73 (.pointer (some ⟨2, 0, none⟩)) ?_
    refine kp 74 (.pointer (some ⟨2, 12, none⟩)) ?_
    refine kp 75 (.pointer (some ⟨2, 17, none⟩)) ?_
    refine kp 76 (.int IntKind.i64 (Gr.total (ownG p))) ?_
    refine kp 77 (.pointer (some ⟨5, 5, none⟩)) ?_
    refine kp 78 (.int IntKind.i64 (Gr.total p)) ?_
    refine kp 79 (.bool false) ?_ (hop := fun _ => by_fact d1)
    refine WpOps.nil (thenK_at (off' (Wp.skip (thenK_at (Wp.seq (Wp.text ?_))))))
    refine kp 81 (.pointer (some ⟨2, 0, none⟩)) ?_
    refine kp 82 (gv p) ?_
    refine cl 83 65 [Value.pointer (some ⟨2, 0, none⟩), gv p] ?_
    refine WpCall.enterL c4 rfl ?_
    refine WpOps.nil (thenK_at (Wp.seq (Wp.seq (Wp.text ?_))))
    refine kp 84 (.pointer (some ⟨2, 0, none⟩)) ?_
    refine kp 85 (.pointer (some ⟨2, 0, none⟩)) ?_
    refine kp 86 (.pointer (some ⟨2, 11, none⟩)) ?_
    refine kp 87 (.bool false) ?_
    refine kp 88 (.bool true) ?_
    refine kp 89 (.bool true) ?_
    refine um 90 ?_
    refine um 91 ?_
    refine um 92 ?_
    refine um 93 ?_
    refine um 94 ?_
    refine kp 95 (.bool true) ?_
    refine WpOps.nil (thenK_at (on' (Wp.seq (Wp.text ?_))))
    refine kp 96 (.agg zc.toArray) ?_
    refine ld (.tuple #[]) (6) (Blk.mk 24 true zc) ?_
    refine kp 5 (.bool false) ?_
    refine kp 6 (.int IntKind.i64 0) ?_
    refine WpOps.nil (thenK_at (Wp.ret (thenK_ret ?_)))
    refine endK_retn [Value.agg #[Value.slice none 0 0, Value.slice none 0 0, Value.int IntKind.i64 0, Value.int IntKind.i64 0, Value.int IntKind.i64 0, Value.int IntKind.i64 0, Value.int IntKind.i64 0, Value.bool false, Value.bool false, Value.bool false, Value.string (ByteArray.mk #[])], Value.bool false, Value.int IntKind.i64 0] (Value.tuple #[Value.agg #[Value.slice none 0 0, Value.slice none 0 0, Value.int IntKind.i64 0, Value.int IntKind.i64 0, Value.int IntKind.i64 0, Value.int IntKind.i64 0, Value.int IntKind.i64 0, Value.bool false, Value.bool false, Value.bool false, Value.string (ByteArray.mk #[])], Value.bool false, Value.int IntKind.i64 0]) (by kernel_rfl) (by kernel_rfl) ?_
    exact LentEnd.less (lentSame [st1, ar1, ⟨122, true, (wN T (ownG p))⟩, ⟨5, true, dC D T (thN (fun _ => false) a p.data.size)⟩, ⟨4, true, bC T (thN (fun _ => false) a p.data.size)⟩] (pre5 ⟨by kernel_rfl, by kernel_rfl⟩ ⟨by kernel_rfl, by kernel_rfl⟩ ⟨by kernel_rfl, by kernel_rfl⟩ ⟨by kernel_rfl, okCs_flat (dC_flat _ _ _)⟩ ⟨by kernel_rfl, okCs_flat (bC_flat _ _)⟩) (.tuple _ _ (by kernel_rfl) rfl (.cons (.un rfl rfl) (.cons (.un rfl rfl) (.cons (.un rfl rfl) .nil))))) (show 1 ≤ 5 by decide)
set_option maxHeartbeats 8000000 in
theorem take_new_NB_inc (T : Nat) (D : ByteArray) (p : Gr) (ok : OkGr p) (hv : okG p = true) (a : Nat) (ha : p.at' = a) (hb : (p.at' == 0) = true) (hd : p.data = D.extract a (a + p.data.size)) (hD : a + p.data.size ≤ D.size) (hT : D.size = T) (hT2 : T ≤ 4000) (hpt : p.total = T) (m : Nat) (hm : m < T) (hm2 : (thN (fun _ => false) a p.data.size) m = false) (hall : ∀ i, i < m → (thN (fun _ => false) a p.data.size) i = true) : Lent E 32 [.pointer (some ⟨0, 0, none⟩), gv p] [⟨66, true, [.int .i64 1, .int .i64 60, .slice none 0 0]⟩] (.tuple #[.agg zc.toArray, .bool false, .int .i64 0]) [st1, ar1, ⟨122, true, (wB T (ownG p) (ownG p))⟩, ⟨5, true, dC D T (thN (fun _ => false) a p.data.size)⟩, ⟨4, true, bC T (thN (fun _ => false) a p.data.size)⟩] := by
  refine Lent.of f32 rfl (of_decide_eq_true (by kernel_rfl)) rfl rfl (Nat.le_of_ble_eq_true rfl) (by kernel_rfl) (all5 (by kernel_rfl) (by kernel_rfl) (by kernel_rfl) (okCs_flat (dC_flat _ _ _)) (okCs_flat (bC_flat _ _))) (by kernel_rfl) ?_
  have c1 := valid20 p (by have := ok.fl; omega) (by have := ok.tl; omega)
  rw [hv] at c1
  have c4 := put65NB T D (fun _ => false) (ownG p) p a ha hb ok hd hD hT hT2
  have c5 := cont66_some T D (thN (fun _ => false) a p.data.size) (ownG p) (ownG p) p hT2 m hm hm2 hall
  have c8 := own64 p ok
  have c2 := no60e p
  have c3 := idx61e p
  have d1 : ((ownG p).total != p.total) = false := by show (p.total != p.total) = false; simp
  have hn : p.total.toNat = T := by omega
  have q5 : 0 ≤ p.total ∧ p.total = p.total ∧ ((1 : Nat) : Int) * p.total ≤ 281474976710656 ∧ p.total ≤ 9223372036854775807 := by omega
  have d2 : decide ((0 : Int) ≥ 1) = false := rfl
  have q0 := hpt
  refine Wp.seq (Wp.text ?_)
  refine md 3 (.pointer (some ⟨1, 0, none⟩)) (Blk.mk 24 true (gc p)) ?_
  refine md 4 (.pointer (some ⟨2, 0, none⟩)) (Blk.mk 24 true zc) ?_
  refine kp 5 (.bool false) ?_
  refine kp 6 (.int IntKind.i64 0) ?_
  refine WpOps.nil (thenK_at (Wp.seq (Wp.seq (Wp.text ?_))))
  refine kp 10 (.pointer (some ⟨0, 0, none⟩)) ?_
  refine cl 11 60 [Value.pointer (some ⟨0, 0, none⟩)] ?_
  refine WpCall.enterL c2 (by simp only [none_heapOf, heapOf_alloc]; rfl) ?_
  refine kp 12 (.bool false) ?_
  refine kp 13 (gv p) ?_
  refine fr 14 20 [gv p] ?_
  refine WpFun.of (c1) ?_
  refine kp 15 (.bool false) ?_
  refine kp 16 (.bool false) ?_
  refine WpOps.nil (thenK_at (off' (Wp.skip (thenK_at (Wp.seq (Wp.text ?_))))))
  refine kp 18 (.pointer (some ⟨0, 0, none⟩)) ?_
  refine kp 19 (.pointer (some ⟨0, 0, none⟩)) ?_
  refine kp 20 (.pointer (some ⟨0, 2, none⟩)) ?_
  refine kp 21 (.slice none 0 0) ?_
  refine kp 22 (.func (Fn.func 62) #[] #[Value.pointer (some ⟨1, 0, none⟩)]) ?_
  refine cl 23 61 [Value.slice none 0 0, Value.func (Fn.func 62) #[] #[Value.pointer (some ⟨1, 0, none⟩)]] ?_
  refine WpCall.enterL c3 rfl ?_
  refine kp 7 (.int IntKind.i64 (-1)) ?_
  refine WpOps.nil (thenK_at (Wp.seq (Wp.seq (Wp.text ?_))))
  refine kp 24 (.int IntKind.i64 (-1)) ?_
  refine kp 25 (.bool true) ?_
  refine WpOps.nil (thenK_at (on' (Wp.seq (Wp.seq ?_))))
  refine Wp.region (by kernel_rfl) ?_
  refine kp 26 (.pointer (some ⟨0, 0, none⟩)) ?_
  refine kp 27 (.pointer (some ⟨0, 0, none⟩)) ?_
  refine kp 28 (.pointer (some ⟨0, 2, none⟩)) ?_
  refine kp 29 (.slice none 0 0) ?_
  refine kp 30 (.int IntKind.i64 (↑0 : Int)) ?_
  refine kp 31 (.pointer (some ⟨0, 0, none⟩)) ?_
  refine kp 32 (.pointer (some ⟨0, 0, none⟩)) ?_
  refine kp 33 (.pointer (some ⟨0, 0, none⟩)) ?_
  refine kp 34 (.int IntKind.i64 1) ?_
  refine kp 35 (.bool false) ?_
  refine WpOps.nil (thenK_at (off' (Wp.skip (thenK_at (Wp.seq (Wp.text ?_))))))
  refine kp 37 (.pointer (some ⟨0, 0, none⟩)) ?_
  refine kp 38 (.pointer (some ⟨0, 0, none⟩)) ?_
  refine kp 39 (.pointer (some ⟨0, 2, none⟩)) ?_
  refine kp 40 (.slice none 0 0) ?_
  refine kp 41 (.int IntKind.i64 (↑0 : Int)) ?_
  refine kp 7 (.int IntKind.i64 (↑0 : Int)) ?_
  refine WpOps.nil (thenK_at ?_)
  refine Wp.regionG (fun _ => one 64 [gv p] Heap.none (gv (ownG p)) Heap.none) (fun ok _ => one_sim c8 ok) [[0, 1, 2, 3, 4, 5, 6, 7, 8, 9, 10, 11, 12, 13, 14, 15, 16, 17, 18, 19, 20, 21, 22, 23], [0, 1, 2, 3, 4, 5, 6, 7, 8, 10, 11, 12, 9, 13, 14, 15, 16, 17, 18, 19, 20, 21, 22, 23]] (by kernel_rfl) [(0, .pointer (some ⟨0, 0, none⟩)), (3, .pointer (some ⟨5, 0, none⟩)), (4, .pointer (some ⟨6, 0, none⟩)), (7, .int .i64 0)] [st1, ar1, ⟨122, true, (wN T (ownG p))⟩, ⟨5, true, dC D T (fun _ => false)⟩, ⟨4, true, bC T (fun _ => false)⟩, ⟨24, true, (gc p)⟩, ⟨24, true, zc⟩] (allC ?_ (all1 ?_)) ?_
  · refine WpRun.ops [0, 1, 2, 3, 4, 5] [6, 7, 8, 9, 10, 11, 12, 13, 14, 15, 16, 17, 18, 19, 20, 21, 22, 23] (by kernel_rfl) ?_
    refine kp 42 (.pointer (some ⟨0, 0, none⟩)) ?_
    refine kp 43 (.pointer (some ⟨0, 0, none⟩)) ?_
    refine kp 44 (.pointer (some ⟨0, 0, none⟩)) ?_
    refine kp 45 (.pointer (some ⟨0, 2, none⟩)) ?_
    refine kp 46 (.slice none 0 0) ?_
    refine kp 47 (gv p) ?_
    refine WpOps.nil ?_
    refine WpRun.frame 6 [7, 8, 9, 10, 11, 12, 13, 14, 15, 16, 17, 18, 19, 20, 21, 22, 23] 48 64 [gv p] (gv (ownG p)) rfl (by kernel_rfl) (by kernel_rfl) (by kernel_rfl) (by kernel_rfl) (fun cf => by kernel_rfl) (frame_one c8 (by kernel_rfl) _) ?_
    refine WpRun.ops [7, 8, 9, 10, 11, 12, 13, 14, 15, 16, 17, 18, 19, 20, 21, 22, 23] [] (by kernel_rfl) ?_
    refine kp 49 (.pointer (some ⟨1, 5, none⟩)) ?_
    refine kp 50 (.int IntKind.i64 (Gr.total p)) ?_
    refine md 51 (.slice (some ⟨3, 0, none⟩) (Int.toNat (Gr.total p)) (Int.toNat (Gr.total p))) (Blk.mk 5 true (zeros [Value.int .u8 0] (Int.toNat (Gr.total p)))) ?_ (hop := fun _ => o_makeSlice (e := 5) q5)
    refine kp 52 (.pointer (some ⟨1, 5, none⟩)) ?_
    refine kp 53 (.int IntKind.i64 (Gr.total p)) ?_
    refine md 54 (.slice (some ⟨4, 0, none⟩) (Int.toNat (Gr.total p)) (Int.toNat (Gr.total p))) (Blk.mk 4 true (zeros [Value.bool false] (Int.toNat (Gr.total p)))) ?_ (hop := fun _ => o_makeSlice (e := 4) q5)
    refine kp 55 (.pointer (some ⟨0, 0, none⟩)) ?_
    refine kp 56 (.pointer (some ⟨0, 0, none⟩)) ?_
    refine kp 57 (.pointer (some ⟨0, 1, none⟩)) ?_
    refine kp 58 (.int IntKind.i64 60) ?_
    refine kp 59 (.agg #[Value.slice none 0 0, Value.slice none 0 0, Value.int .i64 0, Value.int .i64 0, Value.int .i64 0, Value.int .i64 0, Value.int .i64 0, Value.bool false, Value.bool false, Value.bool false, Value.string (ByteArray.mk #[]), Value.bool false, Value.iface 3 (Value.iface (List.length (Gr.fr (ownG p))) (Value.iface (Gr.fx (ownG p)) (Value.agg (List.toArray (List.map (fun n => Value.int .i64 n) (Gr.fr (ownG p))))))), Value.iface 3 (Value.iface (List.length (Gr.to (ownG p))) (Value.iface (Gr.tx (ownG p)) (Value.agg (List.toArray (List.map (fun n => Value.int .i64 n) (Gr.to (ownG p))))))), Value.int .i64 (Gr.number (ownG p)), Value.int .i64 (Gr.life (ownG p)), Value.int .i64 (Gr.at' (ownG p)), Value.int .i64 (Gr.total (ownG p)), Value.int .i64 (Gr.report (ownG p)), Value.bool (Gr.more (ownG p)), Value.bool (Gr.may (ownG p)), Value.bool (Gr.wants (ownG p)), Value.string (Gr.data (ownG p)), Value.slice (some ⟨3, 0, none⟩) (Int.toNat (Gr.total p)) (Int.toNat (Gr.total p)), Value.slice (some ⟨4, 0, none⟩) (Int.toNat (Gr.total p)) (Int.toNat (Gr.total p)), Value.int .i64 60]) ?_
    refine md 60 (.pointer (some ⟨5, 0, none⟩)) (Blk.mk 122 true [Value.slice none 0 0, Value.slice none 0 0, Value.int .i64 0, Value.int .i64 0, Value.int .i64 0, Value.int .i64 0, Value.int .i64 0, Value.bool false, Value.bool false, Value.bool false, Value.string (ByteArray.mk #[]), Value.bool false, Value.iface 3 (Value.iface (List.length (Gr.fr (ownG p))) (Value.iface (Gr.fx (ownG p)) (Value.agg (List.toArray (List.map (fun n => Value.int .i64 n) (Gr.fr (ownG p))))))), Value.iface 3 (Value.iface (List.length (Gr.to (ownG p))) (Value.iface (Gr.tx (ownG p)) (Value.agg (List.toArray (List.map (fun n => Value.int .i64 n) (Gr.to (ownG p))))))), Value.int .i64 (Gr.number (ownG p)), Value.int .i64 (Gr.life (ownG p)), Value.int .i64 (Gr.at' (ownG p)), Value.int .i64 (Gr.total (ownG p)), Value.int .i64 (Gr.report (ownG p)), Value.bool (Gr.more (ownG p)), Value.bool (Gr.may (ownG p)), Value.bool (Gr.wants (ownG p)), Value.string (Gr.data (ownG p)), Value.slice (some ⟨3, 0, none⟩) (Int.toNat (Gr.total p)) (Int.toNat (Gr.total p)), Value.slice (some ⟨4, 0, none⟩) (Int.toNat (Gr.total p)) (Int.toNat (Gr.total p)), Value.int .i64 60]) ?_
    refine md 61 (.slice (some ⟨6, 0, none⟩) 1 1) (Blk.mk 119 true [Value.pointer (some ⟨5, 0, none⟩)]) ?_
    refine md 62 (.slice (some ⟨7, 0, none⟩) 1 1) (Blk.mk 119 true [Value.pointer (some ⟨5, 0, none⟩)]) ?_
    refine kp 63 (.pointer (some ⟨0, 0, none⟩)) ?_
    refine kp 64 (.pointer (some ⟨0, 2, none⟩)) ?_
    refine ld (.tuple #[]) (0) (Blk.mk 66 true [Value.int .i64 1, Value.int .i64 60, Value.slice (some ⟨7, 0, none⟩) 1 1]) ?_
    refine WpOps.nil ?_
    exact WpRun.nil (View.of [0, 7, 5, 3, 4, 1, 2] [st1, ar1, ⟨122, true, (wN T (ownG p))⟩, ⟨5, true, dC D T (fun _ => false)⟩, ⟨4, true, bC T (fun _ => false)⟩, ⟨24, true, (gc p)⟩, ⟨24, true, zc⟩] _ (by decide) rfl ⟨⟨[.int .i64 1, .int .i64 60, .slice (some ⟨7, 0, none⟩) 1 1], by kernel_rfl, by kernel_rfl, by kernel_rfl⟩, ⟨[.pointer (some ⟨5, 0, none⟩)], by kernel_rfl, by kernel_rfl, by kernel_rfl⟩, ⟨[.slice none 0 0, .slice none 0 0, .int .i64 0, .int .i64 0, .int .i64 0, .int .i64 0, .int .i64 0, .bool false, .bool false, .bool false, .string ByteArray.empty, .bool false, sl (ownG p).fx (ownG p).fr, sl (ownG p).tx (ownG p).to, .int .i64 (ownG p).number, .int .i64 (ownG p).life, .int .i64 (ownG p).at', .int .i64 (ownG p).total, .int .i64 (ownG p).report, .bool (ownG p).more, .bool (ownG p).may, .bool (ownG p).wants, .string (ownG p).data, .slice (some ⟨3, 0, none⟩) p.total.toNat p.total.toNat, .slice (some ⟨4, 0, none⟩) p.total.toNat p.total.toNat, .int .i64 60], by kernel_rfl, by rw [hn]; kernel_rfl, by kernel_rfl⟩, ⟨zeros [.int .u8 0] p.total.toNat, by kernel_rfl, CellsOk.eq (by rw [hn]; exact dC_zero D T) (dC_flat _ _ _)⟩, ⟨zeros [.bool false] p.total.toNat, by kernel_rfl, CellsOk.eq (by rw [hn]; exact bC_zero T) (bC_flat _ _)⟩, ⟨_, by kernel_rfl, CellsOk.eq rfl (by kernel_rfl)⟩, ⟨_, by kernel_rfl, CellsOk.eq rfl (by kernel_rfl)⟩, trivial⟩ ⟨⟨by kernel_rfl, by kernel_rfl⟩, ⟨by kernel_rfl, by kernel_rfl⟩, ⟨by kernel_rfl, by kernel_rfl⟩, ⟨by kernel_rfl, rfl⟩, trivial⟩)
  · refine WpRun.ops [0, 1, 2, 3, 4, 5] [6, 7, 8, 10, 11, 12, 9, 13, 14, 15, 16, 17, 18, 19, 20, 21, 22, 23] (by kernel_rfl) ?_
    refine kp 42 (.pointer (some ⟨0, 0, none⟩)) ?_
    refine kp 43 (.pointer (some ⟨0, 0, none⟩)) ?_
    refine kp 44 (.pointer (some ⟨0, 0, none⟩)) ?_
    refine kp 45 (.pointer (some ⟨0, 2, none⟩)) ?_
    refine kp 46 (.slice none 0 0) ?_
    refine kp 47 (gv p) ?_
    refine WpOps.nil ?_
    refine WpRun.frame 6 [7, 8, 10, 11, 12, 9, 13, 14, 15, 16, 17, 18, 19, 20, 21, 22, 23] 48 64 [gv p] (gv (ownG p)) rfl (by kernel_rfl) (by kernel_rfl) (by kernel_rfl) (by kernel_rfl) (fun cf => by kernel_rfl) (frame_one c8 (by kernel_rfl) _) ?_
    refine WpRun.ops [7, 8, 10, 11, 12, 9, 13, 14, 15, 16, 17, 18, 19, 20, 21, 22, 23] [] (by kernel_rfl) ?_
    refine kp 49 (.pointer (some ⟨1, 5, none⟩)) ?_
    refine kp 50 (.int IntKind.i64 (Gr.total p)) ?_
    refine kp 52 (.pointer (some ⟨1, 5, none⟩)) ?_
    refine kp 53 (.int IntKind.i64 (Gr.total p)) ?_
    refine md 54 (.slice (some ⟨3, 0, none⟩) (Int.toNat (Gr.total p)) (Int.toNat (Gr.total p))) (Blk.mk 4 true (zeros [Value.bool false] (Int.toNat (Gr.total p)))) ?_ (hop := fun _ => o_makeSlice (e := 4) q5)
    refine md 51 (.slice (some ⟨4, 0, none⟩) (Int.toNat (Gr.total p)) (Int.toNat (Gr.total p))) (Blk.mk 5 true (zeros [Value.int .u8 0] (Int.toNat (Gr.total p)))) ?_ (hop := fun _ => o_makeSlice (e := 5) q5)
    refine kp 55 (.pointer (some ⟨0, 0, none⟩)) ?_
    refine kp 56 (.pointer (some ⟨0, 0, none⟩)) ?_
    refine kp 57 (.pointer (some ⟨0, 1, none⟩)) ?_
    refine kp 58 (.int IntKind.i64 60) ?_
    refine kp 59 (.agg #[Value.slice none 0 0, Value.slice none 0 0, Value.int .i64 0, Value.int .i64 0, Value.int .i64 0, Value.int .i64 0, Value.int .i64 0, Value.bool false, Value.bool false, Value.bool false, Value.string (ByteArray.mk #[]), Value.bool false, Value.iface 3 (Value.iface (List.length (Gr.fr (ownG p))) (Value.iface (Gr.fx (ownG p)) (Value.agg (List.toArray (List.map (fun n => Value.int .i64 n) (Gr.fr (ownG p))))))), Value.iface 3 (Value.iface (List.length (Gr.to (ownG p))) (Value.iface (Gr.tx (ownG p)) (Value.agg (List.toArray (List.map (fun n => Value.int .i64 n) (Gr.to (ownG p))))))), Value.int .i64 (Gr.number (ownG p)), Value.int .i64 (Gr.life (ownG p)), Value.int .i64 (Gr.at' (ownG p)), Value.int .i64 (Gr.total (ownG p)), Value.int .i64 (Gr.report (ownG p)), Value.bool (Gr.more (ownG p)), Value.bool (Gr.may (ownG p)), Value.bool (Gr.wants (ownG p)), Value.string (Gr.data (ownG p)), Value.slice (some ⟨4, 0, none⟩) (Int.toNat (Gr.total p)) (Int.toNat (Gr.total p)), Value.slice (some ⟨3, 0, none⟩) (Int.toNat (Gr.total p)) (Int.toNat (Gr.total p)), Value.int .i64 60]) ?_
    refine md 60 (.pointer (some ⟨5, 0, none⟩)) (Blk.mk 122 true [Value.slice none 0 0, Value.slice none 0 0, Value.int .i64 0, Value.int .i64 0, Value.int .i64 0, Value.int .i64 0, Value.int .i64 0, Value.bool false, Value.bool false, Value.bool false, Value.string (ByteArray.mk #[]), Value.bool false, Value.iface 3 (Value.iface (List.length (Gr.fr (ownG p))) (Value.iface (Gr.fx (ownG p)) (Value.agg (List.toArray (List.map (fun n => Value.int .i64 n) (Gr.fr (ownG p))))))), Value.iface 3 (Value.iface (List.length (Gr.to (ownG p))) (Value.iface (Gr.tx (ownG p)) (Value.agg (List.toArray (List.map (fun n => Value.int .i64 n) (Gr.to (ownG p))))))), Value.int .i64 (Gr.number (ownG p)), Value.int .i64 (Gr.life (ownG p)), Value.int .i64 (Gr.at' (ownG p)), Value.int .i64 (Gr.total (ownG p)), Value.int .i64 (Gr.report (ownG p)), Value.bool (Gr.more (ownG p)), Value.bool (Gr.may (ownG p)), Value.bool (Gr.wants (ownG p)), Value.string (Gr.data (ownG p)), Value.slice (some ⟨4, 0, none⟩) (Int.toNat (Gr.total p)) (Int.toNat (Gr.total p)), Value.slice (some ⟨3, 0, none⟩) (Int.toNat (Gr.total p)) (Int.toNat (Gr.total p)), Value.int .i64 60]) ?_
    refine md 61 (.slice (some ⟨6, 0, none⟩) 1 1) (Blk.mk 119 true [Value.pointer (some ⟨5, 0, none⟩)]) ?_
    refine md 62 (.slice (some ⟨7, 0, none⟩) 1 1) (Blk.mk 119 true [Value.pointer (some ⟨5, 0, none⟩)]) ?_
    refine kp 63 (.pointer (some ⟨0, 0, none⟩)) ?_
    refine kp 64 (.pointer (some ⟨0, 2, none⟩)) ?_
    refine ld (.tuple #[]) (0) (Blk.mk 66 true [Value.int .i64 1, Value.int .i64 60, Value.slice (some ⟨7, 0, none⟩) 1 1]) ?_
    refine WpOps.nil ?_
    exact WpRun.nil (View.of [0, 7, 5, 4, 3, 1, 2] [st1, ar1, ⟨122, true, (wN T (ownG p))⟩, ⟨5, true, dC D T (fun _ => false)⟩, ⟨4, true, bC T (fun _ => false)⟩, ⟨24, true, (gc p)⟩, ⟨24, true, zc⟩] _ (by decide) rfl ⟨⟨[.int .i64 1, .int .i64 60, .slice (some ⟨7, 0, none⟩) 1 1], by kernel_rfl, by kernel_rfl, by kernel_rfl⟩, ⟨[.pointer (some ⟨5, 0, none⟩)], by kernel_rfl, by kernel_rfl, by kernel_rfl⟩, ⟨[.slice none 0 0, .slice none 0 0, .int .i64 0, .int .i64 0, .int .i64 0, .int .i64 0, .int .i64 0, .bool false, .bool false, .bool false, .string ByteArray.empty, .bool false, sl (ownG p).fx (ownG p).fr, sl (ownG p).tx (ownG p).to, .int .i64 (ownG p).number, .int .i64 (ownG p).life, .int .i64 (ownG p).at', .int .i64 (ownG p).total, .int .i64 (ownG p).report, .bool (ownG p).more, .bool (ownG p).may, .bool (ownG p).wants, .string (ownG p).data, .slice (some ⟨4, 0, none⟩) p.total.toNat p.total.toNat, .slice (some ⟨3, 0, none⟩) p.total.toNat p.total.toNat, .int .i64 60], by kernel_rfl, by rw [hn]; kernel_rfl, by kernel_rfl⟩, ⟨zeros [.int .u8 0] p.total.toNat, by kernel_rfl, CellsOk.eq (by rw [hn]; exact dC_zero D T) (dC_flat _ _ _)⟩, ⟨zeros [.bool false] p.total.toNat, by kernel_rfl, CellsOk.eq (by rw [hn]; exact bC_zero T) (bC_flat _ _)⟩, ⟨_, by kernel_rfl, CellsOk.eq rfl (by kernel_rfl)⟩, ⟨_, by kernel_rfl, CellsOk.eq rfl (by kernel_rfl)⟩, trivial⟩ ⟨⟨by kernel_rfl, by kernel_rfl⟩, ⟨by kernel_rfl, by kernel_rfl⟩, ⟨by kernel_rfl, by kernel_rfl⟩, ⟨by kernel_rfl, rfl⟩, trivial⟩)
  · refine thenK_at (Wp.seq (Wp.text ?_))
    refine kp 65 (.pointer (some ⟨0, 0, none⟩)) ?_
    refine kp 66 (.pointer (some ⟨0, 0, none⟩)) ?_
    refine kp 67 (.pointer (some ⟨0, 2, none⟩)) ?_
    refine kp 68 (.slice (some ⟨1, 0, none⟩) 1 1) ?_
    refine kp 69 (.int IntKind.i64 0) ?_
    refine kp 70 (.pointer (some ⟨1, 0, none⟩)) ?_
    refine kp 71 (.pointer (some ⟨2, 0, none⟩)) ?_
    refine kp 8 (.pointer (some ⟨2, 0, none⟩)) ?_
    refine WpOps.nil (thenK_at (Wp.seq (Wp.seq ?_)))
    refine Wp.region (by kernel_rfl) ?_
    refine kp 72 (.pointer (some ⟨2, 0, none⟩)) ?_
    refine kp 73 (.pointer (some ⟨2, 0, none⟩)) ?_
    refine kp 74 (.pointer (some ⟨2, 12, none⟩)) ?_
    refine kp 75 (.pointer (some ⟨2, 17, none⟩)) ?_
    refine kp 76 (.int IntKind.i64 (Gr.total (ownG p))) ?_
    refine kp 77 (.pointer (some ⟨5, 5, none⟩)) ?_
    refine kp 78 (.int IntKind.i64 (Gr.total p)) ?_
    refine kp 79 (.bool false) ?_ (hop := fun _ => by_fact d1)
    refine WpOps.nil (thenK_at (off' (Wp.skip (thenK_at (Wp.seq (Wp.text ?_))))))
    refine kp 81 (.pointer (some ⟨2, 0, none⟩)) ?_
    refine kp 82 (gv p) ?_
    refine cl 83 65 [Value.pointer (some ⟨2, 0, none⟩), gv p] ?_
    refine WpCall.enterL c4 rfl ?_
    refine WpOps.nil (thenK_at (Wp.seq (Wp.seq (Wp.text ?_))))
    refine kp 84 (.pointer (some ⟨2, 0, none⟩)) ?_
    refine kp 85 (.pointer (some ⟨2, 0, none⟩)) ?_
    refine kp 86 (.pointer (some ⟨2, 11, none⟩)) ?_
    refine kp 87 (.bool true) ?_
    refine kp 88 (.bool false) ?_
    refine kp 89 (.bool false) ?_
    refine kp 90 (.pointer (some ⟨2, 0, none⟩)) ?_
    refine kp 91 (.pointer (some ⟨2, 0, none⟩)) ?_
    refine kp 92 (.pointer (some ⟨2, 24, none⟩)) ?_
    refine kp 93 (.slice (some ⟨4, 0, none⟩) T T) ?_
    refine cl 94 66 [Value.slice (some ⟨4, 0, none⟩) T T, Value.bool false] ?_
    refine WpCall.enterL c5 rfl ?_
    refine kp 95 (.bool true) ?_
    refine WpOps.nil (thenK_at (on' (Wp.seq (Wp.text ?_))))
    refine kp 96 (.agg zc.toArray) ?_
    refine ld (.tuple #[]) (6) (Blk.mk 24 true zc) ?_
    refine kp 5 (.bool false) ?_
    refine kp 6 (.int IntKind.i64 0) ?_
    refine WpOps.nil (thenK_at (Wp.ret (thenK_ret ?_)))
    refine endK_retn [Value.agg #[Value.slice none 0 0, Value.slice none 0 0, Value.int IntKind.i64 0, Value.int IntKind.i64 0, Value.int IntKind.i64 0, Value.int IntKind.i64 0, Value.int IntKind.i64 0, Value.bool false, Value.bool false, Value.bool false, Value.string (ByteArray.mk #[])], Value.bool false, Value.int IntKind.i64 0] (Value.tuple #[Value.agg #[Value.slice none 0 0, Value.slice none 0 0, Value.int IntKind.i64 0, Value.int IntKind.i64 0, Value.int IntKind.i64 0, Value.int IntKind.i64 0, Value.int IntKind.i64 0, Value.bool false, Value.bool false, Value.bool false, Value.string (ByteArray.mk #[])], Value.bool false, Value.int IntKind.i64 0]) (by kernel_rfl) (by kernel_rfl) ?_
    exact LentEnd.less (lentSame [st1, ar1, ⟨122, true, (wB T (ownG p) (ownG p))⟩, ⟨5, true, dC D T (thN (fun _ => false) a p.data.size)⟩, ⟨4, true, bC T (thN (fun _ => false) a p.data.size)⟩] (pre5 ⟨by kernel_rfl, by kernel_rfl⟩ ⟨by kernel_rfl, by kernel_rfl⟩ ⟨by kernel_rfl, by kernel_rfl⟩ ⟨by kernel_rfl, okCs_flat (dC_flat _ _ _)⟩ ⟨by kernel_rfl, okCs_flat (bC_flat _ _)⟩) (.tuple _ _ (by kernel_rfl) rfl (.cons (.un rfl rfl) (.cons (.un rfl rfl) (.cons (.un rfl rfl) .nil))))) (show 1 ≤ 5 by decide)
set_option maxHeartbeats 8000000 in
theorem take_new_NB_done (T : Nat) (D : ByteArray) (p : Gr) (ok : OkGr p) (hv : okG p = true) (a : Nat) (ha : p.at' = a) (hb : (p.at' == 0) = true) (hd : p.data = D.extract a (a + p.data.size)) (hD : a + p.data.size ≤ D.size) (hT : D.size = T) (hT2 : T ≤ 4000) (hpt : p.total = T) (hall : ∀ i, i < T → (thN (fun _ => false) a p.data.size) i = true) : Lent E 32 [.pointer (some ⟨0, 0, none⟩), gv p] [⟨66, true, [.int .i64 1, .int .i64 60, .slice none 0 0]⟩] (.tuple #[.agg #[sl (ownG p).fx (ownG p).fr, sl (ownG p).tx (ownG p).to, .int .i64 (ownG p).number, .int .i64 (ownG p).life, .int .i64 (ownG p).at', .int .i64 (ownG p).total, .int .i64 (ownG p).report, .bool false, .bool (ownG p).may, .bool (ownG p).wants, .string D], .bool true, .int .i64 0]) [⟨66, true, [.int .i64 1, .int .i64 60, .slice (some ⟨1, 0, none⟩) 0 1]⟩, ⟨119, true, [.pointer none]⟩, ⟨122, true, (wB T (ownG p) (ownG p))⟩, ⟨5, true, dC D T (thN (fun _ => false) a p.data.size)⟩, ⟨4, true, bC T (thN (fun _ => false) a p.data.size)⟩] := by
  refine Lent.of f32 rfl (of_decide_eq_true (by kernel_rfl)) rfl rfl (Nat.le_of_ble_eq_true rfl) (by kernel_rfl) (all5 (by kernel_rfl) (by kernel_rfl) (by kernel_rfl) (okCs_flat (dC_flat _ _ _)) (okCs_flat (bC_flat _ _))) (by kernel_rfl) ?_
  have c1 := valid20 p (by have := ok.fl; omega) (by have := ok.tl; omega)
  rw [hv] at c1
  have c4 := put65NB T D (fun _ => false) (ownG p) p a ha hb ok hd hD hT hT2
  have c5 := cont66_all T D (thN (fun _ => false) a p.data.size) (ownG p) (ownG p) p hT2 hall
  have c6 := del67 T D (thN (fun _ => false) a p.data.size) (ownG p) (ownG p) p
  have hcb := dC_all hT hall
  have hca := dC_cells D T (thN (fun _ => false) a p.data.size)
  have c8 := own64 p ok
  have c2 := no60e p
  have c3 := idx61e p
  have d1 : ((ownG p).total != p.total) = false := by show (p.total != p.total) = false; simp
  have hn : p.total.toNat = T := by omega
  have q5 : 0 ≤ p.total ∧ p.total = p.total ∧ ((1 : Nat) : Int) * p.total ≤ 281474976710656 ∧ p.total ≤ 9223372036854775807 := by omega
  have d2 : decide ((0 : Int) ≥ 1) = false := rfl
  have q0 := hpt
  refine Wp.seq (Wp.text ?_)
  refine md 3 (.pointer (some ⟨1, 0, none⟩)) (Blk.mk 24 true (gc p)) ?_
  refine md 4 (.pointer (some ⟨2, 0, none⟩)) (Blk.mk 24 true zc) ?_
  refine kp 5 (.bool false) ?_
  refine kp 6 (.int IntKind.i64 0) ?_
  refine WpOps.nil (thenK_at (Wp.seq (Wp.seq (Wp.text ?_))))
  refine kp 10 (.pointer (some ⟨0, 0, none⟩)) ?_
  refine cl 11 60 [Value.pointer (some ⟨0, 0, none⟩)] ?_
  refine WpCall.enterL c2 (by simp only [none_heapOf, heapOf_alloc]; rfl) ?_
  refine kp 12 (.bool false) ?_
  refine kp 13 (gv p) ?_
  refine fr 14 20 [gv p] ?_
  refine WpFun.of (c1) ?_
  refine kp 15 (.bool false) ?_
  refine kp 16 (.bool false) ?_
  refine WpOps.nil (thenK_at (off' (Wp.skip (thenK_at (Wp.seq (Wp.text ?_))))))
  refine kp 18 (.pointer (some ⟨0, 0, none⟩)) ?_
  refine kp 19 (.pointer (some ⟨0, 0, none⟩)) ?_
  refine kp 20 (.pointer (some ⟨0, 2, none⟩)) ?_
  refine kp 21 (.slice none 0 0) ?_
  refine kp 22 (.func (Fn.func 62) #[] #[Value.pointer (some ⟨1, 0, none⟩)]) ?_
  refine cl 23 61 [Value.slice none 0 0, Value.func (Fn.func 62) #[] #[Value.pointer (some ⟨1, 0, none⟩)]] ?_
  refine WpCall.enterL c3 rfl ?_
  refine kp 7 (.int IntKind.i64 (-1)) ?_
  refine WpOps.nil (thenK_at (Wp.seq (Wp.seq (Wp.text ?_))))
  refine kp 24 (.int IntKind.i64 (-1)) ?_
  refine kp 25 (.bool true) ?_
  refine WpOps.nil (thenK_at (on' (Wp.seq (Wp.seq ?_))))
  refine Wp.region (by kernel_rfl) ?_
  refine kp 26 (.pointer (some ⟨0, 0, none⟩)) ?_
  refine kp 27 (.pointer (some ⟨0, 0, none⟩)) ?_
  refine kp 28 (.pointer (some ⟨0, 2, none⟩)) ?_
  refine kp 29 (.slice none 0 0) ?_
  refine kp 30 (.int IntKind.i64 (↑0 : Int)) ?_
  refine kp 31 (.pointer (some ⟨0, 0, none⟩)) ?_
  refine kp 32 (.pointer (some ⟨0, 0, none⟩)) ?_
  refine kp 33 (.pointer (some ⟨0, 0, none⟩)) ?_
  refine kp 34 (.int IntKind.i64 1) ?_
  refine kp 35 (.bool false) ?_
  refine WpOps.nil (thenK_at (off' (Wp.skip (thenK_at (Wp.seq (Wp.text ?_))))))
  refine kp 37 (.pointer (some ⟨0, 0, none⟩)) ?_
  refine kp 38 (.pointer (some ⟨0, 0, none⟩)) ?_
  refine kp 39 (.pointer (some ⟨0, 2, none⟩)) ?_
  refine kp 40 (.slice none 0 0) ?_
  refine kp 41 (.int IntKind.i64 (↑0 : Int)) ?_
  refine kp 7 (.int IntKind.i64 (↑0 : Int)) ?_
  refine WpOps.nil (thenK_at ?_)
  refine Wp.regionG (fun _ => one 64 [gv p] Heap.none (gv (ownG p)) Heap.none) (fun ok _ => one_sim c8 ok) [[0, 1, 2, 3, 4, 5, 6, 7, 8, 9, 10, 11, 12, 13, 14, 15, 16, 17, 18, 19, 20, 21, 22, 23], [0, 1, 2, 3, 4, 5, 6, 7, 8, 10, 11, 12, 9, 13, 14, 15, 16, 17, 18, 19, 20, 21, 22, 23]] (by kernel_rfl) [(0, .pointer (some ⟨0, 0, none⟩)), (3, .pointer (some ⟨5, 0, none⟩)), (4, .pointer (some ⟨6, 0, none⟩)), (7, .int .i64 0)] [st1, ar1, ⟨122, true, (wN T (ownG p))⟩, ⟨5, true, dC D T (fun _ => false)⟩, ⟨4, true, bC T (fun _ => false)⟩, ⟨24, true, (gc p)⟩, ⟨24, true, zc⟩] (allC ?_ (all1 ?_)) ?_
  · refine WpRun.ops [0, 1, 2, 3, 4, 5] [6, 7, 8, 9, 10, 11, 12, 13, 14, 15, 16, 17, 18, 19, 20, 21, 22, 23] (by kernel_rfl) ?_
    refine kp 42 (.pointer (some ⟨0, 0, none⟩)) ?_
    refine kp 43 (.pointer (some ⟨0, 0, none⟩)) ?_
    refine kp 44 (.pointer (some ⟨0, 0, none⟩)) ?_
    refine kp 45 (.pointer (some ⟨0, 2, none⟩)) ?_
    refine kp 46 (.slice none 0 0) ?_
    refine kp 47 (gv p) ?_
    refine WpOps.nil ?_
    refine WpRun.frame 6 [7, 8, 9, 10, 11, 12, 13, 14, 15, 16, 17, 18, 19, 20, 21, 22, 23] 48 64 [gv p] (gv (ownG p)) rfl (by kernel_rfl) (by kernel_rfl) (by kernel_rfl) (by kernel_rfl) (fun cf => by kernel_rfl) (frame_one c8 (by kernel_rfl) _) ?_
    refine WpRun.ops [7, 8, 9, 10, 11, 12, 13, 14, 15, 16, 17, 18, 19, 20, 21, 22, 23] [] (by kernel_rfl) ?_
    refine kp 49 (.pointer (some ⟨1, 5, none⟩)) ?_
    refine kp 50 (.int IntKind.i64 (Gr.total p)) ?_
    refine md 51 (.slice (some ⟨3, 0, none⟩) (Int.toNat (Gr.total p)) (Int.toNat (Gr.total p))) (Blk.mk 5 true (zeros [Value.int .u8 0] (Int.toNat (Gr.total p)))) ?_ (hop := fun _ => o_makeSlice (e := 5) q5)
    refine kp 52 (.pointer (some ⟨1, 5, none⟩)) ?_
    refine kp 53 (.int IntKind.i64 (Gr.total p)) ?_
    refine md 54 (.slice (some ⟨4, 0, none⟩) (Int.toNat (Gr.total p)) (Int.toNat (Gr.total p))) (Blk.mk 4 true (zeros [Value.bool false] (Int.toNat (Gr.total p)))) ?_ (hop := fun _ => o_makeSlice (e := 4) q5)
    refine kp 55 (.pointer (some ⟨0, 0, none⟩)) ?_
    refine kp 56 (.pointer (some ⟨0, 0, none⟩)) ?_
    refine kp 57 (.pointer (some ⟨0, 1, none⟩)) ?_
    refine kp 58 (.int IntKind.i64 60) ?_
    refine kp 59 (.agg #[Value.slice none 0 0, Value.slice none 0 0, Value.int .i64 0, Value.int .i64 0, Value.int .i64 0, Value.int .i64 0, Value.int .i64 0, Value.bool false, Value.bool false, Value.bool false, Value.string (ByteArray.mk #[]), Value.bool false, Value.iface 3 (Value.iface (List.length (Gr.fr (ownG p))) (Value.iface (Gr.fx (ownG p)) (Value.agg (List.toArray (List.map (fun n => Value.int .i64 n) (Gr.fr (ownG p))))))), Value.iface 3 (Value.iface (List.length (Gr.to (ownG p))) (Value.iface (Gr.tx (ownG p)) (Value.agg (List.toArray (List.map (fun n => Value.int .i64 n) (Gr.to (ownG p))))))), Value.int .i64 (Gr.number (ownG p)), Value.int .i64 (Gr.life (ownG p)), Value.int .i64 (Gr.at' (ownG p)), Value.int .i64 (Gr.total (ownG p)), Value.int .i64 (Gr.report (ownG p)), Value.bool (Gr.more (ownG p)), Value.bool (Gr.may (ownG p)), Value.bool (Gr.wants (ownG p)), Value.string (Gr.data (ownG p)), Value.slice (some ⟨3, 0, none⟩) (Int.toNat (Gr.total p)) (Int.toNat (Gr.total p)), Value.slice (some ⟨4, 0, none⟩) (Int.toNat (Gr.total p)) (Int.toNat (Gr.total p)), Value.int .i64 60]) ?_
    refine md 60 (.pointer (some ⟨5, 0, none⟩)) (Blk.mk 122 true [Value.slice none 0 0, Value.slice none 0 0, Value.int .i64 0, Value.int .i64 0, Value.int .i64 0, Value.int .i64 0, Value.int .i64 0, Value.bool false, Value.bool false, Value.bool false, Value.string (ByteArray.mk #[]), Value.bool false, Value.iface 3 (Value.iface (List.length (Gr.fr (ownG p))) (Value.iface (Gr.fx (ownG p)) (Value.agg (List.toArray (List.map (fun n => Value.int .i64 n) (Gr.fr (ownG p))))))), Value.iface 3 (Value.iface (List.length (Gr.to (ownG p))) (Value.iface (Gr.tx (ownG p)) (Value.agg (List.toArray (List.map (fun n => Value.int .i64 n) (Gr.to (ownG p))))))), Value.int .i64 (Gr.number (ownG p)), Value.int .i64 (Gr.life (ownG p)), Value.int .i64 (Gr.at' (ownG p)), Value.int .i64 (Gr.total (ownG p)), Value.int .i64 (Gr.report (ownG p)), Value.bool (Gr.more (ownG p)), Value.bool (Gr.may (ownG p)), Value.bool (Gr.wants (ownG p)), Value.string (Gr.data (ownG p)), Value.slice (some ⟨3, 0, none⟩) (Int.toNat (Gr.total p)) (Int.toNat (Gr.total p)), Value.slice (some ⟨4, 0, none⟩) (Int.toNat (Gr.total p)) (Int.toNat (Gr.total p)), Value.int .i64 60]) ?_
    refine md 61 (.slice (some ⟨6, 0, none⟩) 1 1) (Blk.mk 119 true [Value.pointer (some ⟨5, 0, none⟩)]) ?_
    refine md 62 (.slice (some ⟨7, 0, none⟩) 1 1) (Blk.mk 119 true [Value.pointer (some ⟨5, 0, none⟩)]) ?_
    refine kp 63 (.pointer (some ⟨0, 0, none⟩)) ?_
    refine kp 64 (.pointer (some ⟨0, 2, none⟩)) ?_
    refine ld (.tuple #[]) (0) (Blk.mk 66 true [Value.int .i64 1, Value.int .i64 60, Value.slice (some ⟨7, 0, none⟩) 1 1]) ?_
    refine WpOps.nil ?_
    exact WpRun.nil (View.of [0, 7, 5, 3, 4, 1, 2] [st1, ar1, ⟨122, true, (wN T (ownG p))⟩, ⟨5, true, dC D T (fun _ => false)⟩, ⟨4, true, bC T (fun _ => false)⟩, ⟨24, true, (gc p)⟩, ⟨24, true, zc⟩] _ (by decide) rfl ⟨⟨[.int .i64 1, .int .i64 60, .slice (some ⟨7, 0, none⟩) 1 1], by kernel_rfl, by kernel_rfl, by kernel_rfl⟩, ⟨[.pointer (some ⟨5, 0, none⟩)], by kernel_rfl, by kernel_rfl, by kernel_rfl⟩, ⟨[.slice none 0 0, .slice none 0 0, .int .i64 0, .int .i64 0, .int .i64 0, .int .i64 0, .int .i64 0, .bool false, .bool false, .bool false, .string ByteArray.empty, .bool false, sl (ownG p).fx (ownG p).fr, sl (ownG p).tx (ownG p).to, .int .i64 (ownG p).number, .int .i64 (ownG p).life, .int .i64 (ownG p).at', .int .i64 (ownG p).total, .int .i64 (ownG p).report, .bool (ownG p).more, .bool (ownG p).may, .bool (ownG p).wants, .string (ownG p).data, .slice (some ⟨3, 0, none⟩) p.total.toNat p.total.toNat, .slice (some ⟨4, 0, none⟩) p.total.toNat p.total.toNat, .int .i64 60], by kernel_rfl, by rw [hn]; kernel_rfl, by kernel_rfl⟩, ⟨zeros [.int .u8 0] p.total.toNat, by kernel_rfl, CellsOk.eq (by rw [hn]; exact dC_zero D T) (dC_flat _ _ _)⟩, ⟨zeros [.bool false] p.total.toNat, by kernel_rfl, CellsOk.eq (by rw [hn]; exact bC_zero T) (bC_flat _ _)⟩, ⟨_, by kernel_rfl, CellsOk.eq rfl (by kernel_rfl)⟩, ⟨_, by kernel_rfl, CellsOk.eq rfl (by kernel_rfl)⟩, trivial⟩ ⟨⟨by kernel_rfl, by kernel_rfl⟩, ⟨by kernel_rfl, by kernel_rfl⟩, ⟨by kernel_rfl, by kernel_rfl⟩, ⟨by kernel_rfl, rfl⟩, trivial⟩)
  · refine WpRun.ops [0, 1, 2, 3, 4, 5] [6, 7, 8, 10, 11, 12, 9, 13, 14, 15, 16, 17, 18, 19, 20, 21, 22, 23] (by kernel_rfl) ?_
    refine kp 42 (.pointer (some ⟨0, 0, none⟩)) ?_
    refine kp 43 (.pointer (some ⟨0, 0, none⟩)) ?_
    refine kp 44 (.pointer (some ⟨0, 0, none⟩)) ?_
    refine kp 45 (.pointer (some ⟨0, 2, none⟩)) ?_
    refine kp 46 (.slice none 0 0) ?_
    refine kp 47 (gv p) ?_
    refine WpOps.nil ?_
    refine WpRun.frame 6 [7, 8, 10, 11, 12, 9, 13, 14, 15, 16, 17, 18, 19, 20, 21, 22, 23] 48 64 [gv p] (gv (ownG p)) rfl (by kernel_rfl) (by kernel_rfl) (by kernel_rfl) (by kernel_rfl) (fun cf => by kernel_rfl) (frame_one c8 (by kernel_rfl) _) ?_
    refine WpRun.ops [7, 8, 10, 11, 12, 9, 13, 14, 15, 16, 17, 18, 19, 20, 21, 22, 23] [] (by kernel_rfl) ?_
    refine kp 49 (.pointer (some ⟨1, 5, none⟩)) ?_
    refine kp 50 (.int IntKind.i64 (Gr.total p)) ?_
    refine kp 52 (.pointer (some ⟨1, 5, none⟩)) ?_
    refine kp 53 (.int IntKind.i64 (Gr.total p)) ?_
    refine md 54 (.slice (some ⟨3, 0, none⟩) (Int.toNat (Gr.total p)) (Int.toNat (Gr.total p))) (Blk.mk 4 true (zeros [Value.bool false] (Int.toNat (Gr.total p)))) ?_ (hop := fun _ => o_makeSlice (e := 4) q5)
    refine md 51 (.slice (some ⟨4, 0, none⟩) (Int.toNat (Gr.total p)) (Int.toNat (Gr.total p))) (Blk.mk 5 true (zeros [Value.int .u8 0] (Int.toNat (Gr.total p)))) ?_ (hop := fun _ => o_makeSlice (e := 5) q5)
    refine kp 55 (.pointer (some ⟨0, 0, none⟩)) ?_
    refine kp 56 (.pointer (some ⟨0, 0, none⟩)) ?_
    refine kp 57 (.pointer (some ⟨0, 1, none⟩)) ?_
    refine kp 58 (.int IntKind.i64 60) ?_
    refine kp 59 (.agg #[Value.slice none 0 0, Value.slice none 0 0, Value.int .i64 0, Value.int .i64 0, Value.int .i64 0, Value.int .i64 0, Value.int .i64 0, Value.bool false, Value.bool false, Value.bool false, Value.string (ByteArray.mk #[]), Value.bool false, Value.iface 3 (Value.iface (List.length (Gr.fr (ownG p))) (Value.iface (Gr.fx (ownG p)) (Value.agg (List.toArray (List.map (fun n => Value.int .i64 n) (Gr.fr (ownG p))))))), Value.iface 3 (Value.iface (List.length (Gr.to (ownG p))) (Value.iface (Gr.tx (ownG p)) (Value.agg (List.toArray (List.map (fun n => Value.int .i64 n) (Gr.to (ownG p))))))), Value.int .i64 (Gr.number (ownG p)), Value.int .i64 (Gr.life (ownG p)), Value.int .i64 (Gr.at' (ownG p)), Value.int .i64 (Gr.total (ownG p)), Value.int .i64 (Gr.report (ownG p)), Value.bool (Gr.more (ownG p)), Value.bool (Gr.may (ownG p)), Value.bool (Gr.wants (ownG p)), Value.string (Gr.data (ownG p)), Value.slice (some ⟨4, 0, none⟩) (Int.toNat (Gr.total p)) (Int.toNat (Gr.total p)), Value.slice (some ⟨3, 0, none⟩) (Int.toNat (Gr.total p)) (Int.toNat (Gr.total p)), Value.int .i64 60]) ?_
    refine md 60 (.pointer (some ⟨5, 0, none⟩)) (Blk.mk 122 true [Value.slice none 0 0, Value.slice none 0 0, Value.int .i64 0, Value.int .i64 0, Value.int .i64 0, Value.int .i64 0, Value.int .i64 0, Value.bool false, Value.bool false, Value.bool false, Value.string (ByteArray.mk #[]), Value.bool false, Value.iface 3 (Value.iface (List.length (Gr.fr (ownG p))) (Value.iface (Gr.fx (ownG p)) (Value.agg (List.toArray (List.map (fun n => Value.int .i64 n) (Gr.fr (ownG p))))))), Value.iface 3 (Value.iface (List.length (Gr.to (ownG p))) (Value.iface (Gr.tx (ownG p)) (Value.agg (List.toArray (List.map (fun n => Value.int .i64 n) (Gr.to (ownG p))))))), Value.int .i64 (Gr.number (ownG p)), Value.int .i64 (Gr.life (ownG p)), Value.int .i64 (Gr.at' (ownG p)), Value.int .i64 (Gr.total (ownG p)), Value.int .i64 (Gr.report (ownG p)), Value.bool (Gr.more (ownG p)), Value.bool (Gr.may (ownG p)), Value.bool (Gr.wants (ownG p)), Value.string (Gr.data (ownG p)), Value.slice (some ⟨4, 0, none⟩) (Int.toNat (Gr.total p)) (Int.toNat (Gr.total p)), Value.slice (some ⟨3, 0, none⟩) (Int.toNat (Gr.total p)) (Int.toNat (Gr.total p)), Value.int .i64 60]) ?_
    refine md 61 (.slice (some ⟨6, 0, none⟩) 1 1) (Blk.mk 119 true [Value.pointer (some ⟨5, 0, none⟩)]) ?_
    refine md 62 (.slice (some ⟨7, 0, none⟩) 1 1) (Blk.mk 119 true [Value.pointer (some ⟨5, 0, none⟩)]) ?_
    refine kp 63 (.pointer (some ⟨0, 0, none⟩)) ?_
    refine kp 64 (.pointer (some ⟨0, 2, none⟩)) ?_
    refine ld (.tuple #[]) (0) (Blk.mk 66 true [Value.int .i64 1, Value.int .i64 60, Value.slice (some ⟨7, 0, none⟩) 1 1]) ?_
    refine WpOps.nil ?_
    exact WpRun.nil (View.of [0, 7, 5, 4, 3, 1, 2] [st1, ar1, ⟨122, true, (wN T (ownG p))⟩, ⟨5, true, dC D T (fun _ => false)⟩, ⟨4, true, bC T (fun _ => false)⟩, ⟨24, true, (gc p)⟩, ⟨24, true, zc⟩] _ (by decide) rfl ⟨⟨[.int .i64 1, .int .i64 60, .slice (some ⟨7, 0, none⟩) 1 1], by kernel_rfl, by kernel_rfl, by kernel_rfl⟩, ⟨[.pointer (some ⟨5, 0, none⟩)], by kernel_rfl, by kernel_rfl, by kernel_rfl⟩, ⟨[.slice none 0 0, .slice none 0 0, .int .i64 0, .int .i64 0, .int .i64 0, .int .i64 0, .int .i64 0, .bool false, .bool false, .bool false, .string ByteArray.empty, .bool false, sl (ownG p).fx (ownG p).fr, sl (ownG p).tx (ownG p).to, .int .i64 (ownG p).number, .int .i64 (ownG p).life, .int .i64 (ownG p).at', .int .i64 (ownG p).total, .int .i64 (ownG p).report, .bool (ownG p).more, .bool (ownG p).may, .bool (ownG p).wants, .string (ownG p).data, .slice (some ⟨4, 0, none⟩) p.total.toNat p.total.toNat, .slice (some ⟨3, 0, none⟩) p.total.toNat p.total.toNat, .int .i64 60], by kernel_rfl, by rw [hn]; kernel_rfl, by kernel_rfl⟩, ⟨zeros [.int .u8 0] p.total.toNat, by kernel_rfl, CellsOk.eq (by rw [hn]; exact dC_zero D T) (dC_flat _ _ _)⟩, ⟨zeros [.bool false] p.total.toNat, by kernel_rfl, CellsOk.eq (by rw [hn]; exact bC_zero T) (bC_flat _ _)⟩, ⟨_, by kernel_rfl, CellsOk.eq rfl (by kernel_rfl)⟩, ⟨_, by kernel_rfl, CellsOk.eq rfl (by kernel_rfl)⟩, trivial⟩ ⟨⟨by kernel_rfl, by kernel_rfl⟩, ⟨by kernel_rfl, by kernel_rfl⟩, ⟨by kernel_rfl, by kernel_rfl⟩, ⟨by kernel_rfl, rfl⟩, trivial⟩)
  · refine thenK_at (Wp.seq (Wp.text ?_))
    refine kp 65 (.pointer (some ⟨0, 0, none⟩)) ?_
    refine kp 66 (.pointer (some ⟨0, 0, none⟩)) ?_
    refine kp 67 (.pointer (some ⟨0, 2, none⟩)) ?_
    refine kp 68 (.slice (some ⟨1, 0, none⟩) 1 1) ?_
    refine kp 69 (.int IntKind.i64 0) ?_
    refine kp 70 (.pointer (some ⟨1, 0, none⟩)) ?_
    refine kp 71 (.pointer (some ⟨2, 0, none⟩)) ?_
    refine kp 8 (.pointer (some ⟨2, 0, none⟩)) ?_
    refine WpOps.nil (thenK_at (Wp.seq (Wp.seq ?_)))
    refine Wp.region (by kernel_rfl) ?_
    refine kp 72 (.pointer (some ⟨2, 0, none⟩)) ?_
    refine kp 73 (.pointer (some ⟨2, 0, none⟩)) ?_
    refine kp 74 (.pointer (some ⟨2, 12, none⟩)) ?_
    refine kp 75 (.pointer (some ⟨2, 17, none⟩)) ?_
    refine kp 76 (.int IntKind.i64 (Gr.total (ownG p))) ?_
    refine kp 77 (.pointer (some ⟨5, 5, none⟩)) ?_
    refine kp 78 (.int IntKind.i64 (Gr.total p)) ?_
    refine kp 79 (.bool false) ?_ (hop := fun _ => by_fact d1)
    refine WpOps.nil (thenK_at (off' (Wp.skip (thenK_at (Wp.seq (Wp.text ?_))))))
    refine kp 81 (.pointer (some ⟨2, 0, none⟩)) ?_
    refine kp 82 (gv p) ?_
    refine cl 83 65 [Value.pointer (some ⟨2, 0, none⟩), gv p] ?_
    refine WpCall.enterL c4 rfl ?_
    refine WpOps.nil (thenK_at (Wp.seq (Wp.seq (Wp.text ?_))))
    refine kp 84 (.pointer (some ⟨2, 0, none⟩)) ?_
    refine kp 85 (.pointer (some ⟨2, 0, none⟩)) ?_
    refine kp 86 (.pointer (some ⟨2, 11, none⟩)) ?_
    refine kp 87 (.bool true) ?_
    refine kp 88 (.bool false) ?_
    refine kp 89 (.bool false) ?_
    refine kp 90 (.pointer (some ⟨2, 0, none⟩)) ?_
    refine kp 91 (.pointer (some ⟨2, 0, none⟩)) ?_
    refine kp 92 (.pointer (some ⟨2, 24, none⟩)) ?_
    refine kp 93 (.slice (some ⟨4, 0, none⟩) T T) ?_
    refine cl 94 66 [Value.slice (some ⟨4, 0, none⟩) T T, Value.bool false] ?_
    refine WpCall.enterL c5 rfl ?_
    refine kp 95 (.bool false) ?_
    refine WpOps.nil (thenK_at (off' (Wp.skip (thenK_at (Wp.seq (Wp.text ?_))))))
    refine kp 97 (.pointer (some ⟨0, 0, none⟩)) ?_
    refine kp 98 (.pointer (some ⟨0, 0, none⟩)) ?_
    refine kp 99 (.pointer (some ⟨0, 0, none⟩)) ?_
    refine kp 100 (.pointer (some ⟨0, 2, none⟩)) ?_
    refine kp 101 (.slice (some ⟨1, 0, none⟩) 1 1) ?_
    refine kp 102 (.int IntKind.i64 0) ?_
    refine kp 103 (.int IntKind.i64 0) ?_
    refine kp 104 (.int IntKind.i64 (IntKind.wrap .i64 (0 + 1))) ?_
    refine cl 105 67 [Value.slice (some ⟨1, 0, none⟩) 1 1, Value.int .i64 0, Value.int .i64 (IntKind.wrap .i64 (0 + 1))] ?_
    refine WpCall.enterL c6 rfl ?_
    refine kp 106 (.pointer (some ⟨0, 0, none⟩)) ?_
    refine kp 107 (.pointer (some ⟨0, 2, none⟩)) ?_
    refine ld (.tuple #[]) (0) (Blk.mk 66 true [Value.int .i64 1, Value.int .i64 60, Value.slice (some ⟨1, 0, none⟩) 0 1]) ?_
    refine WpOps.nil (thenK_at (Wp.seq (Wp.text ?_)))
    refine kp 108 (.pointer (some ⟨2, 0, none⟩)) ?_
    refine kp 109 (.pointer (some ⟨2, 0, none⟩)) ?_
    refine kp 110 (.pointer (some ⟨2, 0, none⟩)) ?_
    refine kp 111 (gv (ownG p)) ?_
    refine md 9 (.pointer (some ⟨7, 0, none⟩)) (Blk.mk 24 true zc) ?_
    refine ld (.tuple #[]) (7) (Blk.mk 24 true (gc (ownG p))) ?_
    refine WpOps.nil (thenK_at (Wp.seq (Wp.text ?_)))
    refine kp 112 (.pointer (some ⟨2, 0, none⟩)) ?_
    refine kp 113 (.pointer (some ⟨2, 0, none⟩)) ?_
    refine kp 114 (.pointer (some ⟨2, 23, none⟩)) ?_
    refine kp 115 (.slice (some ⟨3, 0, none⟩) T T) ?_
    refine kp 116 (.string (ByteArray.mk (List.toArray (Array.toList (ByteArray.data D))))) ?_ (hop := fun _ => o_bytes 5 (3) (0) (T) hca hcb)
    refine kp 117 (.pointer (some ⟨7, 10, none⟩)) ?_
    refine ld (.tuple #[]) (7) (Blk.mk 24 true [Value.iface 3 (Value.iface (List.length (Gr.fr (ownG p))) (Value.iface (Gr.fx (ownG p)) (Value.agg (List.toArray (List.map (fun n => Value.int .i64 n) (Gr.fr (ownG p))))))), Value.iface 3 (Value.iface (List.length (Gr.to (ownG p))) (Value.iface (Gr.tx (ownG p)) (Value.agg (List.toArray (List.map (fun n => Value.int .i64 n) (Gr.to (ownG p))))))), Value.int .i64 (Gr.number (ownG p)), Value.int .i64 (Gr.life (ownG p)), Value.int .i64 (Gr.at' (ownG p)), Value.int .i64 (Gr.total (ownG p)), Value.int .i64 (Gr.report (ownG p)), Value.bool (Gr.more (ownG p)), Value.bool (Gr.may (ownG p)), Value.bool (Gr.wants (ownG p)), Value.string (ByteArray.mk (List.toArray (Array.toList (ByteArray.data D))))]) ?_
    refine kp 118 (.pointer (some ⟨7, 7, none⟩)) ?_
    refine ld (.tuple #[]) (7) (Blk.mk 24 true [Value.iface 3 (Value.iface (List.length (Gr.fr (ownG p))) (Value.iface (Gr.fx (ownG p)) (Value.agg (List.toArray (List.map (fun n => Value.int .i64 n) (Gr.fr (ownG p))))))), Value.iface 3 (Value.iface (List.length (Gr.to (ownG p))) (Value.iface (Gr.tx (ownG p)) (Value.agg (List.toArray (List.map (fun n => Value.int .i64 n) (Gr.to (ownG p))))))), Value.int .i64 (Gr.number (ownG p)), Value.int .i64 (Gr.life (ownG p)), Value.int .i64 (Gr.at' (ownG p)), Value.int .i64 (Gr.total (ownG p)), Value.int .i64 (Gr.report (ownG p)), Value.bool false, Value.bool (Gr.may (ownG p)), Value.bool (Gr.wants (ownG p)), Value.string (ByteArray.mk (List.toArray (Array.toList (ByteArray.data D))))]) ?_
    refine WpOps.nil (thenK_at (Wp.seq (Wp.text ?_)))
    refine kp 119 (.agg #[Value.iface 3 (Value.iface (List.length (Gr.fr (ownG p))) (Value.iface (Gr.fx (ownG p)) (Value.agg (List.toArray (List.map (fun n => Value.int .i64 n) (Gr.fr (ownG p))))))), Value.iface 3 (Value.iface (List.length (Gr.to (ownG p))) (Value.iface (Gr.tx (ownG p)) (Value.agg (List.toArray (List.map (fun n => Value.int .i64 n) (Gr.to (ownG p))))))), Value.int .i64 (Gr.number (ownG p)), Value.int .i64 (Gr.life (ownG p)), Value.int .i64 (Gr.at' (ownG p)), Value.int .i64 (Gr.total (ownG p)), Value.int .i64 (Gr.report (ownG p)), Value.bool false, Value.bool (Gr.may (ownG p)), Value.bool (Gr.wants (ownG p)), Value.string (ByteArray.mk (List.toArray (Array.toList (ByteArray.data D))))]) ?_
    refine ld (.tuple #[]) (6) (Blk.mk 24 true [Value.iface 3 (Value.iface (List.length (Gr.fr (ownG p))) (Value.iface (Gr.fx (ownG p)) (Value.agg (List.toArray (List.map (fun n => Value.int .i64 n) (Gr.fr (ownG p))))))), Value.iface 3 (Value.iface (List.length (Gr.to (ownG p))) (Value.iface (Gr.tx (ownG p)) (Value.agg (List.toArray (List.map (fun n => Value.int .i64 n) (Gr.to (ownG p))))))), Value.int .i64 (Gr.number (ownG p)), Value.int .i64 (Gr.life (ownG p)), Value.int .i64 (Gr.at' (ownG p)), Value.int .i64 (Gr.total (ownG p)), Value.int .i64 (Gr.report (ownG p)), Value.bool false, Value.bool (Gr.may (ownG p)), Value.bool (Gr.wants (ownG p)), Value.string (ByteArray.mk (List.toArray (Array.toList (ByteArray.data D))))]) ?_
    refine kp 5 (.bool true) ?_
    refine kp 6 (.int IntKind.i64 0) ?_
    refine WpOps.nil (thenK_at (Wp.ret ?_))
    refine endK_retn [Value.agg #[Value.iface 3 (Value.iface (List.length (Gr.fr (ownG p))) (Value.iface (Gr.fx (ownG p)) (Value.agg (List.toArray (List.map (fun n => Value.int IntKind.i64 n) (Gr.fr (ownG p))))))), Value.iface 3 (Value.iface (List.length (Gr.to (ownG p))) (Value.iface (Gr.tx (ownG p)) (Value.agg (List.toArray (List.map (fun n => Value.int IntKind.i64 n) (Gr.to (ownG p))))))), Value.int IntKind.i64 (Gr.number (ownG p)), Value.int IntKind.i64 (Gr.life (ownG p)), Value.int IntKind.i64 (Gr.at' (ownG p)), Value.int IntKind.i64 (Gr.total (ownG p)), Value.int IntKind.i64 (Gr.report (ownG p)), Value.bool false, Value.bool (Gr.may (ownG p)), Value.bool (Gr.wants (ownG p)), Value.string (ByteArray.mk (List.toArray (Array.toList (ByteArray.data D))))], Value.bool true, Value.int IntKind.i64 0] (Value.tuple #[Value.agg #[Value.iface 3 (Value.iface (List.length (Gr.fr (ownG p))) (Value.iface (Gr.fx (ownG p)) (Value.agg (List.toArray (List.map (fun n => Value.int IntKind.i64 n) (Gr.fr (ownG p))))))), Value.iface 3 (Value.iface (List.length (Gr.to (ownG p))) (Value.iface (Gr.tx (ownG p)) (Value.agg (List.toArray (List.map (fun n => Value.int IntKind.i64 n) (Gr.to (ownG p))))))), Value.int IntKind.i64 (Gr.number (ownG p)), Value.int IntKind.i64 (Gr.life (ownG p)), Value.int IntKind.i64 (Gr.at' (ownG p)), Value.int IntKind.i64 (Gr.total (ownG p)), Value.int IntKind.i64 (Gr.report (ownG p)), Value.bool false, Value.bool (Gr.may (ownG p)), Value.bool (Gr.wants (ownG p)), Value.string (ByteArray.mk (List.toArray (Array.toList (ByteArray.data D))))], Value.bool true, Value.int IntKind.i64 0]) (by kernel_rfl) (by kernel_rfl) ?_
    exact LentEnd.less (lentSame [⟨66, true, [.int .i64 1, .int .i64 60, .slice (some ⟨1, 0, none⟩) 0 1]⟩, ⟨119, true, [.pointer none]⟩, ⟨122, true, (wB T (ownG p) (ownG p))⟩, ⟨5, true, dC D T (thN (fun _ => false) a p.data.size)⟩, ⟨4, true, bC T (thN (fun _ => false) a p.data.size)⟩] (pre5 ⟨by kernel_rfl, by kernel_rfl⟩ ⟨by kernel_rfl, by kernel_rfl⟩ ⟨by kernel_rfl, by kernel_rfl⟩ ⟨by kernel_rfl, okCs_flat (dC_flat _ _ _)⟩ ⟨by kernel_rfl, okCs_flat (bC_flat _ _)⟩) (.tuple _ _ (by kernel_rfl) rfl (.cons (.un rfl rfl) (.cons (.un rfl rfl) (.cons (.un rfl rfl) .nil))))) (show 1 ≤ 5 by decide)
end Go.Proofs.Ytpkkcpglbjbgfaa.D
