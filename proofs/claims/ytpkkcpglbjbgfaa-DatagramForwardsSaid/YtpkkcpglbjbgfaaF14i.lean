/- all; the law DatagramCuts. -/
import Derived.Test.YtpkkcpglbjbgfaaFwLem
import Derived.Test.YtpkkcpglbjbgfaaF14g
import Derived.Test.YtpkkcpglbjbgfaaF14h
namespace Go.Proofs.Ytpkkcpglbjbgfaa.D
open Go.Fw Go.RowKit

theorem cellsG_take (l : List Gr) (k : Nat) (hk : k < l.length) : cellsG ((l.take (k + 1)).map toR) = cellsG ((l.take k).map toR) ++ gc (toR (l[k]'hk)) := by
  rw [List.take_add_one, List.getElem?_eq_getElem hk]
  simp only [cellsG, Option.toList, List.map_append, List.flatMap_append, List.map_cons, List.map_nil, List.flatMap_cons, List.flatMap_nil, List.append_nil]
theorem cells_allR (l : List Gr) (k : Nat) (hk : k ≤ l.length) : cellsAt (cellsG ((l.take k).map toR)) 0 (k * 11) = some (cellsG ((l.take k).map toR)) := by
  have h := cellsG_len ((l.take k).map toR)
  rw [List.length_map, List.length_take, Nat.min_eq_left hk] at h
  simp only [cellsAt, Nat.zero_add, h, Nat.le_refl, if_true, List.drop_zero]
  rw [List.take_of_length_le (by rw [h]; exact Nat.le_refl _)]

theorem f18 : E.funcs 18 = some Try.f18 := by kernel_rfl
theorem all18 (l : List Gr) (h1 : 0 < l.length) (h2 : l.length ≤ 4000) (ok : ∀ g ∈ l, OkGr g) : Fun E 18 [grams 24 l] (grams 32 (l.map toR)) := by
  refine Fun.of f18 rfl (of_decide_eq_true (by kernel_rfl)) (by kernel_rfl) ?_
  refine Wp.seq ?_
  refine Wp.text ?_
  refine WpOps.keep 2 (Value.slice none 0 0) (by kernel_rfl) (by kernel_rfl) (by kernel_rfl) ?_ (fun cf => (by kernel_rfl))
  refine WpOps.nil ?_
  refine thenK_at ?_
  refine Wp.seq ?_
  refine Wp.text ?_
  refine WpOps.keep 3 (Value.slice none 0 0) (by kernel_rfl) (by kernel_rfl) (by kernel_rfl) ?_ (fun cf => (by kernel_rfl))
  refine WpOps.nil ?_
  refine thenK_at ?_
  refine Wp.seq ?_
  refine Wp.seq ?_
  refine Wp.text ?_
  refine WpOps.keep 4 (Value.int IntKind.i64 0) (by kernel_rfl) (by kernel_rfl) (by kernel_rfl) ?_ (fun cf => (by kernel_rfl))
  refine WpOps.nil ?_
  refine thenK_at ?_
  refine Wp.block ?_
  refine Wp.view (View.of [] [] [(0, grams 24 l), (3, .slice none 0 0), (4, .int .i64 ((0 : Nat) : Int))] (by decide) rfl trivial
    ⟨⟨by kernel_rfl, rfl⟩, ⟨by kernel_rfl, rfl⟩, ⟨by kernel_rfl, rfl⟩, trivial⟩) ?_
  refine Wp.unroll (WpL.step ?_)
  have hc0 : decide (((0 : Nat) : Int) < (l.length : Int)) = true := decide_eq_true (by omega)
  have b0 : 0 ≤ ((0 : Nat) : Int) ∧ ((0 : Nat) : Int) < l.length := ⟨by omega, by omega⟩
  have v0 := cells_at l 0 h1
  have t0 := To16 l[0] (ok _ (List.getElem_mem h1))
  refine Wp.seq ?_
  refine Wp.seq ?_
  refine Wp.text ?_
  refine WpOps.keep 5 (Value.int IntKind.i64 (↑0 : Int)) (by kernel_rfl) (by kernel_rfl) (by kernel_rfl) ?_ (fun cf => (by kernel_rfl))
  refine WpOps.keep 6 (Value.iface 24 (Value.iface (List.length l) (Value.iface 0 (Value.agg (List.toArray (cellsG l)))))) (by kernel_rfl) (by kernel_rfl) (by kernel_rfl) ?_ (fun cf => (by kernel_rfl))
  refine WpOps.keep 7 (Value.int IntKind.i64 (↑(List.length l) : Int)) (by kernel_rfl) (by kernel_rfl) (by kernel_rfl) ?_ (fun cf => (by kernel_rfl))
  refine WpOps.keep 8 (Value.bool true) (by kernel_rfl) (by kernel_rfl) (by kernel_rfl) ?_ (fun cf => by_fact hc0 ((by kernel_rfl)))
  refine WpOps.nil ?_
  refine thenK_at ?_
  refine Wp.on (by kernel_rfl) ?_
  refine Wp.skip ?_
  refine thenK_at ?_
  refine Wp.seq ?_
  refine Wp.block ?_
  refine Wp.text ?_
  refine WpOps.keep 11 (Value.slice none 0 0) (by kernel_rfl) (by kernel_rfl) (by kernel_rfl) ?_ (fun cf => (by kernel_rfl))
  refine WpOps.keep 12 (Value.iface 24 (Value.iface (List.length l) (Value.iface 0 (Value.agg (List.toArray (cellsG l)))))) (by kernel_rfl) (by kernel_rfl) (by kernel_rfl) ?_ (fun cf => (by kernel_rfl))
  refine WpOps.keep 13 (Value.int IntKind.i64 (↑0 : Int)) (by kernel_rfl) (by kernel_rfl) (by kernel_rfl) ?_ (fun cf => (by kernel_rfl))
  refine WpOps.keep 14 (Value.iface 24 (Value.iface 0 (Value.agg (List.toArray (cellsG l))))) (by kernel_rfl) (by kernel_rfl) (by kernel_rfl) ?_ (fun cf => o_indexI (e := 24) (size := 11) (a := (↑0 : Int)) b0 (by kernel_rfl) (by kernel_rfl) (by kernel_rfl) (by kernel_rfl))
  refine WpOps.keep 15 (Value.agg (List.toArray (gc l[0]))) (by kernel_rfl) (by kernel_rfl) (by kernel_rfl) ?_ (fun cf => o_loadIA (0) v0 (by kernel_rfl) (by kernel_rfl))
  refine WpOps.framed 16 16 [Value.agg (List.toArray (gc l[0]))] (by kernel_rfl) (by kernel_rfl) (by kernel_rfl) (by kernel_rfl) (by kernel_rfl) (fun cf => (by kernel_rfl)) ?_
  refine WpFun.of (t0) ?_
  refine WpOps.made 17 (Value.slice (some (Addr.mk 0 0 none)) 1 1) (Blk.mk 32 true [Value.iface 3 (Value.iface (List.length (Gr.fr (toR l[0]))) (Value.iface (Gr.fx (toR l[0])) (Value.agg (List.toArray (List.map (fun n => Value.int IntKind.i64 n) (Gr.fr (toR l[0]))))))), Value.iface 3 (Value.iface (List.length (Gr.to (toR l[0]))) (Value.iface (Gr.tx (toR l[0])) (Value.agg (List.toArray (List.map (fun n => Value.int IntKind.i64 n) (Gr.to (toR l[0]))))))), Value.int IntKind.i64 (Gr.number (toR l[0])), Value.int IntKind.i64 (Gr.life (toR l[0])), Value.int IntKind.i64 (Gr.at' (toR l[0])), Value.int IntKind.i64 (Gr.total (toR l[0])), Value.int IntKind.i64 (Gr.report (toR l[0])), Value.bool (Gr.more (toR l[0])), Value.bool (Gr.may (toR l[0])), Value.bool (Gr.wants (toR l[0])), Value.string (Gr.data (toR l[0]))]) (by kernel_rfl) (by kernel_rfl) (by kernel_rfl) ?_ (fun cf => (by kernel_rfl))
  refine WpOps.made 18 (Value.slice (some (Addr.mk 1 0 none)) 1 1) (Blk.mk 32 true [Value.iface 3 (Value.iface (List.length (Gr.fr (toR l[0]))) (Value.iface (Gr.fx (toR l[0])) (Value.agg (List.toArray (List.map (fun n => Value.int IntKind.i64 n) (Gr.fr (toR l[0]))))))), Value.iface 3 (Value.iface (List.length (Gr.to (toR l[0]))) (Value.iface (Gr.tx (toR l[0])) (Value.agg (List.toArray (List.map (fun n => Value.int IntKind.i64 n) (Gr.to (toR l[0]))))))), Value.int IntKind.i64 (Gr.number (toR l[0])), Value.int IntKind.i64 (Gr.life (toR l[0])), Value.int IntKind.i64 (Gr.at' (toR l[0])), Value.int IntKind.i64 (Gr.total (toR l[0])), Value.int IntKind.i64 (Gr.report (toR l[0])), Value.bool (Gr.more (toR l[0])), Value.bool (Gr.may (toR l[0])), Value.bool (Gr.wants (toR l[0])), Value.string (Gr.data (toR l[0]))]) (by kernel_rfl) (by kernel_rfl) (by kernel_rfl) ?_ (fun cf => (by kernel_rfl))
  refine WpOps.keep 3 (Value.slice (some (Addr.mk 1 0 none)) 1 1) (by kernel_rfl) (by kernel_rfl) (by kernel_rfl) ?_ (fun cf => (by kernel_rfl))
  refine WpOps.nil ?_
  refine blockK_norm ?_
  refine thenK_at ?_
  refine Wp.text ?_
  refine WpOps.keep 9 (Value.int IntKind.i64 (↑0 : Int)) (by kernel_rfl) (by kernel_rfl) (by kernel_rfl) ?_ (fun cf => (by kernel_rfl))
  refine WpOps.keep 10 (Value.int IntKind.i64 (IntKind.wrap IntKind.i64 ((↑0 : Int) + 1))) (by kernel_rfl) (by kernel_rfl) (by kernel_rfl) ?_ (fun cf => (by kernel_rfl))
  refine WpOps.keep 4 (Value.int IntKind.i64 (IntKind.wrap IntKind.i64 ((↑0 : Int) + 1))) (by kernel_rfl) (by kernel_rfl) (by kernel_rfl) ?_ (fun cf => (by kernel_rfl))
  refine WpOps.nil ?_
  refine thenK_at ?_
  refine WpL.loop (G := Nat) (fun k => layj [(0, grams 24 l), (3, .slice (some ⟨0, 0, none⟩) k k), (4, .int .i64 (k : Int))]) (fun k => heapOf [⟨32, true, cellsG ((l.take k).map toR)⟩]) (fun k => l.length - k) (fun k => 1 ≤ k ∧ k ≤ l.length) 1
    (View.of [1] [⟨32, true, cellsG ((l.take 1).map toR)⟩] _ (by decide) rfl ⟨⟨gc (toR l[0]), by kernel_rfl, CellsOk.eq (by rw [cellsG_take l 0 h1]; rfl) (cellsG_flat _)⟩, trivial⟩
      ⟨⟨by kernel_rfl, rfl⟩, ⟨by kernel_rfl, rfl⟩, ⟨by kernel_rfl, rfl⟩, trivial⟩) ⟨Nat.le_refl _, h1⟩ ?_
  rintro k ⟨hk1, hk2⟩
  refine Wp.seq ?_
  refine Wp.seq ?_
  refine Wp.text ?_
  refine WpOps.keep 5 (Value.int IntKind.i64 (↑k : Int)) (by kernel_rfl) (by kernel_rfl) (by kernel_rfl) ?_ (fun cf => (by kernel_rfl))
  refine WpOps.keep 6 (Value.iface 24 (Value.iface (List.length l) (Value.iface 0 (Value.agg (List.toArray (cellsG l)))))) (by kernel_rfl) (by kernel_rfl) (by kernel_rfl) ?_ (fun cf => (by kernel_rfl))
  refine WpOps.keep 7 (Value.int IntKind.i64 (↑(List.length l) : Int)) (by kernel_rfl) (by kernel_rfl) (by kernel_rfl) ?_ (fun cf => (by kernel_rfl))
  refine WpOps.keep 8 (Value.bool (decide ((↑k : Int) < (↑(List.length l) : Int)))) (by kernel_rfl) (by kernel_rfl) (by kernel_rfl) ?_ (fun cf => (by kernel_rfl))
  refine WpOps.nil ?_
  refine thenK_at ?_
  refine Wp.split (decide ((↑k : Int) < (↑(List.length l) : Int))) (by kernel_rfl) (fun hc => ?_) (fun hc => ?_)
  · have hlt : (k : Int) < l.length := of_decide_eq_true hc
    have hk0 : k < l.length := by omega
    have b1 : 0 ≤ (k : Int) ∧ (k : Int) < l.length := ⟨Int.natCast_nonneg _, hlt⟩
    have v1 := cells_at l k hk0
    have t1 := To16 l[k] (ok _ (List.getElem_mem hk0))
    have a1 : ¬ (k + 1 ≤ k) := by omega
    have a2 : 1 ≤ 112 ∧ (k + 1) * 112 ≤ 140737488355328 ∧ 11 = 11 ∧ k + 1 ≤ 9223372036854775807 := by omega
    have a3 := cells_allR l k hk2
    refine Wp.skip ?_
    refine thenK_at ?_
    refine Wp.seq ?_
    refine Wp.block ?_
    refine Wp.text ?_
    refine WpOps.keep 11 (Value.slice (some (Addr.mk 0 0 none)) k k) (by kernel_rfl) (by kernel_rfl) (by kernel_rfl) ?_ (fun cf => (by kernel_rfl))
    refine WpOps.keep 12 (Value.iface 24 (Value.iface (List.length l) (Value.iface 0 (Value.agg (List.toArray (cellsG l)))))) (by kernel_rfl) (by kernel_rfl) (by kernel_rfl) ?_ (fun cf => (by kernel_rfl))
    refine WpOps.keep 13 (Value.int IntKind.i64 (↑k : Int)) (by kernel_rfl) (by kernel_rfl) (by kernel_rfl) ?_ (fun cf => (by kernel_rfl))
    refine WpOps.keep 14 (Value.iface 24 (Value.iface (Int.toNat (↑k : Int) * 11) (Value.agg (List.toArray (cellsG l))))) (by kernel_rfl) (by kernel_rfl) (by kernel_rfl) ?_ (fun cf => o_indexI (e := 24) (size := 11) (a := (↑k : Int)) b1 (by kernel_rfl) (by kernel_rfl) (by kernel_rfl) (by kernel_rfl))
    refine WpOps.keep 15 (Value.agg (List.toArray (gc l[k]))) (by kernel_rfl) (by kernel_rfl) (by kernel_rfl) ?_ (fun cf => o_loadIA (Int.toNat (↑k : Int) * 11) v1 (by kernel_rfl) (by kernel_rfl))
    refine WpOps.framed 16 16 [Value.agg (List.toArray (gc l[k]))] (by kernel_rfl) (by kernel_rfl) (by kernel_rfl) (by kernel_rfl) (by kernel_rfl) (fun cf => (by kernel_rfl)) ?_
    refine WpFun.of (t1) ?_
    refine WpOps.made 17 (Value.slice (some (Addr.mk 1 0 none)) 1 1) (Blk.mk 32 true [Value.iface 3 (Value.iface (List.length (Gr.fr (toR l[k]))) (Value.iface (Gr.fx (toR l[k])) (Value.agg (List.toArray (List.map (fun n => Value.int IntKind.i64 n) (Gr.fr (toR l[k]))))))), Value.iface 3 (Value.iface (List.length (Gr.to (toR l[k]))) (Value.iface (Gr.tx (toR l[k])) (Value.agg (List.toArray (List.map (fun n => Value.int IntKind.i64 n) (Gr.to (toR l[k]))))))), Value.int IntKind.i64 (Gr.number (toR l[k])), Value.int IntKind.i64 (Gr.life (toR l[k])), Value.int IntKind.i64 (Gr.at' (toR l[k])), Value.int IntKind.i64 (Gr.total (toR l[k])), Value.int IntKind.i64 (Gr.report (toR l[k])), Value.bool (Gr.more (toR l[k])), Value.bool (Gr.may (toR l[k])), Value.bool (Gr.wants (toR l[k])), Value.string (Gr.data (toR l[k]))]) (by kernel_rfl) (by kernel_rfl) (by kernel_rfl) ?_ (fun cf => (by kernel_rfl))
    refine WpOps.chg 18 (Value.slice (some (Addr.mk 2 0 none)) (k + 1) (k + 1)) (Heap.alloc (Heap.set (Heap.alloc (heapOf [Blk.mk 32 true (cellsG (List.map toR (List.take k l)))]) (Blk.mk 32 true [Value.iface 3 (Value.iface (List.length (Gr.fr (toR l[k]))) (Value.iface (Gr.fx (toR l[k])) (Value.agg (List.toArray (List.map (fun n => Value.int IntKind.i64 n) (Gr.fr (toR l[k]))))))), Value.iface 3 (Value.iface (List.length (Gr.to (toR l[k]))) (Value.iface (Gr.tx (toR l[k])) (Value.agg (List.toArray (List.map (fun n => Value.int IntKind.i64 n) (Gr.to (toR l[k]))))))), Value.int IntKind.i64 (Gr.number (toR l[k])), Value.int IntKind.i64 (Gr.life (toR l[k])), Value.int IntKind.i64 (Gr.at' (toR l[k])), Value.int IntKind.i64 (Gr.total (toR l[k])), Value.int IntKind.i64 (Gr.report (toR l[k])), Value.bool (Gr.more (toR l[k])), Value.bool (Gr.may (toR l[k])), Value.bool (Gr.wants (toR l[k])), Value.string (Gr.data (toR l[k]))])) 0 none) (Blk.mk 32 true (cellsG (List.map toR (List.take k l)) ++ [Value.iface 3 (Value.iface (List.length (Gr.fr (toR l[k]))) (Value.iface (Gr.fx (toR l[k])) (Value.agg (List.toArray (List.map (fun n => Value.int IntKind.i64 n) (Gr.fr (toR l[k]))))))), Value.iface 3 (Value.iface (List.length (Gr.to (toR l[k]))) (Value.iface (Gr.tx (toR l[k])) (Value.agg (List.toArray (List.map (fun n => Value.int IntKind.i64 n) (Gr.to (toR l[k]))))))), Value.int IntKind.i64 (Gr.number (toR l[k])), Value.int IntKind.i64 (Gr.life (toR l[k])), Value.int IntKind.i64 (Gr.at' (toR l[k])), Value.int IntKind.i64 (Gr.total (toR l[k])), Value.int IntKind.i64 (Gr.report (toR l[k])), Value.bool (Gr.more (toR l[k])), Value.bool (Gr.may (toR l[k])), Value.bool (Gr.wants (toR l[k])), Value.string (Gr.data (toR l[k]))]))) (by kernel_rfl) (by kernel_rfl) (by kernel_rfl) ?_ (fun cf => o_append (e := 32) 0 (0) (k) _ (k) a1 a2 a3 (by kernel_rfl) (by kernel_rfl) (by kernel_rfl) (by kernel_rfl))
    refine WpOps.keep 3 (Value.slice (some (Addr.mk 2 0 none)) (k + 1) (k + 1)) (by kernel_rfl) (by kernel_rfl) (by kernel_rfl) ?_ (fun cf => (by kernel_rfl))
    refine WpOps.nil ?_
    refine blockK_norm ?_
    refine thenK_at ?_
    refine Wp.text ?_
    refine WpOps.keep 9 (Value.int IntKind.i64 (↑k : Int)) (by kernel_rfl) (by kernel_rfl) (by kernel_rfl) ?_ (fun cf => (by kernel_rfl))
    refine WpOps.keep 10 (Value.int IntKind.i64 (IntKind.wrap IntKind.i64 ((↑k : Int) + 1))) (by kernel_rfl) (by kernel_rfl) (by kernel_rfl) ?_ (fun cf => (by kernel_rfl))
    refine WpOps.keep 4 (Value.int IntKind.i64 (IntKind.wrap IntKind.i64 ((↑k : Int) + 1))) (by kernel_rfl) (by kernel_rfl) (by kernel_rfl) ?_ (fun cf => (by kernel_rfl))
    refine WpOps.nil ?_
    refine thenK_at ?_
    exact ⟨k + 1, by omega, ⟨by omega, hk0⟩, View.of [2] [⟨32, true, cellsG ((l.take (k + 1)).map toR)⟩] _ (by decide) rfl ⟨⟨cellsG ((l.take k).map toR) ++ gc (toR l[k]), by kernel_rfl, CellsOk.eq (cellsG_take l k hk0).symm (cellsG_flat _)⟩, trivial⟩
      ⟨⟨by kernel_rfl, rfl⟩, ⟨by kernel_rfl, rfl⟩, ⟨congrArg (Value.int .i64) (wrap_i64 ((k : Int) + 1) (by omega) (by omega)), rfl⟩, trivial⟩⟩
  · refine Wp.exit ?_
    refine thenK_exit ?_
    refine thenK_exit ?_
    refine blockK_hit ?_
    refine thenK_at ?_
    refine Wp.seq ?_
    refine Wp.text ?_
    refine WpOps.keep 19 (Value.slice (some (Addr.mk 0 0 none)) k k) (by kernel_rfl) (by kernel_rfl) (by kernel_rfl) ?_ (fun cf => (by kernel_rfl))
    refine WpOps.keep 2 (Value.slice (some (Addr.mk 0 0 none)) k k) (by kernel_rfl) (by kernel_rfl) (by kernel_rfl) ?_ (fun cf => (by kernel_rfl))
    refine WpOps.nil ?_
    refine thenK_at ?_
    refine Wp.ret ?_
    refine endK_retn [Value.slice (some (Addr.mk 0 0 none)) k k] (Value.slice (some (Addr.mk 0 0 none)) k k) (by kernel_rfl) (by kernel_rfl) ?_
    have hk0 : k = l.length := by have := of_decide_eq_false hc; omega
    have hr := iceC_row (E := E) (hp := heapOf [⟨32, true, cellsG ((l.take k).map toR)⟩]) (b := 0) (n := k) (c := k) 3 types32 rfl (by rw [cellsG_len, List.length_map, List.length_take]; omega) (cellsG_flat _)
    have e : FS 32 k 0 (cellsG ((l.take k).map toR)).toArray = grams 32 (l.map toR) := by
      subst hk0
      simp only [grams, List.length_map, List.take_length]
    rw [e] at hr
    exact hr

theorem allNil : Fun E 18 [.slice none 0 0] (.slice none 0 0) := Fun.closed 60 _ (by kernel_rfl)
theorem sameNil : Fun E 17 [.slice none 0 0, .slice none 0 0] (.bool true) := Fun.closed 60 _ (by kernel_rfl)

/-! ## the law -/
theorem ok_own {g : Gr} (ok : OkGr g) : OkGr (ownG g) := by
  refine ⟨fun h => ok.fx ?_, fun h => ok.tx ?_, ok.fl, ok.tl⟩
  · simp only [ownG, nx] at h; split at h <;> omega
  · simp only [ownG, nx] at h; split at h <;> omega
theorem ok_toR {g : Gr} (ok : OkGr g) : OkGr (toR g) := ⟨fun h => by simp [toR] at h, fun h => by simp [toR] at h, ok.fl, ok.tl⟩
theorem ok_piece {g : Gr} (ok : OkGr g) (s k : Nat) : OkGr (piece g s k) := ⟨(ok_own ok).fx, (ok_own ok).tx, ok.fl, ok.tl⟩
theorem toR_piece (g : Gr) (s k : Nat) : toR (piece g s k) = piece (toR g) s k := rfl
theorem toR_pcs (g : Gr) (s k : Nat) : (pcs g s k).map toR = pcs (toR g) s k := by
  simp only [pcs, List.map_map]
  rfl
theorem many_le (g : Gr) (s : Nat) (hs : 0 < s) (hd : 0 < g.data.size) (hd2 : g.data.size ≤ 4000) : 0 < many g s ∧ many g s ≤ 4000 := by
  constructor
  · exact Nat.div_pos (by omega) hs
  · have : many g s * s ≤ g.data.size + s - 1 := Nat.div_mul_le_self _ _
    rcases Nat.lt_or_ge 4000 (many g s) with h | h
    · have h2 : 4001 * s ≤ many g s * s := Nat.mul_le_mul_right _ h
      have h3 : 4000 * 1 ≤ 4000 * s := Nat.mul_le_mul_left _ hs
      omega
    · exact h
theorem cutAll_toR (g : Gr) (size : Int) : cutAll (toR g) size = (cutAll g size).map (List.map toR) := by
  have h0 : okG (toR g) = okG g := rfl
  have h1 : (toR g).data = g.data := rfl
  have h2 : (toR g).may = g.may := rfl
  have h3 : many (toR g) (s8 size) = many g (s8 size) := rfl
  simp only [cutAll, cutL, h0, h1, h2, h3]
  split
  · split
    · rfl
    · split
      · simp only [Option.map_some, toR_pcs]
      · rfl
  · rfl
theorem cutAll_some {g : Gr} {size : Int} {l : List Gr} (ok : OkGr g) (h : cutAll g size = some l) : 0 < l.length ∧ l.length ≤ 4000 ∧ ∀ p ∈ l, OkGr p := by
  simp only [cutAll, cutL] at h
  split at h
  · rename_i hv
    have hsz := okG_size hv.1
    split at h
    · cases h
      refine ⟨by simp, by simp, fun p hp => ?_⟩
      obtain rfl := List.mem_singleton.1 hp
      exact ok_own ok
    · rename_i hlen
      split at h
      · rename_i hm
        cases h
        have hi := hv.2
        simp only [inR, Bool.cond_false_right, Bool.and_eq_true, decide_eq_true_eq] at hi
        have := many_le g (s8 size) (by omega) (by omega) hsz
        rw [pcs_len]
        refine ⟨this.1, this.2, fun p hp => ?_⟩
        obtain ⟨k, _, rfl⟩ := List.mem_map.1 hp
        exact ok_piece ok _ _
      · cases h
  · cases h

end Go.Proofs.Ytpkkcpglbjbgfaa.D
