/- The law VectorKeeps where the tables are not of the net; the law as a whole. -/
import Derived.Test.YtfjkanjmggbofaaFwLem
import Derived.Test.YtfjkanjmggbofaaV12mb
namespace Go.Proofs.Ytfjkanjmggbofaa.D
open Go.Fw Go.RowKit

theorem ocs_row (T : List (Nat × List Rt)) (i : Nat) (h : i < T.length) : (ocs 93 T).toArray.toList[(i : Int).toNat * 1]? = some (rowT 93 (T.getD i (0, [])).2) := by
  rw [Int.toNat_natCast, List.toList_toArray, Nat.mul_one]
  unfold ocs
  rw [List.getElem?_map, List.getElem?_eq_getElem h, List.getD_eq_getElem?_getD, List.getElem?_eq_getElem h]
  rfl
theorem same20g (x : Nat) (T : List (Nat × List Rt)) (hz : T.length * 24 ≤ 140737488351232) (hw : ∀ p ∈ T, p.2.length * 16 ≤ 140737488351232) : Fun E 20 [FS 92 T.length x (ocs 93 T).toArray, FS 92 T.length x (ocs 93 T).toArray] (.bool true) := by
  refine Fun.of f20 rfl (of_decide_eq_true (by kernel_rfl)) rfl ?_
  have d0 : ((T.length : Int) != (T.length : Int)) = false := by simp
  refine Wp.seq (Wp.text ?_)
  refine kp 4 (.bool false) ?_
  refine WpOps.nil (thenK_at (Wp.seq (Wp.seq (Wp.text ?_))))
  refine kp 7 (.iface 92 (Value.iface (List.length T) (Value.iface x (Value.agg (List.toArray (ocs 93 T)))))) ?_
  refine kp 8 (.int IntKind.i64 (↑(List.length T) : Int)) ?_
  refine kp 9 (.iface 92 (Value.iface (List.length T) (Value.iface x (Value.agg (List.toArray (ocs 93 T)))))) ?_
  refine kp 10 (.int IntKind.i64 (↑(List.length T) : Int)) ?_
  refine kp 11 (.bool false) ?_ (hop := fun _ => by_fact d0)
  refine WpOps.nil (thenK_at (off' (Wp.skip (thenK_at (Wp.seq (Wp.seq (Wp.text ?_)))))))
  refine kp 5 (.int IntKind.i64 0) ?_
  refine WpOps.nil (thenK_at (Wp.block ?_))
  refine Wp.loop (G := Nat) (fun i => layj [(0, FS 92 T.length x (ocs 93 T).toArray), (1, FS 92 T.length x (ocs 93 T).toArray), (5, .int .i64 i)]) (fun _ => heapOf []) (fun i => T.length - i) (fun i => i ≤ T.length) 0
    (View.of [] [] _ (by decide) rfl trivial ⟨⟨by kernel_rfl, rfl⟩, ⟨by kernel_rfl, rfl⟩, ⟨by kernel_rfl, rfl⟩, trivial⟩) (Nat.zero_le _) ?_
  intro i hi
  by_cases hlt : i < T.length
  · have d1 : decide ((i : Int) < T.length) = true := decide_eq_true (by omega)
    have g1 : 0 ≤ (i : Int) ∧ (i : Int) < T.length := by omega
    have u1 := ocs_row T i hlt
    have hrow : T.getD i (0, []) ∈ T := by
      rw [List.getD_eq_getElem?_getD, List.getElem?_eq_getElem hlt]
      exact List.getElem_mem hlt
    have hsz := hw _ hrow
    generalize (T.getD i (0, [])).2 = l at u1 hsz
    unfold rowT rowF at u1
    have d3 : ((l.length : Int) != (l.length : Int)) = false := by simp
    generalize (if l.length = 0 then 2 else 0) = y at u1
    refine Wp.seq (Wp.seq (Wp.text ?_))
    refine kp 12 (.int IntKind.i64 (↑i : Int)) ?_
    refine kp 13 (.iface 92 (Value.iface (List.length T) (Value.iface x (Value.agg (List.toArray (ocs 93 T)))))) ?_
    refine kp 14 (.int IntKind.i64 (↑(List.length T) : Int)) ?_
    refine kp 15 (.bool true) ?_ (hop := fun _ => by_fact d1)
    refine WpOps.nil (thenK_at (on' (Wp.skip (thenK_at (Wp.seq (Wp.block (Wp.seq (Wp.seq ?_))))))))
    refine Wp.region (by kernel_rfl) ?_
    refine kp 18 (.iface 92 (Value.iface (List.length T) (Value.iface x (Value.agg (List.toArray (ocs 93 T)))))) ?_
    refine kp 19 (.int IntKind.i64 (↑i : Int)) ?_
    refine kp 20 (.iface 92 (Value.iface (Int.toNat (↑i : Int) * 1) (Value.agg (List.toArray (ocs 93 T))))) ?_ (hop := fun _ => o_indexI (e := 92) (size := 1) (a := (↑i : Int)) g1)
    refine kp 21 (.iface 93 (Value.iface (List.length l) (Value.iface y (Value.agg (List.toArray (rcs l)))))) ?_ (hop := fun _ => o_loadI1 (Int.toNat (↑i : Int) * 1) u1)
    refine kp 22 (.int IntKind.i64 (↑(List.length l) : Int)) ?_
    refine kp 23 (.iface 92 (Value.iface (List.length T) (Value.iface x (Value.agg (List.toArray (ocs 93 T)))))) ?_
    refine kp 24 (.int IntKind.i64 (↑i : Int)) ?_
    refine kp 25 (.iface 92 (Value.iface (Int.toNat (↑i : Int) * 1) (Value.agg (List.toArray (ocs 93 T))))) ?_ (hop := fun _ => o_indexI (e := 92) (size := 1) (a := (↑i : Int)) g1)
    refine kp 26 (.iface 93 (Value.iface (List.length l) (Value.iface y (Value.agg (List.toArray (rcs l)))))) ?_ (hop := fun _ => o_loadI1 (Int.toNat (↑i : Int) * 1) u1)
    refine kp 27 (.int IntKind.i64 (↑(List.length l) : Int)) ?_
    refine kp 28 (.bool false) ?_ (hop := fun _ => by_fact d3)
    refine WpOps.nil (thenK_at (off' (Wp.skip (thenK_at (Wp.seq (Wp.text ?_))))))
    refine kp 6 (.int IntKind.i64 0) ?_
    refine WpOps.nil (thenK_at (Wp.block ?_))
    refine Wp.loop (G := Nat) (fun j => layj [(0, FS 92 T.length x (ocs 93 T).toArray), (1, FS 92 T.length x (ocs 93 T).toArray), (5, .int .i64 i), (6, .int .i64 j)]) (fun _ => heapOf []) (fun j => l.length - j) (fun j => j ≤ l.length) 0
      (View.of [] [] _ (by decide) rfl trivial ⟨⟨by kernel_rfl, rfl⟩, ⟨by kernel_rfl, rfl⟩, ⟨by kernel_rfl, rfl⟩, ⟨by kernel_rfl, rfl⟩, trivial⟩) (Nat.zero_le _) ?_
    intro j hj
    by_cases hlt2 : j < l.length
    · have d2 : decide ((j : Int) < l.length) = true := decide_eq_true (by omega)
      have g2 : 0 ≤ (j : Int) ∧ (j : Int) < l.length := by omega
      have v1 := rcs_cells l j (0, 0) hlt2
      generalize l.getD j (0, 0) = r at v1
      unfold rc at v1
      have hx : (!((r.1 == r.1) && ((r.2 == r.2) && true))) = false := by simp
      refine Wp.seq (Wp.seq (Wp.text ?_))
      refine kp 29 (.int IntKind.i64 (↑j : Int)) ?_
      refine kp 30 (.iface 92 (Value.iface (List.length T) (Value.iface x (Value.agg (List.toArray (ocs 93 T)))))) ?_
      refine kp 31 (.int IntKind.i64 (↑i : Int)) ?_
      refine kp 32 (.iface 92 (Value.iface (Int.toNat (↑i : Int) * 1) (Value.agg (List.toArray (ocs 93 T))))) ?_ (hop := fun _ => o_indexI (e := 92) (size := 1) (a := (↑i : Int)) g1)
      refine kp 33 (.iface 93 (Value.iface (List.length l) (Value.iface y (Value.agg (List.toArray (rcs l)))))) ?_ (hop := fun _ => o_loadI1 (Int.toNat (↑i : Int) * 1) u1)
      refine kp 34 (.int IntKind.i64 (↑(List.length l) : Int)) ?_
      refine kp 35 (.bool true) ?_ (hop := fun _ => by_fact d2)
      refine WpOps.nil (thenK_at (on' (Wp.skip (thenK_at (Wp.seq (Wp.block (Wp.seq ?_)))))))
      refine Wp.region (by kernel_rfl) ?_
      refine kp 38 (.iface 92 (Value.iface (List.length T) (Value.iface x (Value.agg (List.toArray (ocs 93 T)))))) ?_
      refine kp 39 (.int IntKind.i64 (↑i : Int)) ?_
      refine kp 40 (.iface 92 (Value.iface (Int.toNat (↑i : Int) * 1) (Value.agg (List.toArray (ocs 93 T))))) ?_ (hop := fun _ => o_indexI (e := 92) (size := 1) (a := (↑i : Int)) g1)
      refine kp 41 (.iface 93 (Value.iface (List.length l) (Value.iface y (Value.agg (List.toArray (rcs l)))))) ?_ (hop := fun _ => o_loadI1 (Int.toNat (↑i : Int) * 1) u1)
      refine kp 42 (.int IntKind.i64 (↑j : Int)) ?_
      refine kp 43 (.iface 93 (Value.iface (Int.toNat (↑j : Int) * 2) (Value.agg (List.toArray (rcs l))))) ?_ (hop := fun _ => o_indexI (e := 93) (size := 2) (a := (↑j : Int)) g2)
      refine kp 44 (.agg #[Value.int .i64 (Prod.fst r), Value.int .i64 (Prod.snd r)]) ?_ (hop := fun _ => o_loadIA (Int.toNat (↑j : Int) * 2) v1)
      refine kp 45 (.iface 92 (Value.iface (List.length T) (Value.iface x (Value.agg (List.toArray (ocs 93 T)))))) ?_
      refine kp 46 (.int IntKind.i64 (↑i : Int)) ?_
      refine kp 47 (.iface 92 (Value.iface (Int.toNat (↑i : Int) * 1) (Value.agg (List.toArray (ocs 93 T))))) ?_ (hop := fun _ => o_indexI (e := 92) (size := 1) (a := (↑i : Int)) g1)
      refine kp 48 (.iface 93 (Value.iface (List.length l) (Value.iface y (Value.agg (List.toArray (rcs l)))))) ?_ (hop := fun _ => o_loadI1 (Int.toNat (↑i : Int) * 1) u1)
      refine kp 49 (.int IntKind.i64 (↑j : Int)) ?_
      refine kp 50 (.iface 93 (Value.iface (Int.toNat (↑j : Int) * 2) (Value.agg (List.toArray (rcs l))))) ?_ (hop := fun _ => o_indexI (e := 93) (size := 2) (a := (↑j : Int)) g2)
      refine kp 51 (.agg #[Value.int .i64 (Prod.fst r), Value.int .i64 (Prod.snd r)]) ?_ (hop := fun _ => o_loadIA (Int.toNat (↑j : Int) * 2) v1)
      refine kp 52 (.bool false) ?_ (hop := fun _ => by_fact hx)
      refine WpOps.nil (thenK_at (off' (Wp.skip (blockK_norm (thenK_at (Wp.text ?_))))))
      refine kp 36 (.int IntKind.i64 (↑j : Int)) ?_
      refine kp 37 (.int IntKind.i64 (IntKind.wrap .i64 ((↑j : Int) + 1))) ?_
      refine kp 6 (.int IntKind.i64 (IntKind.wrap .i64 ((↑j : Int) + 1))) ?_
      refine WpOps.nil (thenK_at ?_)
      exact ⟨j + 1, by omega, by omega, View.of [] [] _ (by decide) rfl trivial ⟨⟨by kernel_rfl, rfl⟩, ⟨by kernel_rfl, rfl⟩, ⟨by kernel_rfl, rfl⟩, ⟨congrArg (Value.int .i64) (wr _ (by omega) (by omega)), rfl⟩, trivial⟩⟩
    · obtain rfl : j = l.length := by omega
      have d2 : decide ((l.length : Int) < l.length) = false := decide_eq_false (by omega)
      refine Wp.seq (Wp.seq (Wp.text ?_))
      refine kp 29 (.int IntKind.i64 (↑(List.length l) : Int)) ?_
      refine kp 30 (.iface 92 (Value.iface (List.length T) (Value.iface x (Value.agg (List.toArray (ocs 93 T)))))) ?_
      refine kp 31 (.int IntKind.i64 (↑i : Int)) ?_
      refine kp 32 (.iface 92 (Value.iface (Int.toNat (↑i : Int) * 1) (Value.agg (List.toArray (ocs 93 T))))) ?_ (hop := fun _ => o_indexI (e := 92) (size := 1) (a := (↑i : Int)) g1)
      refine kp 33 (.iface 93 (Value.iface (List.length l) (Value.iface y (Value.agg (List.toArray (rcs l)))))) ?_ (hop := fun _ => o_loadI1 (Int.toNat (↑i : Int) * 1) u1)
      refine kp 34 (.int IntKind.i64 (↑(List.length l) : Int)) ?_
      refine kp 35 (.bool false) ?_ (hop := fun _ => by_fact d2)
      refine WpOps.nil (thenK_at (off' (Wp.exit (thenK_exit (thenK_exit (blockK_hit (blockK_norm (thenK_at (Wp.text ?_)))))))))
      refine kp 16 (.int IntKind.i64 (↑i : Int)) ?_
      refine kp 17 (.int IntKind.i64 (IntKind.wrap .i64 ((↑i : Int) + 1))) ?_
      refine kp 5 (.int IntKind.i64 (IntKind.wrap .i64 ((↑i : Int) + 1))) ?_
      refine WpOps.nil (thenK_at ?_)
      exact ⟨i + 1, by omega, by omega, View.of [] [] _ (by decide) rfl trivial ⟨⟨by kernel_rfl, rfl⟩, ⟨by kernel_rfl, rfl⟩, ⟨congrArg (Value.int .i64) (wr _ (by omega) (by omega)), rfl⟩, trivial⟩⟩
  · obtain rfl : i = T.length := by omega
    have d1 : decide ((T.length : Int) < T.length) = false := decide_eq_false (by omega)
    refine Wp.seq (Wp.seq (Wp.text ?_))
    refine kp 12 (.int IntKind.i64 (↑(List.length T) : Int)) ?_
    refine kp 13 (.iface 92 (Value.iface (List.length T) (Value.iface x (Value.agg (List.toArray (ocs 93 T)))))) ?_
    refine kp 14 (.int IntKind.i64 (↑(List.length T) : Int)) ?_
    refine kp 15 (.bool false) ?_ (hop := fun _ => by_fact d1)
    refine WpOps.nil (thenK_at (off' (Wp.exit (thenK_exit (thenK_exit (blockK_hit (thenK_at (Wp.seq (Wp.text ?_)))))))))
    refine kp 4 (.bool true) ?_
    refine WpOps.nil (thenK_at (Wp.ret ?_))
    refine endK_retn [Value.bool true] (Value.bool true) (by kernel_rfl) (by kernel_rfl) ?_
    rfl
/-! ## where the tables are bad -/
set_option maxHeartbeats 8000000 in
theorem law5_bad (N : Int) (x : Nat) (ls : List Lk) (xt : Nat) (T : List (Nat × List Rt)) (poison : Bool) (hl0 : 0 < ls.length) (hy : ls.length * 24 ≤ 140737488351232) (ok : OkT xt T) (hb' : tabOk N ls T = false) : Fun E 5 [netV N x ls, tabF 45 47 xt T, .bool poison] (.bool true) := by
  have c0 := sane17
  have hs1 := ok.size
  have hs2 := ok.sizes
  have c2 := tables15 xt T hs1 hs2
  have c3 := round18_bad N x ls xt T poison hb' (valid25 N x ls (by omega)) (by omega) (fun p hp => by have := hs2 p hp; omega)
  have c4 : Fun E 15 [FS 45 0 2 #[]] (FS 92 0 2 #[]) := tables15 2 [] (by decide) (fun p hp => by cases hp)
  have c5 := same16n
  have c6 := same20g (if T.length = 0 then 2 else 0) T hs1 hs2
  have d1 : ((1 : Int) == 1) = true := rfl
  refine Fun.of f5 rfl (of_decide_eq_true (by kernel_rfl)) rfl ?_
  unfold tabT at c2
  generalize (if T.length = 0 then 2 else 0) = y at c2 c6
  have b1 : ¬ (0 + ls.length ≤ 0) := by omega
  have b2 : 1 ≤ 24 ∧ (0 + ls.length) * 24 ≤ 140737488355328 ∧ 3 = 3 ∧ 0 + ls.length ≤ 9223372036854775807 := by omega
  have b3 : ls.length ≠ 0 := by omega
  have hfl := lcs_flat ls
  have hne : ∀ k, k < ls.length → ∀ l : Lk, (!((l.1 == l.1) && ((l.2.1 == l.2.1) && ((l.2.2 == l.2.2) && true)))) = false := fun _ _ l => by simp
  unfold netV lks tabF at *
  refine Wp.seq (Wp.text ?_)
  refine md 3 (.pointer (some ⟨0, 0, none⟩)) (Blk.mk 24 true [Value.int .i64 N, Value.iface 48 (Value.iface (List.length ls) (Value.iface x (Value.agg (List.toArray (lcs ls)))))]) ?_
  refine kp 6 (.bool false) ?_
  refine WpOps.nil (thenK_at (Wp.seq (Wp.text ?_)))
  refine md 17 (.slice (some ⟨1, 0, none⟩) 0 0) (Blk.mk 48 true []) ?_
  refine kp 18 (.pointer (some ⟨0, 1, none⟩)) ?_
  refine kp 19 (.iface 48 (Value.iface (List.length ls) (Value.iface x (Value.agg (List.toArray (lcs ls)))))) ?_
  refine ra 20 (.slice (some ⟨2, 0, none⟩) (0 + List.length ls) (0 + List.length ls)) (1) (Blk.mk 48 true ([] ++ Array.toList (List.toArray (lcs ls)))) ?_ (hop := fun _ => o_append (e := 48) (1) (0) (0) _ (0) b1 b2)
  refine kp 7 (.slice (some ⟨2, 0, none⟩) (0 + List.length ls) (0 + List.length ls)) ?_
  refine WpOps.nil (thenK_at (Wp.seq (Wp.text ?_)))
  refine kp 21 (.iface 45 (Value.iface (List.length T) (Value.iface xt (Value.agg (List.toArray (List.map (fun p => rowF 47 (Prod.fst p) (Prod.snd p)) T)))))) ?_
  refine cl 22 15 [Value.iface 45 (Value.iface (List.length T) (Value.iface xt (Value.agg (List.toArray (List.map (fun p => rowF 47 (Prod.fst p) (Prod.snd p)) T)))))] ?_
  refine WpCall.consume [0, 1, 2] (c2) (by kernel_rfl) (by kernel_rfl) ?_
  refine kp 8 (.iface 92 (Value.iface (List.length T) (Value.iface y (Value.agg (List.toArray (ocs 93 T)))))) ?_
  refine WpOps.nil (thenK_at (Wp.seq (Wp.text ?_)))
  refine kp 24 (.agg #[Value.int .i64 N, Value.iface 48 (Value.iface (List.length ls) (Value.iface x (Value.agg (List.toArray (lcs ls)))))]) ?_
  refine kp 25 (.iface 45 (Value.iface (List.length T) (Value.iface xt (Value.agg (List.toArray (List.map (fun p => rowF 47 (Prod.fst p) (Prod.snd p)) T)))))) ?_
  refine kp 26 (.bool poison) ?_
  refine cl 27 18 [Value.agg #[Value.int .i64 N, Value.iface 48 (Value.iface (List.length ls) (Value.iface x (Value.agg (List.toArray (lcs ls)))))], Value.iface 45 (Value.iface (List.length T) (Value.iface xt (Value.agg (List.toArray (List.map (fun p => rowF 47 (Prod.fst p) (Prod.snd p)) T))))), Value.bool poison] ?_
  refine WpCall.consume [0, 1, 2] (c3) (by kernel_rfl) (by kernel_rfl) ?_
  refine kp 23 (.tuple #[Value.iface 45 (Value.iface 0 (Value.iface 2 (Value.agg #[]))), Value.int .i64 1]) ?_
  refine kp 28 (.iface 45 (Value.iface 0 (Value.iface 2 (Value.agg #[])))) ?_
  refine kp 29 (.int IntKind.i64 1) ?_
  refine kp 9 (.iface 45 (Value.iface 0 (Value.iface 2 (Value.agg #[])))) ?_
  refine kp 10 (.int IntKind.i64 1) ?_
  refine WpOps.nil (thenK_at (Wp.seq (Wp.text ?_)))
  refine kp 30 (.iface 45 (Value.iface 0 (Value.iface 2 (Value.agg #[])))) ?_
  refine cl 31 15 [Value.iface 45 (Value.iface 0 (Value.iface 2 (Value.agg #[])))] ?_
  refine WpCall.consume [0, 1, 2] (c4) (by kernel_rfl) (by kernel_rfl) ?_
  refine kp 11 (.iface 92 (Value.iface 0 (Value.iface 2 (Value.agg #[])))) ?_
  refine WpOps.nil (thenK_at (Wp.seq (Wp.seq (Wp.text ?_))))
  refine kp 12 (.int IntKind.i64 0) ?_
  refine WpOps.nil (thenK_at (Wp.block ?_))
  refine Wp.loop (G := Nat) (fun i => layj [(1, tabF 45 47 xt T), (2, .bool poison), (3, .pointer (some ⟨0, 0, none⟩)), (7, .slice (some ⟨1, 0, none⟩) (ls.length) (ls.length)), (8, FS 92 T.length y (ocs 93 T).toArray), (9, FS 45 0 2 #[]), (10, .int .i64 1), (11, FS 92 0 2 #[]), (12, .int .i64 i)]) (fun _ => heapOf [⟨24, true, [.int .i64 N, lks x ls]⟩, ⟨48, true, lcs ls⟩]) (fun _ => 0) (fun i => i = 0) 0 ?_ rfl ?_
  · exact View.of [0, 2] [⟨24, true, [.int .i64 N, lks x ls]⟩, ⟨48, true, lcs ls⟩] _ (by decide) rfl ⟨⟨_, rfl, CellsOk.eq rfl rfl⟩, ⟨_, rfl, CellsOk.eq rfl (lcs_flat _)⟩, trivial⟩ ⟨⟨by kernel_rfl, rfl⟩, ⟨by kernel_rfl, rfl⟩, ⟨by kernel_rfl, okV_ptr (show 0 < 2 by decide)⟩, ⟨sl_eq (n := 0 + ls.length) (b := 2) (by kernel_rfl) (Nat.zero_add _) rfl, okV_sl (show 1 < 2 by decide)⟩, ⟨by kernel_rfl, rfl⟩, ⟨by kernel_rfl, rfl⟩, ⟨by kernel_rfl, rfl⟩, ⟨by kernel_rfl, rfl⟩, ⟨by kernel_rfl, rfl⟩, trivial⟩
  rintro i rfl
  unfold tabF
  refine Wp.seq (Wp.seq (Wp.text ?_))
  refine kp 32 (.int IntKind.i64 (↑0 : Int)) ?_
  refine kp 33 (.iface 45 (Value.iface 0 (Value.iface 2 (Value.agg #[])))) ?_
  refine kp 34 (.int IntKind.i64 (↑0 : Int)) ?_
  refine kp 35 (.bool false) ?_
  refine WpOps.nil (thenK_at (off' (Wp.exit (thenK_exit (thenK_exit (blockK_hit (thenK_at (Wp.seq (Wp.text ?_)))))))))
  refine kp 55 (.agg #[Value.int .i64 N, Value.iface 48 (Value.iface (List.length ls) (Value.iface x (Value.agg (List.toArray (lcs ls)))))]) ?_
  refine kp 56 (.iface 45 (Value.iface (List.length T) (Value.iface xt (Value.agg (List.toArray (List.map (fun p => rowF 47 (Prod.fst p) (Prod.snd p)) T)))))) ?_
  refine kp 57 (.bool poison) ?_
  refine cl 58 18 [Value.agg #[Value.int .i64 N, Value.iface 48 (Value.iface (List.length ls) (Value.iface x (Value.agg (List.toArray (lcs ls)))))], Value.iface 45 (Value.iface (List.length T) (Value.iface xt (Value.agg (List.toArray (List.map (fun p => rowF 47 (Prod.fst p) (Prod.snd p)) T))))), Value.bool poison] ?_
  refine WpCall.consume [0, 1] (c3) (by kernel_rfl) (by kernel_rfl) ?_
  refine kp 54 (.tuple #[Value.iface 45 (Value.iface 0 (Value.iface 2 (Value.agg #[]))), Value.int .i64 1]) ?_
  refine kp 59 (.iface 45 (Value.iface 0 (Value.iface 2 (Value.agg #[])))) ?_
  refine kp 60 (.int IntKind.i64 1) ?_
  refine kp 14 (.iface 45 (Value.iface 0 (Value.iface 2 (Value.agg #[])))) ?_
  refine kp 15 (.int IntKind.i64 1) ?_
  refine WpOps.nil (thenK_at (Wp.seq (Wp.seq (Wp.text ?_))))
  refine kp 16 (.int IntKind.i64 0) ?_
  refine WpOps.nil (thenK_at (Wp.block ?_))
  refine Wp.loop (G := Nat) (fun k => layj [(1, tabF 45 47 xt T), (3, .pointer (some ⟨0, 0, none⟩)), (7, .slice (some ⟨1, 0, none⟩) (ls.length) (ls.length)), (8, FS 92 T.length y (ocs 93 T).toArray), (10, .int .i64 1), (11, FS 92 0 2 #[]), (14, FS 45 0 2 #[]), (15, .int .i64 1), (16, .int .i64 k)]) (fun _ => heapOf [⟨24, true, [.int .i64 N, lks x ls]⟩, ⟨48, true, lcs ls⟩]) (fun k => ls.length - k) (fun k => k ≤ ls.length) 0
    (View.same [⟨24, true, [.int .i64 N, lks x ls]⟩, ⟨48, true, lcs ls⟩] _ (Nat.zero_le _) (pre2 ⟨rfl, okCs_flat rfl⟩ ⟨rfl, okCs_flat (lcs_flat _)⟩) ⟨⟨by kernel_rfl, rfl⟩, ⟨by kernel_rfl, okV_ptr (show 0 < 2 by decide)⟩, ⟨by kernel_rfl, okV_sl (show 1 < 2 by decide)⟩, ⟨by kernel_rfl, rfl⟩, ⟨by kernel_rfl, rfl⟩, ⟨by kernel_rfl, rfl⟩, ⟨by kernel_rfl, rfl⟩, ⟨by kernel_rfl, rfl⟩, ⟨by kernel_rfl, rfl⟩, trivial⟩) (Nat.zero_le _) ?_
  intro k hk
  unfold tabF lks
  by_cases hlt : k < ls.length
  · have d2 : decide ((k : Int) < ls.length) = true := decide_eq_true (by omega)
    have g2 : 0 ≤ (k : Int) ∧ (k : Int) < ls.length := by omega
    have v1 := lcs_cells ls k (0, 0, 0) hlt
    have v2 : cellsAt (lcs ls) (0 + (k : Int).toNat * 3) 3 = some (lc (ls.getD k (0, 0, 0))) := by
      rw [Nat.zero_add]
      exact v1
    have hk2 := hne k hlt (ls.getD k (0, 0, 0))
    generalize ls.getD k (0, 0, 0) = l at v1 v2 hk2
    unfold lc at v1 v2
    refine Wp.seq (Wp.seq (Wp.text ?_))
    refine kp 61 (.int IntKind.i64 (↑k : Int)) ?_
    refine kp 62 (.slice (some ⟨1, 0, none⟩) (List.length ls) (List.length ls)) ?_
    refine kp 63 (.int IntKind.i64 (↑(List.length ls) : Int)) ?_
    refine kp 64 (.bool true) ?_ (hop := fun _ => by_fact d2)
    refine WpOps.nil (thenK_at (on' (Wp.skip (thenK_at (Wp.seq (Wp.block (Wp.seq ?_)))))))
    refine Wp.region (by kernel_rfl) ?_
    refine kp 67 (.pointer (some ⟨0, 1, none⟩)) ?_
    refine kp 68 (.iface 48 (Value.iface (List.length ls) (Value.iface x (Value.agg (List.toArray (lcs ls)))))) ?_
    refine kp 69 (.int IntKind.i64 (↑k : Int)) ?_
    refine kp 70 (.iface 48 (Value.iface (Int.toNat (↑k : Int) * 3) (Value.agg (List.toArray (lcs ls))))) ?_ (hop := fun _ => o_indexI (e := 48) (size := 3) (a := (↑k : Int)) g2)
    refine kp 71 (.agg #[Value.int .i64 (Prod.fst l), Value.int .i64 (Prod.fst (Prod.snd l)), Value.int .i64 (Prod.snd (Prod.snd l))]) ?_ (hop := fun _ => o_loadIA (Int.toNat (↑k : Int) * 3) v1)
    refine kp 72 (.slice (some ⟨1, 0, none⟩) (List.length ls) (List.length ls)) ?_
    refine kp 73 (.int IntKind.i64 (↑k : Int)) ?_
    refine kp 74 (.pointer (some (Addr.mk 1 (0 + Int.toNat (↑k : Int) * 3) none))) ?_ (hop := fun _ => o_indexAddr (a := (↑k : Int)) (bl := 1) (off := 0) (size := 3) 48 (List.length ls) g2)
    refine kp 75 (.agg #[Value.int .i64 (Prod.fst l), Value.int .i64 (Prod.fst (Prod.snd l)), Value.int .i64 (Prod.snd (Prod.snd l))]) ?_ (hop := fun _ => o_loadA (1) (0 + Int.toNat (↑k : Int) * 3) v2)
    refine kp 76 (.bool false) ?_ (hop := fun _ => by_fact hk2)
    refine WpOps.nil (thenK_at (off' (Wp.skip (blockK_norm (thenK_at (Wp.text ?_))))))
    refine kp 65 (.int IntKind.i64 (↑k : Int)) ?_
    refine kp 66 (.int IntKind.i64 (IntKind.wrap .i64 ((↑k : Int) + 1))) ?_
    refine kp 16 (.int IntKind.i64 (IntKind.wrap .i64 ((↑k : Int) + 1))) ?_
    refine WpOps.nil (thenK_at ?_)
    exact ⟨k + 1, by omega, by omega, View.same [⟨24, true, [.int .i64 N, lks x ls]⟩, ⟨48, true, lcs ls⟩] _ (Nat.zero_le _) (pre2 ⟨rfl, okCs_flat rfl⟩ ⟨rfl, okCs_flat (lcs_flat _)⟩) ⟨⟨by kernel_rfl, rfl⟩, ⟨by kernel_rfl, okV_ptr (show 0 < 2 by decide)⟩, ⟨by kernel_rfl, okV_sl (show 1 < 2 by decide)⟩, ⟨by kernel_rfl, rfl⟩, ⟨by kernel_rfl, rfl⟩, ⟨by kernel_rfl, rfl⟩, ⟨by kernel_rfl, rfl⟩, ⟨by kernel_rfl, rfl⟩, ⟨congrArg (Value.int .i64) (wr _ (by omega) (by omega)), rfl⟩, trivial⟩⟩
  · obtain rfl : k = ls.length := by omega
    have d2 : decide (((ls.length : Nat) : Int) < ls.length) = false := decide_eq_false (by omega)
    refine Wp.seq (Wp.seq (Wp.text ?_))
    refine kp 61 (.int IntKind.i64 (↑(List.length ls) : Int)) ?_
    refine kp 62 (.slice (some ⟨1, 0, none⟩) (List.length ls) (List.length ls)) ?_
    refine kp 63 (.int IntKind.i64 (↑(List.length ls) : Int)) ?_
    refine kp 64 (.bool false) ?_ (hop := fun _ => by_fact d2)
    refine WpOps.nil (thenK_at (off' (Wp.exit (thenK_exit (thenK_exit (blockK_hit (thenK_at (Wp.seq (Wp.text ?_)))))))))
    refine kp 77 (.int IntKind.i64 1) ?_
    refine kp 78 (.int IntKind.i64 1) ?_
    refine kp 79 (.bool true) ?_
    refine kp 80 (.bool true) ?_
    refine kp 81 (.iface 45 (Value.iface (List.length T) (Value.iface xt (Value.agg (List.toArray (List.map (fun p => rowF 47 (Prod.fst p) (Prod.snd p)) T)))))) ?_
    refine cl 82 15 [Value.iface 45 (Value.iface (List.length T) (Value.iface xt (Value.agg (List.toArray (List.map (fun p => rowF 47 (Prod.fst p) (Prod.snd p)) T)))))] ?_
    refine WpCall.consume [0, 1] (c2) (by kernel_rfl) (by kernel_rfl) ?_
    refine kp 83 (.iface 92 (Value.iface (List.length T) (Value.iface y (Value.agg (List.toArray (ocs 93 T)))))) ?_
    refine fr 84 20 [Value.iface 92 (Value.iface (List.length T) (Value.iface y (Value.agg (List.toArray (ocs 93 T))))), Value.iface 92 (Value.iface (List.length T) (Value.iface y (Value.agg (List.toArray (ocs 93 T)))))] ?_
    refine WpFun.of (c6) ?_
    refine kp 85 (.bool true) ?_
    refine kp 86 (.bool true) ?_
    refine kp 87 (.iface 45 (Value.iface 0 (Value.iface 2 (Value.agg #[])))) ?_
    refine kp 88 (.iface 92 (Value.iface 0 (Value.iface 2 (Value.agg #[])))) ?_
    refine fr 89 16 [Value.iface 45 (Value.iface 0 (Value.iface 2 (Value.agg #[]))), Value.iface 92 (Value.iface 0 (Value.iface 2 (Value.agg #[])))] ?_
    refine WpFun.of (c5) ?_
    refine kp 90 (.bool true) ?_
    refine kp 91 (.bool true) ?_
    refine fr 92 17 [] ?_
    refine WpFun.of (c0) ?_
    refine kp 93 (.bool true) ?_
    refine kp 6 (.bool true) ?_
    refine WpOps.nil (thenK_at (Wp.ret ?_))
    refine endK_retn [Value.bool true] (Value.bool true) (by kernel_rfl) (by kernel_rfl) ?_
    rfl
set_option maxHeartbeats 8000000 in
theorem law5_badnil (N : Int) (x : Nat) (ls : List Lk) (xt : Nat) (T : List (Nat × List Rt)) (poison : Bool) (hl0 : ls = []) (hy : ls.length * 24 ≤ 140737488351232) (ok : OkT xt T) (hb' : tabOk N ls T = false) : Fun E 5 [netV N x ls, tabF 45 47 xt T, .bool poison] (.bool true) := by
  have c0 := sane17
  have hs1 := ok.size
  have hs2 := ok.sizes
  have c2 := tables15 xt T hs1 hs2
  have c3 := round18_bad N x ls xt T poison hb' (valid25 N x ls (by omega)) (by omega) (fun p hp => by have := hs2 p hp; omega)
  have c4 : Fun E 15 [FS 45 0 2 #[]] (FS 92 0 2 #[]) := tables15 2 [] (by decide) (fun p hp => by cases hp)
  have c5 := same16n
  have c6 := same20g (if T.length = 0 then 2 else 0) T hs1 hs2
  have d1 : ((1 : Int) == 1) = true := rfl
  refine Fun.of f5 rfl (of_decide_eq_true (by kernel_rfl)) rfl ?_
  unfold tabT at c2
  generalize (if T.length = 0 then 2 else 0) = y at c2 c6
  subst hl0
  rw [show netV N x [] = .agg #[.int .i64 N, FS 48 0 x #[]] from rfl] at *
  unfold tabF at *
  refine Wp.seq (Wp.text ?_)
  refine md 3 (.pointer (some ⟨0, 0, none⟩)) (Blk.mk 24 true [Value.int .i64 N, Value.iface 48 (Value.iface 0 (Value.iface x (Value.agg #[])))]) ?_
  refine kp 6 (.bool false) ?_
  refine WpOps.nil (thenK_at (Wp.seq (Wp.text ?_)))
  refine md 17 (.slice (some ⟨1, 0, none⟩) 0 0) (Blk.mk 48 true []) ?_
  refine kp 18 (.pointer (some ⟨0, 1, none⟩)) ?_
  refine kp 19 (.iface 48 (Value.iface 0 (Value.iface x (Value.agg #[])))) ?_
  refine kp 20 (.slice (some ⟨1, 0, none⟩) 0 0) ?_
  refine kp 7 (.slice (some ⟨1, 0, none⟩) 0 0) ?_
  refine WpOps.nil (thenK_at (Wp.seq (Wp.text ?_)))
  refine kp 21 (.iface 45 (Value.iface (List.length T) (Value.iface xt (Value.agg (List.toArray (List.map (fun p => rowF 47 (Prod.fst p) (Prod.snd p)) T)))))) ?_
  refine cl 22 15 [Value.iface 45 (Value.iface (List.length T) (Value.iface xt (Value.agg (List.toArray (List.map (fun p => rowF 47 (Prod.fst p) (Prod.snd p)) T)))))] ?_
  refine WpCall.consume [0, 1] (c2) (by kernel_rfl) (by kernel_rfl) ?_
  refine kp 8 (.iface 92 (Value.iface (List.length T) (Value.iface y (Value.agg (List.toArray (ocs 93 T)))))) ?_
  refine WpOps.nil (thenK_at (Wp.seq (Wp.text ?_)))
  refine kp 24 (.agg #[Value.int .i64 N, Value.iface 48 (Value.iface 0 (Value.iface x (Value.agg #[])))]) ?_
  refine kp 25 (.iface 45 (Value.iface (List.length T) (Value.iface xt (Value.agg (List.toArray (List.map (fun p => rowF 47 (Prod.fst p) (Prod.snd p)) T)))))) ?_
  refine kp 26 (.bool poison) ?_
  refine cl 27 18 [Value.agg #[Value.int .i64 N, Value.iface 48 (Value.iface 0 (Value.iface x (Value.agg #[])))], Value.iface 45 (Value.iface (List.length T) (Value.iface xt (Value.agg (List.toArray (List.map (fun p => rowF 47 (Prod.fst p) (Prod.snd p)) T))))), Value.bool poison] ?_
  refine WpCall.consume [0, 1] (c3) (by kernel_rfl) (by kernel_rfl) ?_
  refine kp 23 (.tuple #[Value.iface 45 (Value.iface 0 (Value.iface 2 (Value.agg #[]))), Value.int .i64 1]) ?_
  refine kp 28 (.iface 45 (Value.iface 0 (Value.iface 2 (Value.agg #[])))) ?_
  refine kp 29 (.int IntKind.i64 1) ?_
  refine kp 9 (.iface 45 (Value.iface 0 (Value.iface 2 (Value.agg #[])))) ?_
  refine kp 10 (.int IntKind.i64 1) ?_
  refine WpOps.nil (thenK_at (Wp.seq (Wp.text ?_)))
  refine kp 30 (.iface 45 (Value.iface 0 (Value.iface 2 (Value.agg #[])))) ?_
  refine cl 31 15 [Value.iface 45 (Value.iface 0 (Value.iface 2 (Value.agg #[])))] ?_
  refine WpCall.consume [0, 1] (c4) (by kernel_rfl) (by kernel_rfl) ?_
  refine kp 11 (.iface 92 (Value.iface 0 (Value.iface 2 (Value.agg #[])))) ?_
  refine WpOps.nil (thenK_at (Wp.seq (Wp.seq (Wp.text ?_))))
  refine kp 12 (.int IntKind.i64 0) ?_
  refine WpOps.nil (thenK_at (Wp.block ?_))
  refine Wp.loop (G := Nat) (fun i => layj [(1, tabF 45 47 xt T), (2, .bool poison), (3, .pointer (some ⟨0, 0, none⟩)), (7, .slice (some ⟨1, 0, none⟩) (0) (0)), (8, FS 92 T.length y (ocs 93 T).toArray), (9, FS 45 0 2 #[]), (10, .int .i64 1), (11, FS 92 0 2 #[]), (12, .int .i64 i)]) (fun _ => heapOf [⟨24, true, [.int .i64 N, FS 48 0 x #[]]⟩, ⟨48, true, []⟩]) (fun _ => 0) (fun i => i = 0) 0 ?_ rfl ?_
  · exact View.of [0, 1] [⟨24, true, [.int .i64 N, FS 48 0 x #[]]⟩, ⟨48, true, []⟩] _ (by decide) rfl ⟨⟨_, rfl, CellsOk.eq rfl rfl⟩, ⟨_, rfl, CellsOk.eq rfl (rfl)⟩, trivial⟩ ⟨⟨by kernel_rfl, rfl⟩, ⟨by kernel_rfl, rfl⟩, ⟨by kernel_rfl, okV_ptr (show 0 < 2 by decide)⟩, ⟨by kernel_rfl, okV_sl (show 1 < 2 by decide)⟩, ⟨by kernel_rfl, rfl⟩, ⟨by kernel_rfl, rfl⟩, ⟨by kernel_rfl, rfl⟩, ⟨by kernel_rfl, rfl⟩, ⟨by kernel_rfl, rfl⟩, trivial⟩
  rintro i rfl
  unfold tabF
  refine Wp.seq (Wp.seq (Wp.text ?_))
  refine kp 32 (.int IntKind.i64 (↑0 : Int)) ?_
  refine kp 33 (.iface 45 (Value.iface 0 (Value.iface 2 (Value.agg #[])))) ?_
  refine kp 34 (.int IntKind.i64 (↑0 : Int)) ?_
  refine kp 35 (.bool false) ?_
  refine WpOps.nil (thenK_at (off' (Wp.exit (thenK_exit (thenK_exit (blockK_hit (thenK_at (Wp.seq (Wp.text ?_)))))))))
  refine kp 55 (.agg #[Value.int .i64 N, Value.iface 48 (Value.iface 0 (Value.iface x (Value.agg #[])))]) ?_
  refine kp 56 (.iface 45 (Value.iface (List.length T) (Value.iface xt (Value.agg (List.toArray (List.map (fun p => rowF 47 (Prod.fst p) (Prod.snd p)) T)))))) ?_
  refine kp 57 (.bool poison) ?_
  refine cl 58 18 [Value.agg #[Value.int .i64 N, Value.iface 48 (Value.iface 0 (Value.iface x (Value.agg #[])))], Value.iface 45 (Value.iface (List.length T) (Value.iface xt (Value.agg (List.toArray (List.map (fun p => rowF 47 (Prod.fst p) (Prod.snd p)) T))))), Value.bool poison] ?_
  refine WpCall.consume [0, 1] (c3) (by kernel_rfl) (by kernel_rfl) ?_
  refine kp 54 (.tuple #[Value.iface 45 (Value.iface 0 (Value.iface 2 (Value.agg #[]))), Value.int .i64 1]) ?_
  refine kp 59 (.iface 45 (Value.iface 0 (Value.iface 2 (Value.agg #[])))) ?_
  refine kp 60 (.int IntKind.i64 1) ?_
  refine kp 14 (.iface 45 (Value.iface 0 (Value.iface 2 (Value.agg #[])))) ?_
  refine kp 15 (.int IntKind.i64 1) ?_
  refine WpOps.nil (thenK_at (Wp.seq (Wp.seq (Wp.text ?_))))
  refine kp 16 (.int IntKind.i64 0) ?_
  refine WpOps.nil (thenK_at (Wp.block ?_))
  refine Wp.loop (G := Nat) (fun k => layj [(1, tabF 45 47 xt T), (3, .pointer (some ⟨0, 0, none⟩)), (7, .slice (some ⟨1, 0, none⟩) (0) (0)), (8, FS 92 T.length y (ocs 93 T).toArray), (10, .int .i64 1), (11, FS 92 0 2 #[]), (14, FS 45 0 2 #[]), (15, .int .i64 1), (16, .int .i64 k)]) (fun _ => heapOf [⟨24, true, [.int .i64 N, FS 48 0 x #[]]⟩, ⟨48, true, []⟩]) (fun _ => 0) (fun k => k = 0) 0
    (View.same [⟨24, true, [.int .i64 N, FS 48 0 x #[]]⟩, ⟨48, true, []⟩] _ (Nat.zero_le _) (pre2 ⟨rfl, okCs_flat rfl⟩ ⟨rfl, okCs_flat (rfl)⟩) ⟨⟨by kernel_rfl, rfl⟩, ⟨by kernel_rfl, okV_ptr (show 0 < 2 by decide)⟩, ⟨by kernel_rfl, okV_sl (show 1 < 2 by decide)⟩, ⟨by kernel_rfl, rfl⟩, ⟨by kernel_rfl, rfl⟩, ⟨by kernel_rfl, rfl⟩, ⟨by kernel_rfl, rfl⟩, ⟨by kernel_rfl, rfl⟩, ⟨by kernel_rfl, rfl⟩, trivial⟩) rfl ?_
  rintro k rfl
  unfold tabF
  refine Wp.seq (Wp.seq (Wp.text ?_))
  refine kp 61 (.int IntKind.i64 (↑0 : Int)) ?_
  refine kp 62 (.slice (some ⟨1, 0, none⟩) 0 0) ?_
  refine kp 63 (.int IntKind.i64 (↑0 : Int)) ?_
  refine kp 64 (.bool false) ?_
  refine WpOps.nil (thenK_at (off' (Wp.exit (thenK_exit (thenK_exit (blockK_hit (thenK_at (Wp.seq (Wp.text ?_)))))))))
  refine kp 77 (.int IntKind.i64 1) ?_
  refine kp 78 (.int IntKind.i64 1) ?_
  refine kp 79 (.bool true) ?_
  refine kp 80 (.bool true) ?_
  refine kp 81 (.iface 45 (Value.iface (List.length T) (Value.iface xt (Value.agg (List.toArray (List.map (fun p => rowF 47 (Prod.fst p) (Prod.snd p)) T)))))) ?_
  refine cl 82 15 [Value.iface 45 (Value.iface (List.length T) (Value.iface xt (Value.agg (List.toArray (List.map (fun p => rowF 47 (Prod.fst p) (Prod.snd p)) T)))))] ?_
  refine WpCall.consume [0, 1] (c2) (by kernel_rfl) (by kernel_rfl) ?_
  refine kp 83 (.iface 92 (Value.iface (List.length T) (Value.iface y (Value.agg (List.toArray (ocs 93 T)))))) ?_
  refine fr 84 20 [Value.iface 92 (Value.iface (List.length T) (Value.iface y (Value.agg (List.toArray (ocs 93 T))))), Value.iface 92 (Value.iface (List.length T) (Value.iface y (Value.agg (List.toArray (ocs 93 T)))))] ?_
  refine WpFun.of (c6) ?_
  refine kp 85 (.bool true) ?_
  refine kp 86 (.bool true) ?_
  refine kp 87 (.iface 45 (Value.iface 0 (Value.iface 2 (Value.agg #[])))) ?_
  refine kp 88 (.iface 92 (Value.iface 0 (Value.iface 2 (Value.agg #[])))) ?_
  refine fr 89 16 [Value.iface 45 (Value.iface 0 (Value.iface 2 (Value.agg #[]))), Value.iface 92 (Value.iface 0 (Value.iface 2 (Value.agg #[])))] ?_
  refine WpFun.of (c5) ?_
  refine kp 90 (.bool true) ?_
  refine kp 91 (.bool true) ?_
  refine fr 92 17 [] ?_
  refine WpFun.of (c0) ?_
  refine kp 93 (.bool true) ?_
  refine kp 6 (.bool true) ?_
  refine WpOps.nil (thenK_at (Wp.ret ?_))
  refine endK_retn [Value.bool true] (Value.bool true) (by kernel_rfl) (by kernel_rfl) ?_
  rfl
theorem law5 (N : Int) (x : Nat) (ls : List Lk) (xt : Nat) (T : List (Nat × List Rt)) (poison : Bool) (hy : ls.length * 24 ≤ 140737488351232) (ok : OkT xt T) : Fun E 5 [netV N x ls, tabF 45 47 xt T, .bool poison] (.bool true) := by
  rcases Nat.eq_zero_or_pos ls.length with h0 | h0
  · by_cases hb : tabOk N ls T = true
    · obtain ⟨n, f, rfl, g, gt, rfl, rfl, t1, t2, t3⟩ := open_tab (x := x) hy ok hb
      exact law5_nil n x ls f poison (List.eq_nil_of_length_eq_zero h0) hy g gt t1 t3
    · exact law5_badnil N x ls xt T poison (List.eq_nil_of_length_eq_zero h0) hy ok (by simpa using hb)
  · by_cases hb : tabOk N ls T = true
    · obtain ⟨n, f, rfl, g, gt, rfl, rfl, t1, t2, t3⟩ := open_tab (x := x) hy ok hb
      exact law5_ok n x ls f poison h0 hy g gt t1 t3
    · exact law5_bad N x ls xt T poison h0 hy ok (by simpa using hb)
end Go.Proofs.Ytfjkanjmggbofaa.D
