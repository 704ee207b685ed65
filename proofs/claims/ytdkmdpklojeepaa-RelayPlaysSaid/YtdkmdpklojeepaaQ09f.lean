/- Strings of both; fates as the program has them; the document's scripts and New. -/
import Derived.Test.YtdkmdpklojeepaaFwLem
import Derived.Test.YtdkmdpklojeepaaFwHole
import Derived.Test.YtdkmdpklojeepaaFwHoleL
import Derived.Test.YtdkmdpklojeepaaM09d
namespace Go.Proofs.Ytdkmdpklojeepaa.D
open Go.Fw Go.RowKit

theorem g26 : E.funcs 26 = some Try.f26 := by kernel_rfl
theorem g23 : E.funcs 23 = some Try.f23 := by kernel_rfl
theorem g45 : E.funcs 45 = some Try.f45 := by kernel_rfl
theorem g24 : E.funcs 24 = some Try.f24 := by kernel_rfl
theorem strings26 (A : List Tr) (hz : A.length ≤ 1000) : Lent E 26 [outU A, outU A] [] (.bool true) [] := by
  by_cases hA : A = []
  · subst hA
    refine Lent.of g26 rfl (of_decide_eq_true (by kernel_rfl)) rfl rfl (Nat.le_refl _) rfl rfl rfl ?_
    show Wp 0 E _ _ (slots0 [.slice none 0 0, .slice none 0 0]) _ _
    refine Wp.seq (Wp.text (kp 4 (.bool false) (WpOps.nil (thenK_at (Wp.seq (Wp.seq (Wp.text (kp 6 (.slice none 0 0) (kp 7 (.int .i64 (↑0 : Int)) (kp 8 (.slice none 0 0) (kp 9 (.int .i64 (↑0 : Int)) (kp 10 (.bool false) (WpOps.nil (thenK_at (off' (Wp.skip (thenK_at (Wp.seq (Wp.seq (Wp.text (kp 5 (.int .i64 0) (WpOps.nil (thenK_at (Wp.block ?_))))))))))))))))))))))))
    refine Wp.unroll (WpL.step ?_)
    refine Wp.seq (Wp.seq (Wp.text (kp 11 (.int .i64 0) (kp 12 (.slice none 0 0) (kp 13 (.int .i64 (↑0 : Int)) (kp 14 (.bool false) (WpOps.nil (thenK_at (off' (Wp.exit (thenK_exit (thenK_exit (blockK_hit (thenK_at (Wp.seq (Wp.text (kp 4 (.bool true) (WpOps.nil (thenK_at (Wp.ret (endK_retn [Value.bool true] (Value.bool true) (by kernel_rfl) (by kernel_rfl) ?_)))))))))))))))))))))
    exact ⟨[], by decide, by kernel_rfl, trivial, .w (.un rfl rfl)⟩
  rw [show outU A = FS 9 A.length 0 (uns A).toArray from if_neg hA]
  refine Lent.of g26 rfl (of_decide_eq_true (by kernel_rfl)) rfl rfl (Nat.le_refl _) rfl rfl rfl ?_
  have d0 : ((A.length : Int) != A.length) = false := by simp
  refine Wp.seq (Wp.text (kp 4 (.bool false) (WpOps.nil (thenK_at (Wp.seq (Wp.seq (Wp.text (kp 6 (.iface 9 (Value.iface (List.length A) (Value.iface 0 (Value.agg (List.toArray (uns A)))))) (kp 7 (.int .i64 (List.length A)) (kp 8 (.iface 9 (Value.iface (List.length A) (Value.iface 0 (Value.agg (List.toArray (uns A)))))) (kp 9 (.int .i64 (List.length A)) (kp 10 (.bool false) (WpOps.nil (thenK_at (off' (Wp.skip (thenK_at (Wp.seq (Wp.seq (Wp.text (kp 5 (.int .i64 0) (WpOps.nil (thenK_at (Wp.block ?_)))))))))))) (hop := fun _ => by_fact d0)))))))))))))
  refine Wp.loop (G := Nat) (fun i => layj [(0, FS 9 A.length 0 (uns A).toArray), (1, FS 9 A.length 0 (uns A).toArray), (4, .bool false), (5, .int .i64 i)]) (fun _ => heapOf []) (fun i => A.length - i) (fun i => i ≤ A.length) 0
    (View.of [] [] _ List.nodup_nil rfl trivial ⟨⟨by kernel_rfl, rfl⟩, ⟨by kernel_rfl, rfl⟩, ⟨by kernel_rfl, rfl⟩, ⟨by kernel_rfl, rfl⟩, trivial⟩) (Nat.zero_le _) ?_
  intro i hi
  by_cases hc : i < A.length
  · have d2 : decide ((i : Int) < (A.length : Int)) = true := decide_eq_true (by omega)
    have g1 : 0 ≤ (i : Int) ∧ (i : Int) < A.length := by omega
    have hg : (uns A).toArray.toList[(i : Int).toNat * 1]? = some (.string A[i].2) := by
      rw [Int.toNat_natCast, Nat.mul_one, List.toList_toArray, uns, List.getElem?_map, List.getElem?_eq_getElem hc]
      rfl
    have wi : IntKind.i64.wrap ((i : Int) + 1) = ((i + 1 : Nat) : Int) := by rw [wr _ (by omega) (by omega)]; omega
    have d3 : (!A[i].2.toList == A[i].2.toList) = false := by simp
    refine Wp.seq (Wp.seq (Wp.text (kp 11 (.int .i64 i) (kp 12 (.iface 9 (Value.iface (List.length A) (Value.iface 0 (Value.agg (List.toArray (uns A)))))) (kp 13 (.int .i64 (List.length A)) (kp 14 (.bool true) (WpOps.nil (thenK_at (on' (Wp.skip (thenK_at (Wp.seq (Wp.block (Wp.seq (Wp.region (by kernel_rfl) (kp 17 (.iface 9 (Value.iface (List.length A) (Value.iface 0 (Value.agg (List.toArray (uns A)))))) (kp 18 (.int .i64 i) (kp 19 (.iface 9 (Value.iface (Int.toNat (↑i : Int) * 1) (Value.agg (List.toArray (uns A))))) (kp 20 (.string (Prod.snd A[i])) (kp 21 (.iface 9 (Value.iface (List.length A) (Value.iface 0 (Value.agg (List.toArray (uns A)))))) (kp 22 (.int .i64 i) (kp 23 (.iface 9 (Value.iface (Int.toNat (↑i : Int) * 1) (Value.agg (List.toArray (uns A))))) (kp 24 (.string (Prod.snd A[i])) (kp 25 (.bool false) (WpOps.nil (thenK_at (off' (Wp.skip (blockK_norm (thenK_at (Wp.text (kp 15 (.int .i64 i) (kp 16 (.int .i64 (IntKind.wrap .i64 ((↑i : Int) + 1))) (kp 5 (.int .i64 (IntKind.wrap .i64 ((↑i : Int) + 1))) (WpOps.nil (thenK_at ?_)))))))))))) (hop := fun _ => by_fact d3)) (hop := fun _ => o_loadI1 (Int.toNat (↑i : Int) * 1) hg)) (hop := fun _ => o_indexI (e := 9) (size := 1) (a := (↑i : Int)) g1)))) (hop := fun _ => o_loadI1 (Int.toNat (↑i : Int) * 1) hg)) (hop := fun _ => o_indexI (e := 9) (size := 1) (a := (↑i : Int)) g1))))))))))))) (hop := fun _ => by_fact d2)))))))
    exact ⟨i + 1, by omega, by omega, View.of [] [] _ List.nodup_nil rfl trivial ⟨⟨by kernel_rfl, rfl⟩, ⟨by kernel_rfl, rfl⟩, ⟨by kernel_rfl, rfl⟩, ⟨congrArg (Value.int .i64) wi, rfl⟩, trivial⟩⟩
  · have d2 : decide ((i : Int) < (A.length : Int)) = false := decide_eq_false (by omega)
    refine Wp.seq (Wp.seq (Wp.text (kp 11 (.int .i64 i) (kp 12 (.iface 9 (Value.iface (List.length A) (Value.iface 0 (Value.agg (List.toArray (uns A)))))) (kp 13 (.int .i64 (List.length A)) (kp 14 (.bool false) (WpOps.nil (thenK_at (off' (Wp.exit (thenK_exit (thenK_exit (blockK_hit (thenK_at (Wp.seq (Wp.text (kp 4 (.bool true) (WpOps.nil (thenK_at (Wp.ret (endK_retn [Value.bool true] (Value.bool true) (by kernel_rfl) (by kernel_rfl) ?_))))))))))))))) (hop := fun _ => by_fact d2)))))))
    exact ⟨[], by decide, by kernel_rfl, trivial, .w (.un rfl rfl)⟩
def xF (L : List Ft) : Nat := if L = [] then 2 else 0
theorem ty46 : ∃ ti, E.types (46 : Nat) = some ti := by
  have hi : (E.types (46 : Nat)).map TI.size = some 4 := by kernel_rfl
  obtain ⟨ti, ht, _⟩ := Option.map_eq_some_iff.1 hi
  exact ⟨ti, ht⟩
theorem fts_all (L : List Ft) : cellsAt (fts L) 0 (L.length * 4) = some (fts L) := by
  unfold cellsAt
  rw [fts_len, if_pos (by omega), List.drop_zero, List.take_of_length_le (by rw [fts_len]; exact Nat.le_refl _)]
theorem fts_snoc (L : List Ft) {i : Nat} (h : i < L.length) : fts (L.take (i + 1)) = fts (L.take i) ++ fce L[i] := by
  unfold fts
  rw [List.take_add_one, List.getElem?_eq_getElem h, List.flatMap_append]
  simp
theorem fates23 (x : Nat) (L : List Ft) (hz : L.length ≤ 1000) : Lent E 23 [FS 36 L.length x (fts L).toArray] [] (FS 46 L.length (xF L) (fts L).toArray) [] := by
  obtain ⟨ti, ht⟩ := ty46
  by_cases hL : L = []
  · subst hL
    refine Lent.of g23 rfl (of_decide_eq_true (by kernel_rfl)) rfl rfl (Nat.le_refl _) rfl rfl rfl ?_
    refine Wp.seq (Wp.text (kp 2 (.slice none 0 0) (WpOps.nil (thenK_at (Wp.seq (Wp.text (kp 3 (.slice none 0 0) (WpOps.nil (thenK_at (Wp.seq (Wp.seq (Wp.text (kp 4 (.int .i64 0) (WpOps.nil (thenK_at (Wp.block ?_))))))))))))))))
    refine Wp.unroll (WpL.step ?_)
    refine Wp.seq (Wp.seq (Wp.text (kp 5 (.int .i64 0) (kp 6 (.iface 36 (Value.iface 0 (Value.iface x (Value.agg #[])))) (kp 7 (.int .i64 (↑0 : Int)) (kp 8 (.bool false) (WpOps.nil (thenK_at (off' (Wp.exit (thenK_exit (thenK_exit (blockK_hit (thenK_at (Wp.seq (Wp.text (kp 35 (.slice none 0 0) (kp 2 (.slice none 0 0) (WpOps.nil (thenK_at (Wp.ret (endK_retn [Value.slice none 0 0] (Value.slice none 0 0) (by kernel_rfl) (by kernel_rfl) ?_))))))))))))))))))))))
    exact ⟨[], by decide, by kernel_rfl, trivial, .w (.ice (.slice none 0 0) rfl (.c (.inr ⟨rfl, (46 : Nat), ti, ht, rfl⟩)))⟩
  have hp : 0 < L.length := List.length_pos_iff.2 hL
  rw [show xF L = 0 from if_neg hL]
  refine Lent.of g23 rfl (of_decide_eq_true (by kernel_rfl)) rfl rfl (Nat.le_refl _) rfl rfl rfl ?_
  refine Wp.seq (Wp.text (kp 2 (.slice none 0 0) (WpOps.nil (thenK_at (Wp.seq (Wp.text (kp 3 (.slice none 0 0) (WpOps.nil (thenK_at (Wp.seq (Wp.seq (Wp.text (kp 4 (.int .i64 0) (WpOps.nil (thenK_at (Wp.block ?_))))))))))))))))
  have d2 : decide ((0 : Int) < (L.length : Int)) = true := decide_eq_true (by omega)
  have g1 : 0 ≤ (0 : Int) ∧ (0 : Int) < L.length := by omega
  have hs : cellsAt (fts L).toArray.toList ((0 : Int).toNat * 4) 4 = some (fce L[0]) := fts_cells L 0 hp
  unfold fce at hs
  have s0 : (fts L).toArray.toList[(0 : Int).toNat * 4 + 0]? = some (.bool L[0].lo) := cellsAt_one (i := 0) hs rfl
  have s1 : (fts L).toArray.toList[(0 : Int).toNat * 4 + 1]? = some (.int .i64 L[0].co) := cellsAt_one (i := 1) hs rfl
  have s2 : (fts L).toArray.toList[(0 : Int).toNat * 4 + 2]? = some (.int .i64 L[0].de) := cellsAt_one (i := 2) hs rfl
  have s3 : (fts L).toArray.toList[(0 : Int).toNat * 4 + 3]? = some (.int .i64 L[0].sp) := cellsAt_one (i := 3) hs rfl
  refine Wp.unroll (WpL.step ?_)
  refine Wp.seq (Wp.seq (Wp.text (kp 5 (.int .i64 0) (kp 6 (.iface 36 (Value.iface (List.length L) (Value.iface x (Value.agg (List.toArray (fts L)))))) (kp 7 (.int .i64 (List.length L)) (kp 8 (.bool true) (WpOps.nil (thenK_at (on' (Wp.skip (thenK_at (Wp.seq (Wp.block (Wp.region (by kernel_rfl) (kp 11 (.slice none 0 0) (kp 12 (.iface 36 (Value.iface (List.length L) (Value.iface x (Value.agg (List.toArray (fts L)))))) (kp 13 (.int .i64 0) (kp 14 (.iface 36 (Value.iface 0 (Value.agg (List.toArray (fts L))))) (kp 15 (.iface 36 (Value.iface 0 (Value.agg (List.toArray (fts L))))) (kp 16 (.bool (Ft.lo L[0])) (kp 17 (.iface 36 (Value.iface (List.length L) (Value.iface x (Value.agg (List.toArray (fts L)))))) (kp 18 (.int .i64 0) (kp 19 (.iface 36 (Value.iface 0 (Value.agg (List.toArray (fts L))))) (kp 20 (.iface 36 (Value.iface 1 (Value.agg (List.toArray (fts L))))) (kp 21 (.int .i64 (Ft.co L[0])) (kp 22 (.iface 36 (Value.iface (List.length L) (Value.iface x (Value.agg (List.toArray (fts L)))))) (kp 23 (.int .i64 0) (kp 24 (.iface 36 (Value.iface 0 (Value.agg (List.toArray (fts L))))) (kp 25 (.iface 36 (Value.iface 2 (Value.agg (List.toArray (fts L))))) (kp 26 (.int .i64 (Ft.de L[0])) ?_ (hop := fun _ => o_loadI1 (2) s2))) (hop := fun _ => o_indexI (e := 36) (size := 4) (a := 0) g1)))) (hop := fun _ => o_loadI1 (1) s1))) (hop := fun _ => o_indexI (e := 36) (size := 4) (a := 0) g1)))) (hop := fun _ => o_loadI1 (0) s0))) (hop := fun _ => o_indexI (e := 36) (size := 4) (a := 0) g1))))))))))))) (hop := fun _ => by_fact d2)))))))
  refine kp 27 (.iface 36 (Value.iface (List.length L) (Value.iface x (Value.agg (List.toArray (fts L)))))) (kp 28 (.int .i64 0) (kp 29 (.iface 36 (Value.iface 0 (Value.agg (List.toArray (fts L))))) (kp 30 (.iface 36 (Value.iface 3 (Value.agg (List.toArray (fts L))))) (kp 31 (.int .i64 (Ft.sp L[0])) (kp 32 (.agg #[Value.bool (Ft.lo L[0]), Value.int .i64 (Ft.co L[0]), Value.int .i64 (Ft.de L[0]), Value.int .i64 (Ft.sp L[0])]) (md 33 (.slice (some ⟨0, 0, none⟩) 1 1) (Blk.mk 46 true [Value.bool (Ft.lo L[0]), Value.int .i64 (Ft.co L[0]), Value.int .i64 (Ft.de L[0]), Value.int .i64 (Ft.sp L[0])]) (md 34 (.slice (some ⟨1, 0, none⟩) 1 1) (Blk.mk 46 true [Value.bool (Ft.lo L[0]), Value.int .i64 (Ft.co L[0]), Value.int .i64 (Ft.de L[0]), Value.int .i64 (Ft.sp L[0])]) (kp 3 (.slice (some ⟨1, 0, none⟩) 1 1) (WpOps.nil (blockK_norm (thenK_at (Wp.text (kp 9 (.int .i64 0) (kp 10 (.int .i64 (IntKind.wrap .i64 (0 + 1))) (kp 4 (.int .i64 (IntKind.wrap .i64 (0 + 1))) (WpOps.nil (thenK_at ?_))))))))))))) (hop := fun _ => o_loadI1 (3) s3))) (hop := fun _ => o_indexI (e := 36) (size := 4) (a := 0) g1)))
  have r1 : ([.bool L[0].lo, .int .i64 L[0].co, .int .i64 L[0].de, .int .i64 L[0].sp] : List Value) = fts (L.take 1) := by
    rw [fts_snoc L hp]
    rfl
  refine WpL.loop (G := Nat) (fun i => layj [(0, FS 36 L.length x (fts L).toArray), (2, .slice none 0 0), (3, .slice (some ⟨0, 0, none⟩) i i), (4, .int .i64 i)]) (fun i => heapOf [⟨46, true, fts (L.take i)⟩]) (fun i => L.length - i) (fun i => i ≤ L.length) 1
    (View.of [1] [⟨46, true, fts (L.take 1)⟩] _ (by decide) rfl ⟨⟨_, by kernel_rfl, CellsOk.eq r1 (fts_flat _)⟩, trivial⟩ ⟨⟨by kernel_rfl, rfl⟩, ⟨by kernel_rfl, rfl⟩, ⟨by kernel_rfl, rfl⟩, ⟨by kernel_rfl, rfl⟩, trivial⟩) hp ?_
  clear r1 s0 s1 s2 s3 hs g1 d2
  intro i hi
  by_cases hc : i < L.length
  · have d2 : decide ((i : Int) < (L.length : Int)) = true := decide_eq_true (by omega)
    have g1 : 0 ≤ (i : Int) ∧ (i : Int) < L.length := by omega
    have hs : cellsAt (fts L).toArray.toList ((i : Int).toNat * 4) 4 = some (fce L[i]) := fts_cells L i hc
    unfold fce at hs
    have s0 : (fts L).toArray.toList[(i : Int).toNat * 4 + 0]? = some (.bool L[i].lo) := cellsAt_one (i := 0) hs rfl
    have s1 : (fts L).toArray.toList[(i : Int).toNat * 4 + 1]? = some (.int .i64 L[i].co) := cellsAt_one (i := 1) hs rfl
    have s2 : (fts L).toArray.toList[(i : Int).toNat * 4 + 2]? = some (.int .i64 L[i].de) := cellsAt_one (i := 2) hs rfl
    have s3 : (fts L).toArray.toList[(i : Int).toNat * 4 + 3]? = some (.int .i64 L[i].sp) := cellsAt_one (i := 3) hs rfl
    have hl : (fts (L.take i)).length = i * 4 := by rw [fts_len, List.length_take, Nat.min_eq_left (by omega)]
    have q0 : cellsAt (fts (L.take i)) 0 (i * 4) = some (fts (L.take i)) := by
      unfold cellsAt
      rw [hl, if_pos (by omega), List.drop_zero, List.take_of_length_le (by omega)]
    have q1 : ¬ i + 1 ≤ i := by omega
    have q2 : 1 ≤ 32 ∧ (i + 1) * 32 ≤ 140737488355328 ∧ 4 = 4 ∧ i + 1 ≤ 9223372036854775807 := by omega
    have wi : IntKind.i64.wrap ((i : Int) + 1) = ((i + 1 : Nat) : Int) := by rw [wr _ (by omega) (by omega)]; omega
    have r1 : fts (L.take i) ++ [.bool L[i].lo, .int .i64 L[i].co, .int .i64 L[i].de, .int .i64 L[i].sp] = fts (L.take (i + 1)) := (fts_snoc L hc).symm
    refine Wp.seq (Wp.seq (Wp.text (kp 5 (.int .i64 i) (kp 6 (.iface 36 (Value.iface (List.length L) (Value.iface x (Value.agg (List.toArray (fts L)))))) (kp 7 (.int .i64 (List.length L)) (kp 8 (.bool true) (WpOps.nil (thenK_at (on' (Wp.skip (thenK_at (Wp.seq (Wp.block (Wp.region (by kernel_rfl) (kp 11 (.slice (some ⟨0, 0, none⟩) i i) (kp 12 (.iface 36 (Value.iface (List.length L) (Value.iface x (Value.agg (List.toArray (fts L)))))) (kp 13 (.int .i64 i) (kp 14 (.iface 36 (Value.iface (Int.toNat (↑i : Int) * 4) (Value.agg (List.toArray (fts L))))) (kp 15 (.iface 36 (Value.iface (Int.toNat (↑i : Int) * 4 + 0) (Value.agg (List.toArray (fts L))))) (kp 16 (.bool (Ft.lo L[i])) (kp 17 (.iface 36 (Value.iface (List.length L) (Value.iface x (Value.agg (List.toArray (fts L)))))) (kp 18 (.int .i64 i) (kp 19 (.iface 36 (Value.iface (Int.toNat (↑i : Int) * 4) (Value.agg (List.toArray (fts L))))) (kp 20 (.iface 36 (Value.iface (Int.toNat (↑i : Int) * 4 + 1) (Value.agg (List.toArray (fts L))))) (kp 21 (.int .i64 (Ft.co L[i])) (kp 22 (.iface 36 (Value.iface (List.length L) (Value.iface x (Value.agg (List.toArray (fts L)))))) (kp 23 (.int .i64 i) (kp 24 (.iface 36 (Value.iface (Int.toNat (↑i : Int) * 4) (Value.agg (List.toArray (fts L))))) ?_ (hop := fun _ => o_indexI (e := 36) (size := 4) (a := (↑i : Int)) g1)))) (hop := fun _ => o_loadI1 (Int.toNat (↑i : Int) * 4 + 1) s1))) (hop := fun _ => o_indexI (e := 36) (size := 4) (a := (↑i : Int)) g1)))) (hop := fun _ => o_loadI1 (Int.toNat (↑i : Int) * 4 + 0) s0))) (hop := fun _ => o_indexI (e := 36) (size := 4) (a := (↑i : Int)) g1))))))))))))) (hop := fun _ => by_fact d2)))))))
    refine kp 25 (.iface 36 (Value.iface (Int.toNat (↑i : Int) * 4 + 2) (Value.agg (List.toArray (fts L))))) (kp 26 (.int .i64 (Ft.de L[i])) (kp 27 (.iface 36 (Value.iface (List.length L) (Value.iface x (Value.agg (List.toArray (fts L)))))) (kp 28 (.int .i64 i) (kp 29 (.iface 36 (Value.iface (Int.toNat (↑i : Int) * 4) (Value.agg (List.toArray (fts L))))) (kp 30 (.iface 36 (Value.iface (Int.toNat (↑i : Int) * 4 + 3) (Value.agg (List.toArray (fts L))))) (kp 31 (.int .i64 (Ft.sp L[i])) (kp 32 (.agg #[Value.bool (Ft.lo L[i]), Value.int .i64 (Ft.co L[i]), Value.int .i64 (Ft.de L[i]), Value.int .i64 (Ft.sp L[i])]) (md 33 (.slice (some ⟨1, 0, none⟩) 1 1) (Blk.mk 46 true [Value.bool (Ft.lo L[i]), Value.int .i64 (Ft.co L[i]), Value.int .i64 (Ft.de L[i]), Value.int .i64 (Ft.sp L[i])]) ?_)) (hop := fun _ => o_loadI1 (Int.toNat (↑i : Int) * 4 + 3) s3))) (hop := fun _ => o_indexI (e := 36) (size := 4) (a := (↑i : Int)) g1)))) (hop := fun _ => o_loadI1 (Int.toNat (↑i : Int) * 4 + 2) s2))
    refine ra 34 (.slice (some ⟨2, 0, none⟩) (i + 1) (i + 1)) (0) (Blk.mk 46 true (fts (List.take i L) ++ [Value.bool (Ft.lo L[i]), Value.int .i64 (Ft.co L[i]), Value.int .i64 (Ft.de L[i]), Value.int .i64 (Ft.sp L[i])])) ?_ (hop := fun _ => o_append (e := 46) (0) (0) (i) _ (i) q1 q2 q0)
    refine kp 3 (.slice (some ⟨2, 0, none⟩) (i + 1) (i + 1)) (WpOps.nil (blockK_norm (thenK_at (Wp.text (kp 9 (.int .i64 i) (kp 10 (.int .i64 (IntKind.wrap .i64 ((↑i : Int) + 1))) (kp 4 (.int .i64 (IntKind.wrap .i64 ((↑i : Int) + 1))) (WpOps.nil (thenK_at ?_)))))))))
    exact ⟨i + 1, by omega, by omega, View.of [2] [⟨46, true, fts (L.take (i + 1))⟩] _ (by decide) rfl ⟨⟨_, by kernel_rfl, CellsOk.eq r1 (fts_flat _)⟩, trivial⟩ ⟨⟨by kernel_rfl, rfl⟩, ⟨by kernel_rfl, rfl⟩, ⟨by kernel_rfl, rfl⟩, ⟨congrArg (Value.int .i64) wi, rfl⟩, trivial⟩⟩
  · have d2 : decide ((i : Int) < (L.length : Int)) = false := decide_eq_false (by omega)
    obtain rfl : i = L.length := by omega
    rw [List.take_length]
    refine Wp.seq (Wp.seq (Wp.text (kp 5 (.int .i64 (List.length L)) (kp 6 (.iface 36 (Value.iface (List.length L) (Value.iface x (Value.agg (List.toArray (fts L)))))) (kp 7 (.int .i64 (List.length L)) (kp 8 (.bool false) (WpOps.nil (thenK_at (off' (Wp.exit (thenK_exit (thenK_exit (blockK_hit (thenK_at (Wp.seq (Wp.text (kp 35 (.slice (some ⟨0, 0, none⟩) (List.length L) (List.length L)) (kp 2 (.slice (some ⟨0, 0, none⟩) (List.length L) (List.length L)) (WpOps.nil (thenK_at (Wp.ret (endK_retn [Value.slice (some (Addr.mk 0 0 none)) (List.length L) (List.length L)] (Value.slice (some (Addr.mk 0 0 none)) (List.length L) (List.length L)) (by kernel_rfl) (by kernel_rfl) ?_)))))))))))))))) (hop := fun _ => by_fact d2)))))))
    exact ⟨[], by decide, by kernel_rfl, trivial, .w (.ice (FS 46 L.length 0 (fts L).toArray) (show iceC E _ 4 _ = _ from ice_ft L (by kernel_rfl)) (.c (.inl rfl)))⟩
theorem ok_not (f : Ft) : (bif (bif (bif (bif decide (f.co < 0) then true else decide (f.co > 3)) then true else decide (f.de < 0)) then true else decide (f.de > 20)) then true else decide (f.sp < -1)) = !f.ok := by
  unfold Ft.ok
  by_cases h1 : f.co < 0 <;> by_cases h2 : f.co > 3 <;> by_cases h3 : f.de < 0 <;> by_cases h4 : f.de > 20 <;> by_cases h5 : f.sp < -1 <;> simp [h1, h2, h3, h4, h5, Int.not_lt.1, Int.not_le.2] <;> omega
theorem script45 (x : Nat) (L : List Ft) (hz : L.length ≤ 1000) : Lent E 45 [FS 36 L.length x (fts L).toArray] [] (.bool (decide (L.length ≤ 200) && L.all Ft.ok)) [] := by
  refine Lent.of g45 rfl (of_decide_eq_true (by kernel_rfl)) rfl rfl (Nat.le_refl _) rfl rfl rfl ?_
  by_cases h2 : L.length ≤ 200
  · have d1 : decide ((L.length : Int) > 200) = false := decide_eq_false (by omega)
    rw [decide_eq_true h2, Bool.true_and]
    refine Wp.seq (Wp.text (kp 2 (.bool false) (WpOps.nil (thenK_at (Wp.seq (Wp.seq (Wp.text (kp 4 (.iface 36 (Value.iface (List.length L) (Value.iface x (Value.agg (List.toArray (fts L)))))) (kp 5 (.int .i64 (List.length L)) (kp 6 (.bool false) (WpOps.nil (thenK_at (off' (Wp.skip (thenK_at (Wp.seq (Wp.seq (Wp.text (kp 3 (.int .i64 0) (WpOps.nil (thenK_at (Wp.block ?_)))))))))))) (hop := fun _ => by_fact d1)))))))))))
    refine Wp.loop (G := Nat) (fun i => layj [(0, FS 36 L.length x (fts L).toArray), (2, .bool false), (3, .int .i64 i)]) (fun _ => heapOf []) (fun i => L.length - i) (fun i => i ≤ L.length ∧ ∀ j (hj : j < L.length), j < i → L[j].ok = true) 0
      (View.of [] [] _ List.nodup_nil rfl trivial ⟨⟨by kernel_rfl, rfl⟩, ⟨by kernel_rfl, rfl⟩, ⟨by kernel_rfl, rfl⟩, trivial⟩) ⟨Nat.zero_le _, fun j _ hj => absurd hj (Nat.not_lt_zero _)⟩ ?_
    rintro i ⟨hi, hp⟩
    by_cases hc : i < L.length
    · have d2 : decide ((i : Int) < (L.length : Int)) = true := decide_eq_true (by omega)
      have g1 : 0 ≤ (i : Int) ∧ (i : Int) < L.length := by omega
      have hs : cellsAt (fts L).toArray.toList ((i : Int).toNat * 4) 4 = some (fce L[i]) := fts_cells L i hc
      unfold fce at hs
      have s1 : (fts L).toArray.toList[(i : Int).toNat * 4 + 1]? = some (.int .i64 L[i].co) := cellsAt_one (i := 1) hs rfl
      have s2 : (fts L).toArray.toList[(i : Int).toNat * 4 + 2]? = some (.int .i64 L[i].de) := cellsAt_one (i := 2) hs rfl
      have s3 : (fts L).toArray.toList[(i : Int).toNat * 4 + 3]? = some (.int .i64 L[i].sp) := cellsAt_one (i := 3) hs rfl
      have wi : IntKind.i64.wrap ((i : Int) + 1) = ((i + 1 : Nat) : Int) := by rw [wr _ (by omega) (by omega)]; omega
      refine Wp.seq (Wp.seq (Wp.text (kp 7 (.int .i64 i) (kp 8 (.iface 36 (Value.iface (List.length L) (Value.iface x (Value.agg (List.toArray (fts L)))))) (kp 9 (.int .i64 (List.length L)) (kp 10 (.bool true) (WpOps.nil (thenK_at (on' (Wp.skip (thenK_at (Wp.seq (Wp.block (Wp.seq (Wp.text (kp 13 (.iface 36 (Value.iface (List.length L) (Value.iface x (Value.agg (List.toArray (fts L)))))) (kp 14 (.int .i64 i) (kp 15 (.iface 36 (Value.iface (Int.toNat (↑i : Int) * 4) (Value.agg (List.toArray (fts L))))) (kp 16 (.iface 36 (Value.iface (Int.toNat (↑i : Int) * 4 + 1) (Value.agg (List.toArray (fts L))))) (kp 17 (.int .i64 (Ft.co L[i])) (kp 18 (.bool (decide (Ft.co L[i] < 0))) (kp 19 (.bool (decide (Ft.co L[i] < 0))) ?_)) (hop := fun _ => o_loadI1 (Int.toNat (↑i : Int) * 4 + 1) s1))) (hop := fun _ => o_indexI (e := 36) (size := 4) (a := (↑i : Int)) g1))))))))))))) (hop := fun _ => by_fact d2)))))))
      refine WpOps.fork 7 (decide (Ft.co L[i] < 0)) [20, 21, 22, 23, 24, 25, 26] 26 (true) (decide (Ft.co L[i] > 3)) (by kernel_rfl) (fun g26 => ?_) (fun g26 => ?_) (fun f_26 b26 hb26 => ?_)
      · refine um 20 (um 21 (um 22 (um 23 (um 24 (um 25 (kp 26 (.bool true) (WpOps.nil ?_) (hop := fun _ => o_pickT g26)) (hw := wants_tf g26)) (hw := wants_tf g26)) (hw := wants_tf g26)) (hw := wants_tf g26)) (hw := wants_tf g26)) (hw := wants_tf g26)
        exact ⟨rfl, (.upd rfl (.upd rfl (.upd rfl (.upd rfl (.upd rfl (.upd rfl (.upd rfl .refl))))))), (by kernel_rfl)⟩
      · refine kp 20 (.iface 36 (Value.iface (List.length L) (Value.iface x (Value.agg (List.toArray (fts L)))))) (kp 21 (.int .i64 i) (kp 22 (.iface 36 (Value.iface (Int.toNat (↑i : Int) * 4) (Value.agg (List.toArray (fts L))))) (kp 23 (.iface 36 (Value.iface (Int.toNat (↑i : Int) * 4 + 1) (Value.agg (List.toArray (fts L))))) (kp 24 (.int .i64 (Ft.co L[i])) (kp 25 (.bool (decide (Ft.co L[i] > 3))) (kp 26 (.bool (decide (Ft.co L[i] > 3))) (WpOps.nil ?_) (hop := fun _ => o_pickF g26)) (hw := wants_ff g26)) (hw := wants_ff g26) (hop := fun _ => o_loadI1 (Int.toNat (↑i : Int) * 4 + 1) s1)) (hw := wants_ff g26)) (hw := wants_ff g26) (hop := fun _ => o_indexI (e := 36) (size := 4) (a := (↑i : Int)) g1)) (hw := wants_ff g26)) (hw := wants_ff g26)
        exact ⟨rfl, (.upd rfl (.upd rfl (.upd rfl (.upd rfl (.upd rfl (.upd rfl (.upd rfl .refl))))))), (by kernel_rfl)⟩
      refine kp 27 (.bool b26) ?_
      refine WpOps.fork 7 (b26) [28, 29, 30, 31, 32, 33, 34] 34 (true) (decide (Ft.de L[i] < 0)) (by kernel_rfl) (fun g34 => ?_) (fun g34 => ?_) (fun f_34 b34 hb34 => ?_)
      · refine um 28 (um 29 (um 30 (um 31 (um 32 (um 33 (kp 34 (.bool true) (WpOps.nil ?_) (hop := fun _ => o_pickT g34)) (hw := wants_tf g34)) (hw := wants_tf g34)) (hw := wants_tf g34)) (hw := wants_tf g34)) (hw := wants_tf g34)) (hw := wants_tf g34)
        exact ⟨rfl, (.upd rfl (.upd rfl (.upd rfl (.upd rfl (.upd rfl (.upd rfl (.upd rfl .refl))))))), (by kernel_rfl)⟩
      · refine kp 28 (.iface 36 (Value.iface (List.length L) (Value.iface x (Value.agg (List.toArray (fts L)))))) (kp 29 (.int .i64 i) (kp 30 (.iface 36 (Value.iface (Int.toNat (↑i : Int) * 4) (Value.agg (List.toArray (fts L))))) (kp 31 (.iface 36 (Value.iface (Int.toNat (↑i : Int) * 4 + 2) (Value.agg (List.toArray (fts L))))) (kp 32 (.int .i64 (Ft.de L[i])) (kp 33 (.bool (decide (Ft.de L[i] < 0))) (kp 34 (.bool (decide (Ft.de L[i] < 0))) (WpOps.nil ?_) (hop := fun _ => o_pickF g34)) (hw := wants_ff g34)) (hw := wants_ff g34) (hop := fun _ => o_loadI1 (Int.toNat (↑i : Int) * 4 + 2) s2)) (hw := wants_ff g34)) (hw := wants_ff g34) (hop := fun _ => o_indexI (e := 36) (size := 4) (a := (↑i : Int)) g1)) (hw := wants_ff g34)) (hw := wants_ff g34)
        exact ⟨rfl, (.upd rfl (.upd rfl (.upd rfl (.upd rfl (.upd rfl (.upd rfl (.upd rfl .refl))))))), (by kernel_rfl)⟩
      refine kp 35 (.bool b34) ?_
      refine WpOps.fork 7 (b34) [36, 37, 38, 39, 40, 41, 42] 42 (true) (decide (Ft.de L[i] > 20)) (by kernel_rfl) (fun g42 => ?_) (fun g42 => ?_) (fun f_42 b42 hb42 => ?_)
      · refine um 36 (um 37 (um 38 (um 39 (um 40 (um 41 (kp 42 (.bool true) (WpOps.nil ?_) (hop := fun _ => o_pickT g42)) (hw := wants_tf g42)) (hw := wants_tf g42)) (hw := wants_tf g42)) (hw := wants_tf g42)) (hw := wants_tf g42)) (hw := wants_tf g42)
        exact ⟨rfl, (.upd rfl (.upd rfl (.upd rfl (.upd rfl (.upd rfl (.upd rfl (.upd rfl .refl))))))), (by kernel_rfl)⟩
      · refine kp 36 (.iface 36 (Value.iface (List.length L) (Value.iface x (Value.agg (List.toArray (fts L)))))) (kp 37 (.int .i64 i) (kp 38 (.iface 36 (Value.iface (Int.toNat (↑i : Int) * 4) (Value.agg (List.toArray (fts L))))) (kp 39 (.iface 36 (Value.iface (Int.toNat (↑i : Int) * 4 + 2) (Value.agg (List.toArray (fts L))))) (kp 40 (.int .i64 (Ft.de L[i])) (kp 41 (.bool (decide (Ft.de L[i] > 20))) (kp 42 (.bool (decide (Ft.de L[i] > 20))) (WpOps.nil ?_) (hop := fun _ => o_pickF g42)) (hw := wants_ff g42)) (hw := wants_ff g42) (hop := fun _ => o_loadI1 (Int.toNat (↑i : Int) * 4 + 2) s2)) (hw := wants_ff g42)) (hw := wants_ff g42) (hop := fun _ => o_indexI (e := 36) (size := 4) (a := (↑i : Int)) g1)) (hw := wants_ff g42)) (hw := wants_ff g42)
        exact ⟨rfl, (.upd rfl (.upd rfl (.upd rfl (.upd rfl (.upd rfl (.upd rfl (.upd rfl .refl))))))), (by kernel_rfl)⟩
      refine kp 43 (.bool b42) ?_
      refine WpOps.fork 7 (b42) [44, 45, 46, 47, 48, 49, 50] 50 (true) (decide (Ft.sp L[i] < -1)) (by kernel_rfl) (fun g50 => ?_) (fun g50 => ?_) (fun f_50 b50 hb50 => ?_)
      · refine um 44 (um 45 (um 46 (um 47 (um 48 (um 49 (kp 50 (.bool true) (WpOps.nil ?_) (hop := fun _ => o_pickT g50)) (hw := wants_tf g50)) (hw := wants_tf g50)) (hw := wants_tf g50)) (hw := wants_tf g50)) (hw := wants_tf g50)) (hw := wants_tf g50)
        exact ⟨rfl, (.upd rfl (.upd rfl (.upd rfl (.upd rfl (.upd rfl (.upd rfl (.upd rfl .refl))))))), (by kernel_rfl)⟩
      · refine kp 44 (.iface 36 (Value.iface (List.length L) (Value.iface x (Value.agg (List.toArray (fts L)))))) (kp 45 (.int .i64 i) (kp 46 (.iface 36 (Value.iface (Int.toNat (↑i : Int) * 4) (Value.agg (List.toArray (fts L))))) (kp 47 (.iface 36 (Value.iface (Int.toNat (↑i : Int) * 4 + 3) (Value.agg (List.toArray (fts L))))) (kp 48 (.int .i64 (Ft.sp L[i])) (kp 49 (.bool (decide (Ft.sp L[i] < -1))) (kp 50 (.bool (decide (Ft.sp L[i] < -1))) (WpOps.nil ?_) (hop := fun _ => o_pickF g50)) (hw := wants_ff g50)) (hw := wants_ff g50) (hop := fun _ => o_loadI1 (Int.toNat (↑i : Int) * 4 + 3) s3)) (hw := wants_ff g50)) (hw := wants_ff g50) (hop := fun _ => o_indexI (e := 36) (size := 4) (a := (↑i : Int)) g1)) (hw := wants_ff g50)) (hw := wants_ff g50)
        exact ⟨rfl, (.upd rfl (.upd rfl (.upd rfl (.upd rfl (.upd rfl (.upd rfl (.upd rfl .refl))))))), (by kernel_rfl)⟩
      refine WpOps.nil (thenK_at ?_)
      have e50 : b50 = !L[i].ok := by rw [hb50, hb42, hb34, hb26, ok_not]
      clear hb50 hb42 hb34 hb26
      refine Wp.split (b50) (by kernel_rfl) (fun hb => ?_) (fun hb => ?_)
      · rw [e50] at hb
        have : L.all Ft.ok = false := by
          rw [List.all_eq_false]
          exact ⟨_, List.getElem_mem hc, by simpa using hb⟩
        rw [this]
        refine Wp.seq (Wp.text (kp 2 (.bool false) (WpOps.nil (thenK_at (Wp.ret (blockK_ret (thenK_ret (thenK_ret (blockK_ret (thenK_ret (endK_retn [Value.bool false] (Value.bool false) (by kernel_rfl) (by kernel_rfl) ?_)))))))))))
        exact ⟨[], by decide, by kernel_rfl, trivial, .w (.un rfl rfl)⟩
      · rw [e50] at hb
        refine Wp.skip (blockK_norm (thenK_at (Wp.text (kp 11 (.int .i64 i) (kp 12 (.int .i64 (IntKind.wrap .i64 ((↑i : Int) + 1))) (kp 3 (.int .i64 (IntKind.wrap .i64 ((↑i : Int) + 1))) (WpOps.nil (thenK_at ?_))))))))
        refine ⟨i + 1, by omega, ⟨by omega, fun j hj hji => ?_⟩, View.of [] [] _ List.nodup_nil rfl trivial ⟨⟨by kernel_rfl, rfl⟩, ⟨by kernel_rfl, rfl⟩, ⟨congrArg (Value.int .i64) wi, rfl⟩, trivial⟩⟩
        rcases Nat.lt_or_ge j i with h | h
        · exact hp j hj h
        · obtain rfl : j = i := by omega
          simpa using hb
    · have d2 : decide ((i : Int) < (L.length : Int)) = false := decide_eq_false (by omega)
      refine Wp.seq (Wp.seq (Wp.text (kp 7 (.int .i64 i) (kp 8 (.iface 36 (Value.iface (List.length L) (Value.iface x (Value.agg (List.toArray (fts L)))))) (kp 9 (.int .i64 (List.length L)) (kp 10 (.bool false) (WpOps.nil (thenK_at (off' (Wp.exit (thenK_exit (thenK_exit (blockK_hit (thenK_at (Wp.seq (Wp.text (kp 2 (.bool true) (WpOps.nil (thenK_at (Wp.ret (endK_retn [Value.bool true] (Value.bool true) (by kernel_rfl) (by kernel_rfl) ?_))))))))))))))) (hop := fun _ => by_fact d2)))))))
      have : L.all Ft.ok = true := by
        rw [List.all_eq_true]
        intro f hf
        obtain ⟨j, hj, rfl⟩ := List.getElem_of_mem hf
        exact hp j hj (by omega)
      rw [this]
      exact ⟨[], by decide, by kernel_rfl, trivial, .w (.un rfl rfl)⟩
  · have d1 : decide ((L.length : Int) > 200) = true := decide_eq_true (by omega)
    rw [decide_eq_false h2, Bool.false_and]
    refine Wp.seq (Wp.text (kp 2 (.bool false) (WpOps.nil (thenK_at (Wp.seq (Wp.seq (Wp.text (kp 4 (.iface 36 (Value.iface (List.length L) (Value.iface x (Value.agg (List.toArray (fts L)))))) (kp 5 (.int .i64 (List.length L)) (kp 6 (.bool true) (WpOps.nil (thenK_at (on' (Wp.seq (Wp.text (kp 2 (.bool false) (WpOps.nil (thenK_at (Wp.ret (thenK_ret (endK_retn [Value.bool false] (Value.bool false) (by kernel_rfl) (by kernel_rfl) ?_))))))))))) (hop := fun _ => by_fact d1)))))))))))
    exact ⟨[], by decide, by kernel_rfl, trivial, .w (.un rfl rfl)⟩
/-- No medium, of both, when the kind or the script is none. -/
def okNew (k : Int) (L : List Ft) : Bool := (decide (k = 0) || decide (k = 1)) && (decide (L.length ≤ 200) && L.all Ft.ok)
theorem new24 (k : Int) (x : Nat) (L : List Ft) (hz : L.length ≤ 1000) (h : okNew k L = true) : Lent E 24 [.int .i64 k, FS 36 L.length x (fts L).toArray] [] (.tuple #[.pointer (some ⟨0, 0, none⟩), .int .i64 0]) [sB k L 0 0 (.slice none 0 0)] := by
  have c1 := script45 x L hz
  unfold okNew at h
  rw [Bool.and_eq_true] at h
  rw [h.2] at c1
  have hk : k = 0 ∨ k = 1 := by simpa using h.1
  refine Lent.of g24 rfl (of_decide_eq_true (by kernel_rfl)) rfl rfl (Nat.zero_le _) rfl rfl rfl ?_
  refine Wp.seq (Wp.text (kp 4 (.pointer none) (kp 5 (.int .i64 0) (WpOps.nil (thenK_at (Wp.seq (Wp.seq (Wp.text (kp 6 (.int .i64 k) (kp 7 (.bool (decide (k < 0))) (kp 8 (.bool (decide (k < 0))) ?_)))))))))))
  refine WpOps.fork 3 (decide (k < 0)) [9, 10, 11] 11 (true) (decide (k > 1)) (by kernel_rfl) (fun g11 => ?_) (fun g11 => ?_) (fun f_11 b11 hb11 => ?_)
  · refine um 9 (um 10 (kp 11 (.bool true) (WpOps.nil ?_) (hop := fun _ => o_pickT g11)) (hw := wants_tf g11)) (hw := wants_tf g11)
    exact ⟨rfl, (.upd rfl (.upd rfl (.upd rfl .refl))), (by kernel_rfl)⟩
  · refine kp 9 (.int .i64 k) (kp 10 (.bool (decide (k > 1))) (kp 11 (.bool (decide (k > 1))) (WpOps.nil ?_) (hop := fun _ => o_pickF g11)) (hw := wants_ff g11)) (hw := wants_ff g11)
    exact ⟨rfl, (.upd rfl (.upd rfl (.upd rfl .refl))), (by kernel_rfl)⟩
  refine kp 12 (.bool b11) ?_
  refine WpOps.fork 4 (b11) [13, 14, 15, 16] 16 (true) (false) (by kernel_rfl) (fun g16 => ?_) (fun g16 => ?_) (fun f_16 b16 hb16 => ?_)
  · refine um 13 (um 14 (um 15 (kp 16 (.bool true) (WpOps.nil ?_) (hop := fun _ => o_pickT g16)) (hw := wants_tf g16)) (hw := wants_tf g16)) (hw := wants_tf g16)
    exact ⟨rfl, (.upd rfl (.upd rfl (.upd rfl (.upd rfl .refl)))), (by kernel_rfl)⟩
  · refine kp 13 (.iface 36 (Value.iface (List.length L) (Value.iface x (Value.agg (List.toArray (fts L)))))) (cl 14 45 [Value.iface 36 (Value.iface (List.length L) (Value.iface x (Value.agg (List.toArray (fts L)))))] ?_ (hw := wants_ff g16)) (hw := wants_ff g16)
    refine WpCall.lent [] (c1) (by decide) trivial (by kernel_rfl) (Value.bool true) ([]) .nil (by kernel_rfl) (heapOf []) (by kernel_rfl) ?_
    refine kp 15 (.bool false) (kp 16 (.bool false) (WpOps.nil ?_) (hop := fun _ => o_pickF g16)) (hw := wants_ff g16)
    exact ⟨rfl, (.upd rfl (.upd rfl (.upd rfl (.upd rfl .refl)))), (by kernel_rfl)⟩
  refine WpOps.nil (thenK_at ?_)
  obtain rfl : b16 = false := by
    rw [hb16, hb11]
    rcases hk with rfl | rfl <;> rfl
  have hz2 : L.length ≤ 200 := by
    have := h.2
    rw [Bool.and_eq_true] at this
    exact of_decide_eq_true this.1
  have ift : ∀ {hp : Heap} {b c : Nat}, hp.get b = some ⟨36, true, fts L⟩ → iceC E hp 4 (.slice (some ⟨b, 0, none⟩) L.length c) = some (FS 36 L.length 0 (fts L).toArray) := fun {hp b c} h1 => iceC_row (E := E) (hp := hp) (b := b) (n := L.length) (c := c) (e := 36) (size := 4) (cells := fts L) 3 (by kernel_rfl) h1 (fts_len L).symm (fts_flat L)
  rcases Nat.eq_zero_or_pos L.length with h0 | h0
  · obtain rfl := List.eq_nil_of_length_eq_zero h0
    refine off' (Wp.skip (thenK_at (Wp.seq (Wp.text (kp 17 (.int .i64 k) (md 18 (.slice (some ⟨0, 0, none⟩) 0 0) (Blk.mk 36 true []) (kp 19 (.iface 36 (Value.iface 0 (Value.iface x (Value.agg #[])))) (kp 20 (.slice (some ⟨0, 0, none⟩) 0 0) (kp 21 (.agg #[Value.int .i64 k, Value.slice (some ⟨0, 0, none⟩) 0 0, Value.int .i64 0, Value.int .i64 0, Value.slice none 0 0]) (md 22 (.pointer (some ⟨1, 0, none⟩)) (Blk.mk 78 true [Value.int .i64 k, Value.slice (some ⟨0, 0, none⟩) 0 0, Value.int .i64 0, Value.int .i64 0, Value.slice none 0 0]) (kp 4 (.pointer (some ⟨1, 0, none⟩)) (kp 5 (.int .i64 0) (WpOps.nil (thenK_at (Wp.ret (endK_retn [Value.pointer (some (Addr.mk 1 0 none)), Value.int .i64 0] (Value.tuple #[Value.pointer (some (Addr.mk 1 0 none)), Value.int .i64 0]) (by kernel_rfl) (by kernel_rfl) ?_))))))))))))))))
    exact ⟨[1], by decide, by kernel_rfl, ⟨⟨[.int .i64 k, .slice (some ⟨0, 0, none⟩) 0 0, .int .i64 0, .int .i64 0, .slice none 0 0], by kernel_rfl, .cons (.inl ⟨rfl, rfl⟩) (.cons (.inr ⟨_, ift (by kernel_rfl), .inl rfl⟩) (.cons (.inl ⟨rfl, rfl⟩) (.cons (.inl ⟨rfl, rfl⟩) (.cons (.inl ⟨rfl, rfl⟩) .nil))))⟩, trivial⟩, .tuple _ _ rfl rfl (.cons (.un rfl rfl) (.cons (.un rfl rfl) .nil))⟩
  · have h1 : ¬ 0 + L.length ≤ 0 := by omega
    have h2 : 1 ≤ 32 ∧ (0 + L.length) * 32 ≤ 140737488355328 ∧ 4 = 4 ∧ 0 + L.length ≤ 9223372036854775807 := by omega
    refine off' (Wp.skip (thenK_at (Wp.seq (Wp.text (kp 17 (.int .i64 k) (md 18 (.slice (some ⟨0, 0, none⟩) 0 0) (Blk.mk 36 true []) (kp 19 (.iface 36 (Value.iface (List.length L) (Value.iface x (Value.agg (List.toArray (fts L)))))) ?_)))))))
    refine ra 20 (.slice (some ⟨1, 0, none⟩) (0 + List.length L) (0 + List.length L)) (0) (Blk.mk 36 true ([] ++ Array.toList (List.toArray (fts L)))) ?_ (hop := fun _ => o_append (e := 36) (0) (0) (0) _ (0) h1 h2)
    refine kp 21 (.agg #[Value.int .i64 k, Value.slice (some ⟨1, 0, none⟩) (0 + List.length L) (0 + List.length L), Value.int .i64 0, Value.int .i64 0, Value.slice none 0 0]) (md 22 (.pointer (some ⟨2, 0, none⟩)) (Blk.mk 78 true [Value.int .i64 k, Value.slice (some ⟨1, 0, none⟩) (0 + List.length L) (0 + List.length L), Value.int .i64 0, Value.int .i64 0, Value.slice none 0 0]) (kp 4 (.pointer (some ⟨2, 0, none⟩)) (kp 5 (.int .i64 0) (WpOps.nil (thenK_at (Wp.ret (endK_retn [Value.pointer (some (Addr.mk 2 0 none)), Value.int .i64 0] (Value.tuple #[Value.pointer (some (Addr.mk 2 0 none)), Value.int .i64 0]) (by kernel_rfl) (by kernel_rfl) ?_)))))))
    exact ⟨[2], by decide, by kernel_rfl, ⟨⟨[.int .i64 k, .slice (some ⟨1, 0, none⟩) (0 + L.length) (0 + L.length), .int .i64 0, .int .i64 0, .slice none 0 0], by kernel_rfl, .cons (.inl ⟨rfl, rfl⟩) (.cons (.inr ⟨_, by rw [Nat.zero_add]; exact ift (by kernel_rfl), .inl rfl⟩) (.cons (.inl ⟨rfl, rfl⟩) (.cons (.inl ⟨rfl, rfl⟩) (.cons (.inl ⟨rfl, rfl⟩) .nil))))⟩, trivial⟩, .tuple _ _ rfl rfl (.cons (.un rfl rfl) (.cons (.un rfl rfl) .nil))⟩
theorem new24b (k : Int) (x : Nat) (L : List Ft) (hz : L.length ≤ 1000) (h : okNew k L = false) : Lent E 24 [.int .i64 k, FS 36 L.length x (fts L).toArray] [] (.tuple #[.pointer none, .int .i64 1]) [] := by
  have c1 := script45 x L hz
  refine Lent.of g24 rfl (of_decide_eq_true (by kernel_rfl)) rfl rfl (Nat.zero_le _) rfl rfl rfl ?_
  refine Wp.seq (Wp.text (kp 4 (.pointer none) (kp 5 (.int .i64 0) (WpOps.nil (thenK_at (Wp.seq (Wp.seq (Wp.text (kp 6 (.int .i64 k) (kp 7 (.bool (decide (k < 0))) (kp 8 (.bool (decide (k < 0))) ?_)))))))))))
  refine WpOps.fork 3 (decide (k < 0)) [9, 10, 11] 11 (true) (decide (k > 1)) (by kernel_rfl) (fun g11 => ?_) (fun g11 => ?_) (fun f_11 b11 hb11 => ?_)
  · refine um 9 (um 10 (kp 11 (.bool true) (WpOps.nil ?_) (hop := fun _ => o_pickT g11)) (hw := wants_tf g11)) (hw := wants_tf g11)
    exact ⟨rfl, (.upd rfl (.upd rfl (.upd rfl .refl))), (by kernel_rfl)⟩
  · refine kp 9 (.int .i64 k) (kp 10 (.bool (decide (k > 1))) (kp 11 (.bool (decide (k > 1))) (WpOps.nil ?_) (hop := fun _ => o_pickF g11)) (hw := wants_ff g11)) (hw := wants_ff g11)
    exact ⟨rfl, (.upd rfl (.upd rfl (.upd rfl .refl))), (by kernel_rfl)⟩
  refine kp 12 (.bool b11) ?_
  refine WpOps.fork 4 (b11) [13, 14, 15, 16] 16 (true) (!(decide (List.length L ≤ 200) && List.all L Ft.ok)) (by kernel_rfl) (fun g16 => ?_) (fun g16 => ?_) (fun f_16 b16 hb16 => ?_)
  · refine um 13 (um 14 (um 15 (kp 16 (.bool true) (WpOps.nil ?_) (hop := fun _ => o_pickT g16)) (hw := wants_tf g16)) (hw := wants_tf g16)) (hw := wants_tf g16)
    exact ⟨rfl, (.upd rfl (.upd rfl (.upd rfl (.upd rfl .refl)))), (by kernel_rfl)⟩
  · refine kp 13 (.iface 36 (Value.iface (List.length L) (Value.iface x (Value.agg (List.toArray (fts L)))))) (cl 14 45 [Value.iface 36 (Value.iface (List.length L) (Value.iface x (Value.agg (List.toArray (fts L)))))] ?_ (hw := wants_ff g16)) (hw := wants_ff g16)
    refine WpCall.lent [] (c1) (by decide) trivial (by kernel_rfl) (Value.bool (decide (List.length L ≤ 200) && List.all L Ft.ok)) ([]) .nil (by kernel_rfl) (heapOf []) (by kernel_rfl) ?_
    refine kp 15 (.bool !(decide (List.length L ≤ 200) && List.all L Ft.ok)) (kp 16 (.bool !(decide (List.length L ≤ 200) && List.all L Ft.ok)) (WpOps.nil ?_) (hop := fun _ => o_pickF g16)) (hw := wants_ff g16)
    exact ⟨rfl, (.upd rfl (.upd rfl (.upd rfl (.upd rfl .refl)))), (by kernel_rfl)⟩
  refine WpOps.nil (thenK_at ?_)
  obtain rfl : b16 = true := by
    rw [hb16, hb11]
    unfold okNew at h
    generalize (decide (L.length ≤ 200) && L.all Ft.ok) = z at h
    cases z
    · cases (bif decide (k < 0) then true else decide (k > 1)) <;> rfl
    · have h2 : ¬ (k = 0 ∨ k = 1) := by simpa using h
      by_cases h3 : k < 0
      · rw [decide_eq_true h3]
        rfl
      · rw [decide_eq_true (show k > 1 by omega)]
        cases decide (k < 0) <;> rfl
  refine on' (Wp.seq (Wp.text (kp 4 (.pointer none) (kp 5 (.int .i64 1) (WpOps.nil (thenK_at (Wp.ret (thenK_ret (endK_retn [Value.pointer none, Value.int .i64 1] (Value.tuple #[Value.pointer none, Value.int .i64 1]) (by kernel_rfl) (by kernel_rfl) ?_)))))))))
  exact ⟨[], by decide, by kernel_rfl, trivial, .tuple _ _ rfl rfl (.cons (.un rfl rfl) (.cons (.un rfl rfl) .nil))⟩
theorem new10b (k : Int) (x : Nat) (L : List Ft) (hz : L.length ≤ 1000) (h : okNew k L = false) : Lent E 10 [.int .i64 k, FS 46 L.length x (fts L).toArray] [] (.tuple #[.pointer none, .int .i64 1]) [] := by
  have c1 := contains34F x L (by omega)
  refine Lent.of f10 rfl (of_decide_eq_true (by kernel_rfl)) rfl rfl (Nat.zero_le _) rfl rfl rfl ?_
  refine Wp.seq (Wp.text (kp 4 (.pointer none) (kp 5 (.int .i64 0) (WpOps.nil (thenK_at (Wp.seq (Wp.text (kp 7 (.iface 46 (Value.iface (List.length L) (Value.iface x (Value.agg (List.toArray (fts L)))))) (cl 8 34 [Value.iface 46 (Value.iface (List.length L) (Value.iface x (Value.agg (List.toArray (fts L))))), Value.func (Fn.func 35) #[] #[]] ?_)))))))))
  refine WpCall.lent [] (c1) (by decide) trivial (by kernel_rfl) (Value.bool !List.all L Ft.ok) ([]) .nil (by kernel_rfl) (heapOf []) (by kernel_rfl) ?_
  refine kp 6 (.bool !List.all L Ft.ok) (WpOps.nil (thenK_at (Wp.seq (Wp.seq (Wp.text (kp 9 (.int .i64 k) (kp 10 (.bool (k != 0)) (kp 11 (.bool (k != 0)) ?_))))))))
  refine WpOps.fork 3 (k != 0) [12, 13, 14] 14 (k != 1) (false) (by kernel_rfl) (fun g14 => ?_) (fun g14 => ?_) (fun f_14 b14 hb14 => ?_)
  · refine kp 12 (.int .i64 k) (kp 13 (.bool (k != 1)) (kp 14 (.bool (k != 1)) (WpOps.nil ?_) (hop := fun _ => o_pickT g14)) (hw := wants_tt g14)) (hw := wants_tt g14)
    exact ⟨rfl, (.upd rfl (.upd rfl (.upd rfl .refl))), (by kernel_rfl)⟩
  · refine um 12 (um 13 (kp 14 (.bool false) (WpOps.nil ?_) (hop := fun _ => o_pickF g14)) (hw := wants_ft g14)) (hw := wants_ft g14)
    exact ⟨rfl, (.upd rfl (.upd rfl (.upd rfl .refl))), (by kernel_rfl)⟩
  refine kp 15 (.bool b14) ?_
  refine WpOps.fork 4 (b14) [16, 17, 18, 19] 19 (true) (decide ((↑(List.length L) : Int) > 200)) (by kernel_rfl) (fun g19 => ?_) (fun g19 => ?_) (fun f_19 b19 hb19 => ?_)
  · refine um 16 (um 17 (um 18 (kp 19 (.bool true) (WpOps.nil ?_) (hop := fun _ => o_pickT g19)) (hw := wants_tf g19)) (hw := wants_tf g19)) (hw := wants_tf g19)
    exact ⟨rfl, (.upd rfl (.upd rfl (.upd rfl (.upd rfl .refl)))), (by kernel_rfl)⟩
  · refine kp 16 (.iface 46 (Value.iface (List.length L) (Value.iface x (Value.agg (List.toArray (fts L)))))) (kp 17 (.int .i64 (List.length L)) (kp 18 (.bool (decide ((↑(List.length L) : Int) > 200))) (kp 19 (.bool (decide ((↑(List.length L) : Int) > 200))) (WpOps.nil ?_) (hop := fun _ => o_pickF g19)) (hw := wants_ff g19)) (hw := wants_ff g19)) (hw := wants_ff g19)
    exact ⟨rfl, (.upd rfl (.upd rfl (.upd rfl (.upd rfl .refl)))), (by kernel_rfl)⟩
  refine kp 20 (.bool b19) ?_
  refine WpOps.fork 2 (b19) [21, 22] 22 (true) (!List.all L Ft.ok) (by kernel_rfl) (fun g22 => ?_) (fun g22 => ?_) (fun f_22 b22 hb22 => ?_)
  · refine um 21 (kp 22 (.bool true) (WpOps.nil ?_) (hop := fun _ => o_pickT g22)) (hw := wants_tf g22)
    exact ⟨rfl, (.upd rfl (.upd rfl .refl)), (by kernel_rfl)⟩
  · refine kp 21 (.bool !List.all L Ft.ok) (kp 22 (.bool !List.all L Ft.ok) (WpOps.nil ?_) (hop := fun _ => o_pickF g22)) (hw := wants_ff g22)
    exact ⟨rfl, (.upd rfl (.upd rfl .refl)), (by kernel_rfl)⟩
  refine WpOps.nil (thenK_at ?_)
  obtain rfl : b22 = true := by
    rw [hb22, hb19, hb14]
    unfold okNew at h
    have e1 : decide ((L.length : Int) > 200) = !decide (L.length ≤ 200) := by
      by_cases h4 : L.length ≤ 200
      · rw [decide_eq_true h4, decide_eq_false (by omega)]
        rfl
      · rw [decide_eq_false h4, decide_eq_true (by omega)]
        rfl
    have e2 : (bif k != 0 then k != 1 else false) = !(decide (k = 0) || decide (k = 1)) := by
      by_cases h4 : k = 0
      · subst h4
        rfl
      · by_cases h5 : k = 1
        · subst h5
          rfl
        · rw [bne_iff_ne.2 h4, bne_iff_ne.2 h5, decide_eq_false h4, decide_eq_false h5]
          rfl
    rw [e1, e2]
    revert h
    generalize (decide (k = 0) || decide (k = 1)) = z1
    generalize decide (L.length ≤ 200) = z2
    generalize L.all Ft.ok = z3
    revert z1 z2 z3
    decide
  refine on' (Wp.seq (Wp.text (kp 4 (.pointer none) (kp 5 (.int .i64 1) (WpOps.nil (thenK_at (Wp.ret (thenK_ret (endK_retn [Value.pointer none, Value.int .i64 1] (Value.tuple #[Value.pointer none, Value.int .i64 1]) (by kernel_rfl) (by kernel_rfl) ?_)))))))))
  exact ⟨[], by decide, by kernel_rfl, trivial, .tuple _ _ rfl rfl (.cons (.un rfl rfl) (.cons (.un rfl rfl) .nil))⟩
theorem put13Ln (k : Int) (L : List Ft) (t u : Int) (b : ByteArray) (hb : 4000 < b.size) : Lent E 13 [.pointer (some ⟨0, 0, none⟩), .string b] [mB k L t u (.slice none 0 0)] (.int .i64 2) [mB k L t u (.slice none 0 0)] := by
  have c0 := none40n k L t u
  have d1 : decide ((b.size : Int) > 4000) = true := decide_eq_true (by omega)
  refine Lent.of h13 rfl (of_decide_eq_true (by kernel_rfl)) rfl rfl (Nat.le_refl _) rfl rfl rfl ?_
  unfold mB at c0 ⊢
  refine Wp.seq (Wp.text (kp 4 (.int .i64 0) (WpOps.nil (thenK_at (Wp.seq (Wp.seq (Wp.text (kp 10 (.pointer (some ⟨0, 0, none⟩)) (cl 11 40 [Value.pointer (some ⟨0, 0, none⟩)] ?_)))))))))
  refine WpCall.lent [0] (c0) (by decide) ⟨⟨[Value.int .i64 k, Value.iface 46 (Value.iface (List.length L) (Value.iface 0 (Value.agg (List.toArray (fts L))))), Value.int .i64 t, Value.int .i64 u, Value.slice none 0 0], (by kernel_rfl), (by kernel_rfl), (by kernel_rfl)⟩, trivial⟩ (by kernel_rfl) (Value.bool false) ([Blk.mk 66 true [Value.int .i64 k, Value.iface 46 (Value.iface (List.length L) (Value.iface 0 (Value.agg (List.toArray (fts L))))), Value.int .i64 t, Value.int .i64 u, Value.slice none 0 0]]) (.cons (by kernel_rfl) .nil) (by kernel_rfl) (Heap.set (heapOf [Blk.mk 66 true [Value.int .i64 k, FS 46 (List.length L) 0 (List.toArray (fts L)), Value.int .i64 t, Value.int .i64 u, Value.slice none 0 0]]) 0 (some (Blk.mk 66 true [Value.int .i64 k, Value.iface 46 (Value.iface (List.length L) (Value.iface 0 (Value.agg (List.toArray (fts L))))), Value.int .i64 t, Value.int .i64 u, Value.slice none 0 0]))) (by kernel_rfl) ?_
  refine WpOps.nil (thenK_at (off' (Wp.skip (thenK_at (Wp.seq (Wp.seq (Wp.text (kp 12 (.string b) (kp 13 (.int .i64 (ByteArray.size b)) (kp 14 (.bool true) (WpOps.nil (thenK_at (on' (Wp.seq (Wp.text (kp 4 (.int .i64 2) (WpOps.nil (thenK_at (Wp.ret (thenK_ret (endK_retn [Value.int .i64 2] (Value.int .i64 2) (by kernel_rfl) (by kernel_rfl) ?_))))))))))) (hop := fun _ => by_fact d1)))))))))))
  exact ⟨[0], by decide, by kernel_rfl, ⟨⟨_, by kernel_rfl, toldC_flat rfl⟩, trivial⟩, .w (.un rfl rfl)⟩
theorem put13Lo (k : Int) (L : List Ft) (t u : Int) (o n c : Nat) (R : List Tr) (b : ByteArray) (hb : 4000 < b.size) : Lent E 13 [.pointer (some ⟨0, 0, none⟩), .string b] [mB k L t u (.slice (some ⟨1, o, none⟩) n c), rowB R] (.int .i64 2) [mB k L t u (.slice (some ⟨1, o, none⟩) n c), rowB R] := by
  have c0 := none40o k L t u o n c R
  have hfl : (rowB R).cells.all flat = true := tcs_flat _
  have d1 : decide ((b.size : Int) > 4000) = true := decide_eq_true (by omega)
  refine Lent.of h13 rfl (of_decide_eq_true (by kernel_rfl)) rfl rfl (Nat.le_refl _) rfl ?_ rfl ?_
  · simp only [mB, rowB, List.all_cons, List.all_nil, okCs_flat (tcs_flat _), Bool.and_true]
    rfl
  unfold mB at c0 ⊢
  refine Wp.seq (Wp.text (kp 4 (.int .i64 0) (WpOps.nil (thenK_at (Wp.seq (Wp.seq (Wp.text (kp 10 (.pointer (some ⟨0, 0, none⟩)) (cl 11 40 [Value.pointer (some ⟨0, 0, none⟩)] ?_)))))))))
  refine WpCall.lent [0, 1] (c0) (by decide) ⟨⟨[Value.int .i64 k, Value.iface 46 (Value.iface (List.length L) (Value.iface 0 (Value.agg (List.toArray (fts L))))), Value.int .i64 t, Value.int .i64 u, Value.slice (some (Addr.mk 1 o none)) n c], (by kernel_rfl), (by kernel_rfl), (by kernel_rfl)⟩, ⟨⟨_, (by kernel_rfl), CellsOk.eq rfl (by assumption)⟩, trivial⟩⟩ (by kernel_rfl) (Value.bool false) ([Blk.mk 66 true [Value.int .i64 k, Value.iface 46 (Value.iface (List.length L) (Value.iface 0 (Value.agg (List.toArray (fts L))))), Value.int .i64 t, Value.int .i64 u, Value.slice (some (Addr.mk (List.getD [0, 1] 1 0) o none)) n c], Blk.mk 73 true (tcs R)]) (.cons (by kernel_rfl) (.cons (unB_flat (by assumption)) .nil)) (by kernel_rfl) (Heap.set (Heap.set (heapOf [Blk.mk 66 true [Value.int .i64 k, FS 46 (List.length L) 0 (List.toArray (fts L)), Value.int .i64 t, Value.int .i64 u, Value.slice (some (Addr.mk 1 o none)) n c], rowB R]) 0 (some (Blk.mk 66 true [Value.int .i64 k, Value.iface 46 (Value.iface (List.length L) (Value.iface 0 (Value.agg (List.toArray (fts L))))), Value.int .i64 t, Value.int .i64 u, Value.slice (some (Addr.mk 1 o none)) n c]))) 1 (some (Blk.mk 73 true (tcs R)))) (by kernel_rfl) ?_
  refine WpOps.nil (thenK_at (off' (Wp.skip (thenK_at (Wp.seq (Wp.seq (Wp.text (kp 12 (.string b) (kp 13 (.int .i64 (ByteArray.size b)) (kp 14 (.bool true) (WpOps.nil (thenK_at (on' (Wp.seq (Wp.text (kp 4 (.int .i64 2) (WpOps.nil (thenK_at (Wp.ret (thenK_ret (endK_retn [Value.int .i64 2] (Value.int .i64 2) (by kernel_rfl) (by kernel_rfl) ?_))))))))))) (hop := fun _ => by_fact d1)))))))))))
  exact ⟨[0, 1], by decide, by kernel_rfl, ⟨⟨_, by kernel_rfl, .cons (.inl ⟨rfl, rfl⟩) (.cons (.inl ⟨rfl, rfl⟩) (.cons (.inl ⟨rfl, rfl⟩) (.cons (.inl ⟨rfl, rfl⟩) (.cons (.inl ⟨rfl, rfl⟩) .nil))))⟩, ⟨_, by kernel_rfl, toldC_flat (tcs_flat _)⟩, trivial⟩, .w (.un rfl rfl)⟩
theorem put25Ln (k : Int) (L : List Ft) (t u : Int) (b : ByteArray) (hb : 4000 < b.size) : Lent E 25 [.pointer (some ⟨0, 0, none⟩), .string b] [sB k L t u (.slice none 0 0)] (.int .i64 2) [sB k L t u (.slice none 0 0)] := by
  have d1 : decide ((b.size : Int) > 4000) = true := decide_eq_true (by omega)
  refine Lent.of g25 rfl (of_decide_eq_true (by kernel_rfl)) rfl rfl (Nat.le_refl _) rfl rfl rfl ?_
  unfold sB
  refine Wp.seq (Wp.text (kp 4 (.int .i64 0) (WpOps.nil (thenK_at (Wp.seq (Wp.seq (Wp.text (kp 9 (.string b) (kp 10 (.int .i64 (ByteArray.size b)) (kp 11 (.bool true) (WpOps.nil (thenK_at (on' (Wp.seq (Wp.text (kp 4 (.int .i64 2) (WpOps.nil (thenK_at (Wp.ret (thenK_ret (endK_retn [Value.int .i64 2] (Value.int .i64 2) (by kernel_rfl) (by kernel_rfl) ?_))))))))))) (hop := fun _ => by_fact d1)))))))))))
  exact ⟨[0], by decide, by kernel_rfl, ⟨⟨_, by kernel_rfl, toldC_flat rfl⟩, trivial⟩, .w (.un rfl rfl)⟩
theorem put25Lo (k : Int) (L : List Ft) (t u : Int) (Y : List Tr) (b : ByteArray) (hb : 4000 < b.size) : Lent E 25 [.pointer (some ⟨0, 0, none⟩), .string b] [sB k L t u (wS 1 Y), sR Y] (.int .i64 2) [sB k L t u (wS 1 Y), sR Y] := by
  have d1 : decide ((b.size : Int) > 4000) = true := decide_eq_true (by omega)
  refine Lent.of g25 rfl (of_decide_eq_true (by kernel_rfl)) rfl rfl (Nat.le_refl _) rfl (okSs _ _ _ _ _ _ rfl) rfl ?_
  unfold sB wS
  refine Wp.seq (Wp.text (kp 4 (.int .i64 0) (WpOps.nil (thenK_at (Wp.seq (Wp.seq (Wp.text (kp 9 (.string b) (kp 10 (.int .i64 (ByteArray.size b)) (kp 11 (.bool true) (WpOps.nil (thenK_at (on' (Wp.seq (Wp.text (kp 4 (.int .i64 2) (WpOps.nil (thenK_at (Wp.ret (thenK_ret (endK_retn [Value.int .i64 2] (Value.int .i64 2) (by kernel_rfl) (by kernel_rfl) ?_))))))))))) (hop := fun _ => by_fact d1)))))))))))
  exact ⟨[0, 1], by decide, by kernel_rfl, ⟨⟨_, by kernel_rfl, .cons (.inl ⟨rfl, rfl⟩) (.cons (.inl ⟨rfl, rfl⟩) (.cons (.inl ⟨rfl, rfl⟩) (.cons (.inl ⟨rfl, rfl⟩) (.cons (.inl ⟨rfl, rfl⟩) .nil))))⟩, ⟨_, by kernel_rfl, toldC_flat (ics_flat _)⟩, trivial⟩, .w (.un rfl rfl)⟩
end Go.Proofs.Ytdkmdpklojeepaa.D
