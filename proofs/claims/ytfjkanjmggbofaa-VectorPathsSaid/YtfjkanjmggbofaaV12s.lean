/- The law VectorPaths. -/
import Derived.Test.YtfjkanjmggbofaaFwLem
import Derived.Test.YtfjkanjmggbofaaFwCons
import Derived.Test.YtfjkanjmggbofaaV12r
namespace Go.Proofs.Ytfjkanjmggbofaa.D
open Go.Fw Go.RowKit

theorem pathF_is (f : Nat → Nat → Rt) (to st k : Nat) : pathF f to st k = FS 3 (k + 1) 0 ((List.range (k + 1)).map fun j => Value.int .i64 ((fun j : Nat => ((nd f to st j : Nat) : Int)) j)).toArray := rfl
theorem stopP_le (n : Nat) (c : Nat → Nat → Int) (f : Nat → Nat → Rt) (to st : Nat) : stopP n c f to st ≤ n := by
  unfold stopP
  split
  · rename_i k h
    have := List.mem_of_find?_eq_some h
    rw [List.mem_range] at this
    omega
  · exact Nat.le_refl _
theorem f7 : E.funcs 7 = some Try.f7 := by kernel_rfl
theorem node_is {n : Nat} {v : Int} (h : nodeB n v = true) : ∃ i : Nat, v = i ∧ i < n := by
  unfold nodeB at h
  simp at h
  exact ⟨v.toNat, by omega, by omega⟩
set_option maxHeartbeats 4000000 in
theorem law7 (N : Int) (x : Nat) (ls : List Lk) (xt : Nat) (T : List (Nat × List Rt)) (st to : Int) (hy : ls.length * 24 ≤ 140737488351232) (ok : OkT xt T) : Fun E 7 [.agg #[.int .i64 N, lks x ls, tabF 45 47 xt T, .int .i64 st, .int .i64 to]] (.bool true) := by
  have c0 := sane17
  have c1 := to14 N x ls hy
  have hs1 := ok.size
  have hs2 := ok.sizes
  by_cases hb : tabOk N ls T = true
  · obtain ⟨n, f, rfl, g, gt, rfl, rfl, t1, t2, t3⟩ := open_tab (x := x) hy ok hb
    have hN := g.hN
    have l1 := loops31_ok n x ls f (cF ls) hN t1 (fun i j hi hj => path54 n x ls f i j g (by omega) gt hi hj)
    have l2 := loops32_ok n 0 ls f (cF ls) hN t2 (fun i j hi hj => walk56 n 0 ls f i j g (by omega) gt hi hj)
    by_cases hp : okPath true (nodeB n st) (nodeB n to) = true
    · unfold okPath at hp
      simp only [Bool.true_and, Bool.and_eq_true] at hp
      obtain ⟨i, rfl, hi⟩ := node_is hp.1
      obtain ⟨j, rfl, hj⟩ := node_is hp.2
      have c3 := path28_ok n x ls f i j hi hj t1 (path54 n x ls f i j g (by omega) gt hi hj)
      have c4 := path29_ok n 0 ls f i j hi hj t2 (walk56 n 0 ls f i j g (by omega) gt hi hj)
      have hsl := stopP_le n (cF ls) f j i
      have c5 := ints30 (stopP n (cF ls) f j i + 1) (fun k => ((nd f j i k : Nat) : Int)) (fun k => ((nd f j i k : Nat) : Int)) (by omega)
      have e5 : (allR (stopP n (cF ls) f j i + 1) fun k => (((nd f j i k : Nat) : Int) == ((nd f j i k : Nat) : Int))) = true := allR_true fun _ _ => by simp
      rw [e5, ← pathF_is] at c5
      show Fun E 7 [.agg #[.int .i64 n, lks x ls, tabM 45 47 n f, .int .i64 i, .int .i64 j]] (.bool true)
      generalize stopP n (cF ls) f j i = s at c3 c4 c5
      generalize (nd f j i s == j) = bb at c3 c4
      unfold pathF at c3 c4 c5
      generalize pathL f j i s = pl at c3 c4 c5
      generalize cntAll n (cF ls) f n = cnt at l1 l2
      have e2 : ((cnt : Int) == (cnt : Int)) = true := by simp
      clear t1 t2 hb e5 hsl
      refine Fun.of f7 rfl (of_decide_eq_true (by kernel_rfl)) rfl ?_
      rw [tabM_eq, tabM_eq] at *
      unfold netV at c1 c3 c4 l1 l2
      unfold lks matF at *
      cases bb with
      | true =>
        refine Wp.seq (Wp.text ?_)
        refine md 1 (.pointer (some ⟨0, 0, none⟩)) (Blk.mk 60 true [Value.int .i64 (↑n : Int), Value.iface 48 (Value.iface (List.length ls) (Value.iface x (Value.agg (List.toArray (lcs ls))))), Value.iface 45 (Value.iface n (Value.iface 0 (Value.agg (List.toArray (List.map (fun r => FS 47 n 0 (List.toArray r)) (rowsM n f)))))), Value.int .i64 (↑i : Int), Value.int .i64 (↑j : Int)]) ?_
        refine kp 2 (.bool false) ?_
        refine WpOps.nil (thenK_at (Wp.seq (Wp.text ?_)))
        refine kp 12 (.pointer (some ⟨0, 0, none⟩)) ?_
        refine kp 13 (.agg #[Value.int .i64 (↑n : Int), Value.iface 48 (Value.iface (List.length ls) (Value.iface x (Value.agg (List.toArray (lcs ls)))))]) ?_
        refine kp 14 (.pointer (some ⟨0, 2, none⟩)) ?_
        refine kp 15 (.iface 45 (Value.iface n (Value.iface 0 (Value.agg (List.toArray (List.map (fun r => FS 47 n 0 (List.toArray r)) (rowsM n f))))))) ?_
        refine kp 16 (.pointer (some ⟨0, 3, none⟩)) ?_
        refine kp 17 (.int IntKind.i64 (↑i : Int)) ?_
        refine kp 18 (.pointer (some ⟨0, 4, none⟩)) ?_
        refine kp 19 (.int IntKind.i64 (↑j : Int)) ?_
        refine fr 20 28 [Value.agg #[Value.int .i64 (↑n : Int), Value.iface 48 (Value.iface (List.length ls) (Value.iface x (Value.agg (List.toArray (lcs ls)))))], Value.iface 45 (Value.iface n (Value.iface 0 (Value.agg (List.toArray (List.map (fun r => FS 47 n 0 (List.toArray r)) (rowsM n f)))))), Value.int .i64 (↑i : Int), Value.int .i64 (↑j : Int)] ?_
        refine WpFun.of (c3) ?_
        refine kp 11 (.tuple #[FS 3 (s + 1) 0 (List.toArray pl), Value.bool true, Value.int .i64 0]) ?_
        refine kp 21 (.iface 3 (Value.iface (s + 1) (Value.iface 0 (Value.agg (List.toArray pl))))) ?_
        refine kp 22 (.bool true) ?_
        refine kp 23 (.int IntKind.i64 0) ?_
        refine kp 3 (.iface 3 (Value.iface (s + 1) (Value.iface 0 (Value.agg (List.toArray pl))))) ?_
        refine kp 4 (.bool true) ?_
        refine kp 5 (.int IntKind.i64 0) ?_
        refine WpOps.nil (thenK_at (Wp.seq ?_))
        refine Wp.region (by kernel_rfl) ?_
        refine kp 25 (.pointer (some ⟨0, 0, none⟩)) ?_
        refine kp 26 (.agg #[Value.int .i64 (↑n : Int), Value.iface 48 (Value.iface (List.length ls) (Value.iface x (Value.agg (List.toArray (lcs ls)))))]) ?_
        refine fr 27 14 [Value.agg #[Value.int .i64 (↑n : Int), Value.iface 48 (Value.iface (List.length ls) (Value.iface x (Value.agg (List.toArray (lcs ls)))))]] ?_
        refine WpFun.of (c1) ?_
        refine kp 28 (.pointer (some ⟨0, 2, none⟩)) ?_
        refine kp 29 (.iface 45 (Value.iface n (Value.iface 0 (Value.agg (List.toArray (List.map (fun r => FS 47 n 0 (List.toArray r)) (rowsM n f))))))) ?_
        refine fr 30 15 [Value.iface 45 (Value.iface n (Value.iface 0 (Value.agg (List.toArray (List.map (fun r => FS 47 n 0 (List.toArray r)) (rowsM n f))))))] ?_
        refine WpFun.of (t3) ?_
        refine kp 31 (.pointer (some ⟨0, 3, none⟩)) ?_
        refine kp 32 (.int IntKind.i64 (↑i : Int)) ?_
        refine kp 33 (.pointer (some ⟨0, 4, none⟩)) ?_
        refine kp 34 (.int IntKind.i64 (↑j : Int)) ?_
        refine fr 35 29 [Value.agg #[Value.int .i64 (↑n : Int), FS 48 (List.length ls) 0 (List.toArray (lcs ls))], Value.iface 92 (Value.iface n (Value.iface 0 (Value.agg (List.toArray (List.map (fun r => FS 93 n 0 (List.toArray r)) (rowsM n f)))))), Value.int .i64 (↑i : Int), Value.int .i64 (↑j : Int)] ?_
        refine WpFun.of (c4) ?_
        refine kp 24 (.tuple #[FS 3 (s + 1) 0 (List.toArray pl), Value.bool true, Value.int .i64 0]) ?_
        refine kp 36 (.iface 3 (Value.iface (s + 1) (Value.iface 0 (Value.agg (List.toArray pl))))) ?_
        refine kp 37 (.bool true) ?_
        refine kp 38 (.int IntKind.i64 0) ?_
        refine kp 6 (.iface 3 (Value.iface (s + 1) (Value.iface 0 (Value.agg (List.toArray pl))))) ?_
        refine kp 7 (.bool true) ?_
        refine kp 8 (.int IntKind.i64 0) ?_
        refine WpOps.nil (thenK_at (Wp.seq (Wp.seq (Wp.text ?_))))
        refine kp 39 (.bool true) ?_
        refine kp 40 (.bool true) ?_
        refine kp 41 (.bool false) ?_
        refine kp 42 (.bool false) ?_
        refine kp 43 (.int IntKind.i64 0) ?_
        refine kp 44 (.int IntKind.i64 0) ?_
        refine kp 45 (.bool false) ?_
        refine kp 46 (.bool false) ?_
        refine kp 47 (.bool false) ?_
        refine kp 48 (.iface 3 (Value.iface (s + 1) (Value.iface 0 (Value.agg (List.toArray pl))))) ?_
        refine kp 49 (.iface 3 (Value.iface (s + 1) (Value.iface 0 (Value.agg (List.toArray pl))))) ?_
        refine fr 50 30 [Value.iface 3 (Value.iface (s + 1) (Value.iface 0 (Value.agg (List.toArray pl)))), Value.iface 3 (Value.iface (s + 1) (Value.iface 0 (Value.agg (List.toArray pl))))] ?_
        refine WpFun.of (c5) ?_
        refine kp 51 (.bool false) ?_
        refine kp 52 (.bool false) ?_
        refine WpOps.nil (thenK_at (off' (Wp.skip (thenK_at (Wp.seq (Wp.text ?_))))))
        refine kp 54 (.pointer (some ⟨0, 0, none⟩)) ?_
        refine kp 55 (.agg #[Value.int .i64 (↑n : Int), Value.iface 48 (Value.iface (List.length ls) (Value.iface x (Value.agg (List.toArray (lcs ls)))))]) ?_
        refine kp 56 (.pointer (some ⟨0, 2, none⟩)) ?_
        refine kp 57 (.iface 45 (Value.iface n (Value.iface 0 (Value.agg (List.toArray (List.map (fun r => FS 47 n 0 (List.toArray r)) (rowsM n f))))))) ?_
        refine fr 58 31 [Value.agg #[Value.int .i64 (↑n : Int), Value.iface 48 (Value.iface (List.length ls) (Value.iface x (Value.agg (List.toArray (lcs ls)))))], Value.iface 45 (Value.iface n (Value.iface 0 (Value.agg (List.toArray (List.map (fun r => FS 47 n 0 (List.toArray r)) (rowsM n f))))))] ?_
        refine WpFun.of (l1) ?_
        refine kp 53 (.tuple #[Value.int .i64 (↑cnt : Int), Value.int .i64 0]) ?_
        refine kp 59 (.int IntKind.i64 (↑cnt : Int)) ?_
        refine kp 60 (.int IntKind.i64 0) ?_
        refine kp 9 (.int IntKind.i64 (↑cnt : Int)) ?_
        refine kp 5 (.int IntKind.i64 0) ?_
        refine WpOps.nil (thenK_at (Wp.seq ?_))
        refine Wp.region (by kernel_rfl) ?_
        refine kp 62 (.pointer (some ⟨0, 0, none⟩)) ?_
        refine kp 63 (.agg #[Value.int .i64 (↑n : Int), Value.iface 48 (Value.iface (List.length ls) (Value.iface x (Value.agg (List.toArray (lcs ls)))))]) ?_
        refine fr 64 14 [Value.agg #[Value.int .i64 (↑n : Int), Value.iface 48 (Value.iface (List.length ls) (Value.iface x (Value.agg (List.toArray (lcs ls)))))]] ?_
        refine WpFun.of (c1) ?_
        refine kp 65 (.pointer (some ⟨0, 2, none⟩)) ?_
        refine kp 66 (.iface 45 (Value.iface n (Value.iface 0 (Value.agg (List.toArray (List.map (fun r => FS 47 n 0 (List.toArray r)) (rowsM n f))))))) ?_
        refine fr 67 15 [Value.iface 45 (Value.iface n (Value.iface 0 (Value.agg (List.toArray (List.map (fun r => FS 47 n 0 (List.toArray r)) (rowsM n f))))))] ?_
        refine WpFun.of (t3) ?_
        refine fr 68 32 [Value.agg #[Value.int .i64 (↑n : Int), FS 48 (List.length ls) 0 (List.toArray (lcs ls))], Value.iface 92 (Value.iface n (Value.iface 0 (Value.agg (List.toArray (List.map (fun r => FS 93 n 0 (List.toArray r)) (rowsM n f))))))] ?_
        refine WpFun.of (l2) ?_
        refine kp 61 (.tuple #[Value.int .i64 (↑cnt : Int), Value.int .i64 0]) ?_
        refine kp 69 (.int IntKind.i64 (↑cnt : Int)) ?_
        refine kp 70 (.int IntKind.i64 0) ?_
        refine kp 10 (.int IntKind.i64 (↑cnt : Int)) ?_
        refine kp 8 (.int IntKind.i64 0) ?_
        refine WpOps.nil (thenK_at (Wp.seq (Wp.text ?_)))
        refine kp 71 (.int IntKind.i64 (↑cnt : Int)) ?_
        refine kp 72 (.int IntKind.i64 (↑cnt : Int)) ?_
        refine kp 73 (.bool true) ?_ (hop := fun _ => by_fact e2)
        refine kp 74 (.bool true) ?_
        refine kp 75 (.int IntKind.i64 0) ?_
        refine kp 76 (.int IntKind.i64 0) ?_
        refine kp 77 (.bool true) ?_
        refine kp 78 (.bool true) ?_
        refine kp 79 (.bool true) ?_
        refine fr 80 17 [] ?_
        refine WpFun.of (c0) ?_
        refine kp 81 (.bool true) ?_
        refine kp 2 (.bool true) ?_
        refine WpOps.nil (thenK_at (Wp.ret ?_))
        refine endK_retn [Value.bool true] (Value.bool true) (by kernel_rfl) (by kernel_rfl) ?_
        rfl
      | false =>
        refine Wp.seq (Wp.text ?_)
        refine md 1 (.pointer (some ⟨0, 0, none⟩)) (Blk.mk 60 true [Value.int .i64 (↑n : Int), Value.iface 48 (Value.iface (List.length ls) (Value.iface x (Value.agg (List.toArray (lcs ls))))), Value.iface 45 (Value.iface n (Value.iface 0 (Value.agg (List.toArray (List.map (fun r => FS 47 n 0 (List.toArray r)) (rowsM n f)))))), Value.int .i64 (↑i : Int), Value.int .i64 (↑j : Int)]) ?_
        refine kp 2 (.bool false) ?_
        refine WpOps.nil (thenK_at (Wp.seq (Wp.text ?_)))
        refine kp 12 (.pointer (some ⟨0, 0, none⟩)) ?_
        refine kp 13 (.agg #[Value.int .i64 (↑n : Int), Value.iface 48 (Value.iface (List.length ls) (Value.iface x (Value.agg (List.toArray (lcs ls)))))]) ?_
        refine kp 14 (.pointer (some ⟨0, 2, none⟩)) ?_
        refine kp 15 (.iface 45 (Value.iface n (Value.iface 0 (Value.agg (List.toArray (List.map (fun r => FS 47 n 0 (List.toArray r)) (rowsM n f))))))) ?_
        refine kp 16 (.pointer (some ⟨0, 3, none⟩)) ?_
        refine kp 17 (.int IntKind.i64 (↑i : Int)) ?_
        refine kp 18 (.pointer (some ⟨0, 4, none⟩)) ?_
        refine kp 19 (.int IntKind.i64 (↑j : Int)) ?_
        refine fr 20 28 [Value.agg #[Value.int .i64 (↑n : Int), Value.iface 48 (Value.iface (List.length ls) (Value.iface x (Value.agg (List.toArray (lcs ls)))))], Value.iface 45 (Value.iface n (Value.iface 0 (Value.agg (List.toArray (List.map (fun r => FS 47 n 0 (List.toArray r)) (rowsM n f)))))), Value.int .i64 (↑i : Int), Value.int .i64 (↑j : Int)] ?_
        refine WpFun.of (c3) ?_
        refine kp 11 (.tuple #[FS 3 (s + 1) 0 (List.toArray pl), Value.bool false, Value.int .i64 0]) ?_
        refine kp 21 (.iface 3 (Value.iface (s + 1) (Value.iface 0 (Value.agg (List.toArray pl))))) ?_
        refine kp 22 (.bool false) ?_
        refine kp 23 (.int IntKind.i64 0) ?_
        refine kp 3 (.iface 3 (Value.iface (s + 1) (Value.iface 0 (Value.agg (List.toArray pl))))) ?_
        refine kp 4 (.bool false) ?_
        refine kp 5 (.int IntKind.i64 0) ?_
        refine WpOps.nil (thenK_at (Wp.seq ?_))
        refine Wp.region (by kernel_rfl) ?_
        refine kp 25 (.pointer (some ⟨0, 0, none⟩)) ?_
        refine kp 26 (.agg #[Value.int .i64 (↑n : Int), Value.iface 48 (Value.iface (List.length ls) (Value.iface x (Value.agg (List.toArray (lcs ls)))))]) ?_
        refine fr 27 14 [Value.agg #[Value.int .i64 (↑n : Int), Value.iface 48 (Value.iface (List.length ls) (Value.iface x (Value.agg (List.toArray (lcs ls)))))]] ?_
        refine WpFun.of (c1) ?_
        refine kp 28 (.pointer (some ⟨0, 2, none⟩)) ?_
        refine kp 29 (.iface 45 (Value.iface n (Value.iface 0 (Value.agg (List.toArray (List.map (fun r => FS 47 n 0 (List.toArray r)) (rowsM n f))))))) ?_
        refine fr 30 15 [Value.iface 45 (Value.iface n (Value.iface 0 (Value.agg (List.toArray (List.map (fun r => FS 47 n 0 (List.toArray r)) (rowsM n f))))))] ?_
        refine WpFun.of (t3) ?_
        refine kp 31 (.pointer (some ⟨0, 3, none⟩)) ?_
        refine kp 32 (.int IntKind.i64 (↑i : Int)) ?_
        refine kp 33 (.pointer (some ⟨0, 4, none⟩)) ?_
        refine kp 34 (.int IntKind.i64 (↑j : Int)) ?_
        refine fr 35 29 [Value.agg #[Value.int .i64 (↑n : Int), FS 48 (List.length ls) 0 (List.toArray (lcs ls))], Value.iface 92 (Value.iface n (Value.iface 0 (Value.agg (List.toArray (List.map (fun r => FS 93 n 0 (List.toArray r)) (rowsM n f)))))), Value.int .i64 (↑i : Int), Value.int .i64 (↑j : Int)] ?_
        refine WpFun.of (c4) ?_
        refine kp 24 (.tuple #[FS 3 (s + 1) 0 (List.toArray pl), Value.bool false, Value.int .i64 0]) ?_
        refine kp 36 (.iface 3 (Value.iface (s + 1) (Value.iface 0 (Value.agg (List.toArray pl))))) ?_
        refine kp 37 (.bool false) ?_
        refine kp 38 (.int IntKind.i64 0) ?_
        refine kp 6 (.iface 3 (Value.iface (s + 1) (Value.iface 0 (Value.agg (List.toArray pl))))) ?_
        refine kp 7 (.bool false) ?_
        refine kp 8 (.int IntKind.i64 0) ?_
        refine WpOps.nil (thenK_at (Wp.seq (Wp.seq (Wp.text ?_))))
        refine kp 39 (.bool false) ?_
        refine kp 40 (.bool false) ?_
        refine kp 41 (.bool false) ?_
        refine kp 42 (.bool false) ?_
        refine kp 43 (.int IntKind.i64 0) ?_
        refine kp 44 (.int IntKind.i64 0) ?_
        refine kp 45 (.bool false) ?_
        refine kp 46 (.bool false) ?_
        refine kp 47 (.bool false) ?_
        refine kp 48 (.iface 3 (Value.iface (s + 1) (Value.iface 0 (Value.agg (List.toArray pl))))) ?_
        refine kp 49 (.iface 3 (Value.iface (s + 1) (Value.iface 0 (Value.agg (List.toArray pl))))) ?_
        refine fr 50 30 [Value.iface 3 (Value.iface (s + 1) (Value.iface 0 (Value.agg (List.toArray pl)))), Value.iface 3 (Value.iface (s + 1) (Value.iface 0 (Value.agg (List.toArray pl))))] ?_
        refine WpFun.of (c5) ?_
        refine kp 51 (.bool false) ?_
        refine kp 52 (.bool false) ?_
        refine WpOps.nil (thenK_at (off' (Wp.skip (thenK_at (Wp.seq (Wp.text ?_))))))
        refine kp 54 (.pointer (some ⟨0, 0, none⟩)) ?_
        refine kp 55 (.agg #[Value.int .i64 (↑n : Int), Value.iface 48 (Value.iface (List.length ls) (Value.iface x (Value.agg (List.toArray (lcs ls)))))]) ?_
        refine kp 56 (.pointer (some ⟨0, 2, none⟩)) ?_
        refine kp 57 (.iface 45 (Value.iface n (Value.iface 0 (Value.agg (List.toArray (List.map (fun r => FS 47 n 0 (List.toArray r)) (rowsM n f))))))) ?_
        refine fr 58 31 [Value.agg #[Value.int .i64 (↑n : Int), Value.iface 48 (Value.iface (List.length ls) (Value.iface x (Value.agg (List.toArray (lcs ls)))))], Value.iface 45 (Value.iface n (Value.iface 0 (Value.agg (List.toArray (List.map (fun r => FS 47 n 0 (List.toArray r)) (rowsM n f))))))] ?_
        refine WpFun.of (l1) ?_
        refine kp 53 (.tuple #[Value.int .i64 (↑cnt : Int), Value.int .i64 0]) ?_
        refine kp 59 (.int IntKind.i64 (↑cnt : Int)) ?_
        refine kp 60 (.int IntKind.i64 0) ?_
        refine kp 9 (.int IntKind.i64 (↑cnt : Int)) ?_
        refine kp 5 (.int IntKind.i64 0) ?_
        refine WpOps.nil (thenK_at (Wp.seq ?_))
        refine Wp.region (by kernel_rfl) ?_
        refine kp 62 (.pointer (some ⟨0, 0, none⟩)) ?_
        refine kp 63 (.agg #[Value.int .i64 (↑n : Int), Value.iface 48 (Value.iface (List.length ls) (Value.iface x (Value.agg (List.toArray (lcs ls)))))]) ?_
        refine fr 64 14 [Value.agg #[Value.int .i64 (↑n : Int), Value.iface 48 (Value.iface (List.length ls) (Value.iface x (Value.agg (List.toArray (lcs ls)))))]] ?_
        refine WpFun.of (c1) ?_
        refine kp 65 (.pointer (some ⟨0, 2, none⟩)) ?_
        refine kp 66 (.iface 45 (Value.iface n (Value.iface 0 (Value.agg (List.toArray (List.map (fun r => FS 47 n 0 (List.toArray r)) (rowsM n f))))))) ?_
        refine fr 67 15 [Value.iface 45 (Value.iface n (Value.iface 0 (Value.agg (List.toArray (List.map (fun r => FS 47 n 0 (List.toArray r)) (rowsM n f))))))] ?_
        refine WpFun.of (t3) ?_
        refine fr 68 32 [Value.agg #[Value.int .i64 (↑n : Int), FS 48 (List.length ls) 0 (List.toArray (lcs ls))], Value.iface 92 (Value.iface n (Value.iface 0 (Value.agg (List.toArray (List.map (fun r => FS 93 n 0 (List.toArray r)) (rowsM n f))))))] ?_
        refine WpFun.of (l2) ?_
        refine kp 61 (.tuple #[Value.int .i64 (↑cnt : Int), Value.int .i64 0]) ?_
        refine kp 69 (.int IntKind.i64 (↑cnt : Int)) ?_
        refine kp 70 (.int IntKind.i64 0) ?_
        refine kp 10 (.int IntKind.i64 (↑cnt : Int)) ?_
        refine kp 8 (.int IntKind.i64 0) ?_
        refine WpOps.nil (thenK_at (Wp.seq (Wp.text ?_)))
        refine kp 71 (.int IntKind.i64 (↑cnt : Int)) ?_
        refine kp 72 (.int IntKind.i64 (↑cnt : Int)) ?_
        refine kp 73 (.bool true) ?_ (hop := fun _ => by_fact e2)
        refine kp 74 (.bool true) ?_
        refine kp 75 (.int IntKind.i64 0) ?_
        refine kp 76 (.int IntKind.i64 0) ?_
        refine kp 77 (.bool true) ?_
        refine kp 78 (.bool true) ?_
        refine kp 79 (.bool true) ?_
        refine fr 80 17 [] ?_
        refine WpFun.of (c0) ?_
        refine kp 81 (.bool true) ?_
        refine kp 2 (.bool true) ?_
        refine WpOps.nil (thenK_at (Wp.ret ?_))
        refine endK_retn [Value.bool true] (Value.bool true) (by kernel_rfl) (by kernel_rfl) ?_
        rfl
    · have hp' : okPath true (nodeB n st) (nodeB n to) = false := by simpa using hp
      have c3 := path28_bad n x ls 0 (matT n f) st to true t1 hp'
      have c4 := path29_bad n 0 ls 0 (matT n f) st to true t2 hp'
      have c5 := ints30n
      have c3' : Fun E 28 [netV n x ls, tabM 45 47 n f, .int .i64 st, .int .i64 to] (.tuple #[FS 3 0 2 #[], .bool false, .int .i64 1]) := c3
      have c4' : Fun E 29 [netV n 0 ls, tabM 92 93 n f, .int .i64 st, .int .i64 to] (.tuple #[FS 3 0 2 #[], .bool false, .int .i64 1]) := c4
      show Fun E 7 [.agg #[.int .i64 n, lks x ls, tabM 45 47 n f, .int .i64 st, .int .i64 to]] (.bool true)
      generalize cntAll n (cF ls) f n = cnt at l1 l2
      have e2 : ((cnt : Int) == (cnt : Int)) = true := by simp
      clear t1 t2 hb c3 c4
      refine Fun.of f7 rfl (of_decide_eq_true (by kernel_rfl)) rfl ?_
      rw [tabM_eq, tabM_eq] at *
      unfold netV at c1 c3' c4' l1 l2
      unfold lks matF at *
      refine Wp.seq (Wp.text ?_)
      refine md 1 (.pointer (some ⟨0, 0, none⟩)) (Blk.mk 60 true [Value.int .i64 (↑n : Int), Value.iface 48 (Value.iface (List.length ls) (Value.iface x (Value.agg (List.toArray (lcs ls))))), Value.iface 45 (Value.iface n (Value.iface 0 (Value.agg (List.toArray (List.map (fun r => FS 47 n 0 (List.toArray r)) (rowsM n f)))))), Value.int .i64 st, Value.int .i64 to]) ?_
      refine kp 2 (.bool false) ?_
      refine WpOps.nil (thenK_at (Wp.seq (Wp.text ?_)))
      refine kp 12 (.pointer (some ⟨0, 0, none⟩)) ?_
      refine kp 13 (.agg #[Value.int .i64 (↑n : Int), Value.iface 48 (Value.iface (List.length ls) (Value.iface x (Value.agg (List.toArray (lcs ls)))))]) ?_
      refine kp 14 (.pointer (some ⟨0, 2, none⟩)) ?_
      refine kp 15 (.iface 45 (Value.iface n (Value.iface 0 (Value.agg (List.toArray (List.map (fun r => FS 47 n 0 (List.toArray r)) (rowsM n f))))))) ?_
      refine kp 16 (.pointer (some ⟨0, 3, none⟩)) ?_
      refine kp 17 (.int IntKind.i64 st) ?_
      refine kp 18 (.pointer (some ⟨0, 4, none⟩)) ?_
      refine kp 19 (.int IntKind.i64 to) ?_
      refine fr 20 28 [Value.agg #[Value.int .i64 (↑n : Int), Value.iface 48 (Value.iface (List.length ls) (Value.iface x (Value.agg (List.toArray (lcs ls)))))], Value.iface 45 (Value.iface n (Value.iface 0 (Value.agg (List.toArray (List.map (fun r => FS 47 n 0 (List.toArray r)) (rowsM n f)))))), Value.int .i64 st, Value.int .i64 to] ?_
      refine WpFun.of (c3') ?_
      refine kp 11 (.tuple #[Value.iface 3 (Value.iface 0 (Value.iface 2 (Value.agg #[]))), Value.bool false, Value.int .i64 1]) ?_
      refine kp 21 (.iface 3 (Value.iface 0 (Value.iface 2 (Value.agg #[])))) ?_
      refine kp 22 (.bool false) ?_
      refine kp 23 (.int IntKind.i64 1) ?_
      refine kp 3 (.iface 3 (Value.iface 0 (Value.iface 2 (Value.agg #[])))) ?_
      refine kp 4 (.bool false) ?_
      refine kp 5 (.int IntKind.i64 1) ?_
      refine WpOps.nil (thenK_at (Wp.seq ?_))
      refine Wp.region (by kernel_rfl) ?_
      refine kp 25 (.pointer (some ⟨0, 0, none⟩)) ?_
      refine kp 26 (.agg #[Value.int .i64 (↑n : Int), Value.iface 48 (Value.iface (List.length ls) (Value.iface x (Value.agg (List.toArray (lcs ls)))))]) ?_
      refine fr 27 14 [Value.agg #[Value.int .i64 (↑n : Int), Value.iface 48 (Value.iface (List.length ls) (Value.iface x (Value.agg (List.toArray (lcs ls)))))]] ?_
      refine WpFun.of (c1) ?_
      refine kp 28 (.pointer (some ⟨0, 2, none⟩)) ?_
      refine kp 29 (.iface 45 (Value.iface n (Value.iface 0 (Value.agg (List.toArray (List.map (fun r => FS 47 n 0 (List.toArray r)) (rowsM n f))))))) ?_
      refine fr 30 15 [Value.iface 45 (Value.iface n (Value.iface 0 (Value.agg (List.toArray (List.map (fun r => FS 47 n 0 (List.toArray r)) (rowsM n f))))))] ?_
      refine WpFun.of (t3) ?_
      refine kp 31 (.pointer (some ⟨0, 3, none⟩)) ?_
      refine kp 32 (.int IntKind.i64 st) ?_
      refine kp 33 (.pointer (some ⟨0, 4, none⟩)) ?_
      refine kp 34 (.int IntKind.i64 to) ?_
      refine fr 35 29 [Value.agg #[Value.int .i64 (↑n : Int), FS 48 (List.length ls) 0 (List.toArray (lcs ls))], Value.iface 92 (Value.iface n (Value.iface 0 (Value.agg (List.toArray (List.map (fun r => FS 93 n 0 (List.toArray r)) (rowsM n f)))))), Value.int .i64 st, Value.int .i64 to] ?_
      refine WpFun.of (c4') ?_
      refine kp 24 (.tuple #[Value.iface 3 (Value.iface 0 (Value.iface 2 (Value.agg #[]))), Value.bool false, Value.int .i64 1]) ?_
      refine kp 36 (.iface 3 (Value.iface 0 (Value.iface 2 (Value.agg #[])))) ?_
      refine kp 37 (.bool false) ?_
      refine kp 38 (.int IntKind.i64 1) ?_
      refine kp 6 (.iface 3 (Value.iface 0 (Value.iface 2 (Value.agg #[])))) ?_
      refine kp 7 (.bool false) ?_
      refine kp 8 (.int IntKind.i64 1) ?_
      refine WpOps.nil (thenK_at (Wp.seq (Wp.seq (Wp.text ?_))))
      refine kp 39 (.bool false) ?_
      refine kp 40 (.bool false) ?_
      refine kp 41 (.bool false) ?_
      refine kp 42 (.bool false) ?_
      refine kp 43 (.int IntKind.i64 1) ?_
      refine kp 44 (.int IntKind.i64 1) ?_
      refine kp 45 (.bool false) ?_
      refine kp 46 (.bool false) ?_
      refine kp 47 (.bool false) ?_
      refine kp 48 (.iface 3 (Value.iface 0 (Value.iface 2 (Value.agg #[])))) ?_
      refine kp 49 (.iface 3 (Value.iface 0 (Value.iface 2 (Value.agg #[])))) ?_
      refine fr 50 30 [Value.iface 3 (Value.iface 0 (Value.iface 2 (Value.agg #[]))), Value.iface 3 (Value.iface 0 (Value.iface 2 (Value.agg #[])))] ?_
      refine WpFun.of (c5) ?_
      refine kp 51 (.bool false) ?_
      refine kp 52 (.bool false) ?_
      refine WpOps.nil (thenK_at (off' (Wp.skip (thenK_at (Wp.seq (Wp.text ?_))))))
      refine kp 54 (.pointer (some ⟨0, 0, none⟩)) ?_
      refine kp 55 (.agg #[Value.int .i64 (↑n : Int), Value.iface 48 (Value.iface (List.length ls) (Value.iface x (Value.agg (List.toArray (lcs ls)))))]) ?_
      refine kp 56 (.pointer (some ⟨0, 2, none⟩)) ?_
      refine kp 57 (.iface 45 (Value.iface n (Value.iface 0 (Value.agg (List.toArray (List.map (fun r => FS 47 n 0 (List.toArray r)) (rowsM n f))))))) ?_
      refine fr 58 31 [Value.agg #[Value.int .i64 (↑n : Int), Value.iface 48 (Value.iface (List.length ls) (Value.iface x (Value.agg (List.toArray (lcs ls)))))], Value.iface 45 (Value.iface n (Value.iface 0 (Value.agg (List.toArray (List.map (fun r => FS 47 n 0 (List.toArray r)) (rowsM n f))))))] ?_
      refine WpFun.of (l1) ?_
      refine kp 53 (.tuple #[Value.int .i64 (↑cnt : Int), Value.int .i64 0]) ?_
      refine kp 59 (.int IntKind.i64 (↑cnt : Int)) ?_
      refine kp 60 (.int IntKind.i64 0) ?_
      refine kp 9 (.int IntKind.i64 (↑cnt : Int)) ?_
      refine kp 5 (.int IntKind.i64 0) ?_
      refine WpOps.nil (thenK_at (Wp.seq ?_))
      refine Wp.region (by kernel_rfl) ?_
      refine kp 62 (.pointer (some ⟨0, 0, none⟩)) ?_
      refine kp 63 (.agg #[Value.int .i64 (↑n : Int), Value.iface 48 (Value.iface (List.length ls) (Value.iface x (Value.agg (List.toArray (lcs ls)))))]) ?_
      refine fr 64 14 [Value.agg #[Value.int .i64 (↑n : Int), Value.iface 48 (Value.iface (List.length ls) (Value.iface x (Value.agg (List.toArray (lcs ls)))))]] ?_
      refine WpFun.of (c1) ?_
      refine kp 65 (.pointer (some ⟨0, 2, none⟩)) ?_
      refine kp 66 (.iface 45 (Value.iface n (Value.iface 0 (Value.agg (List.toArray (List.map (fun r => FS 47 n 0 (List.toArray r)) (rowsM n f))))))) ?_
      refine fr 67 15 [Value.iface 45 (Value.iface n (Value.iface 0 (Value.agg (List.toArray (List.map (fun r => FS 47 n 0 (List.toArray r)) (rowsM n f))))))] ?_
      refine WpFun.of (t3) ?_
      refine fr 68 32 [Value.agg #[Value.int .i64 (↑n : Int), FS 48 (List.length ls) 0 (List.toArray (lcs ls))], Value.iface 92 (Value.iface n (Value.iface 0 (Value.agg (List.toArray (List.map (fun r => FS 93 n 0 (List.toArray r)) (rowsM n f))))))] ?_
      refine WpFun.of (l2) ?_
      refine kp 61 (.tuple #[Value.int .i64 (↑cnt : Int), Value.int .i64 0]) ?_
      refine kp 69 (.int IntKind.i64 (↑cnt : Int)) ?_
      refine kp 70 (.int IntKind.i64 0) ?_
      refine kp 10 (.int IntKind.i64 (↑cnt : Int)) ?_
      refine kp 8 (.int IntKind.i64 0) ?_
      refine WpOps.nil (thenK_at (Wp.seq (Wp.text ?_)))
      refine kp 71 (.int IntKind.i64 (↑cnt : Int)) ?_
      refine kp 72 (.int IntKind.i64 (↑cnt : Int)) ?_
      refine kp 73 (.bool true) ?_ (hop := fun _ => by_fact e2)
      refine kp 74 (.bool true) ?_
      refine kp 75 (.int IntKind.i64 0) ?_
      refine kp 76 (.int IntKind.i64 0) ?_
      refine kp 77 (.bool true) ?_
      refine kp 78 (.bool true) ?_
      refine kp 79 (.bool true) ?_
      refine fr 80 17 [] ?_
      refine WpFun.of (c0) ?_
      refine kp 81 (.bool true) ?_
      refine kp 2 (.bool true) ?_
      refine WpOps.nil (thenK_at (Wp.ret ?_))
      refine endK_retn [Value.bool true] (Value.bool true) (by kernel_rfl) (by kernel_rfl) ?_
      rfl
  · have hb' : tabOk N ls T = false := by simpa using hb
    have c2 := tables15 xt T hs1 hs2
    have t1 := tables40 N x ls xt T (valid25 N x ls (by omega)) (by omega) (fun p hp => by have := hs2 p hp; omega)
    have t2 := tables45 N 0 ls (if T.length = 0 then 2 else 0) (flipT T) (valid26 N 0 ls (by omega)) (by simp [flipT]; omega) (fun p hp => by have := flip_w hs2 p hp; omega)
    rw [tabOk_flip] at t2
    rw [hb'] at t1 t2
    have c3 := path28_bad N x ls xt T st to false t1 rfl
    have c4 := path29_bad N 0 ls (if T.length = 0 then 2 else 0) (flipT T) st to false t2 rfl
    have l1 := loops31_bad N x ls xt T t1
    have l2 := loops32_bad N 0 ls (if T.length = 0 then 2 else 0) (flipT T) t2
    rw [← tabT_F] at c4 l2
    have c5 := ints30n
    clear t1 t2
    refine Fun.of f7 rfl (of_decide_eq_true (by kernel_rfl)) rfl ?_
    unfold tabT at c2 c4 l2
    unfold netV at c1 c3 c4 l1 l2
    unfold lks tabF at *
    refine Wp.seq (Wp.text ?_)
    refine md 1 (.pointer (some ⟨0, 0, none⟩)) (Blk.mk 60 true [Value.int .i64 N, Value.iface 48 (Value.iface (List.length ls) (Value.iface x (Value.agg (List.toArray (lcs ls))))), Value.iface 45 (Value.iface (List.length T) (Value.iface xt (Value.agg (List.toArray (List.map (fun p => rowF 47 (Prod.fst p) (Prod.snd p)) T))))), Value.int .i64 st, Value.int .i64 to]) ?_
    refine kp 2 (.bool false) ?_
    refine WpOps.nil (thenK_at (Wp.seq (Wp.text ?_)))
    refine kp 12 (.pointer (some ⟨0, 0, none⟩)) ?_
    refine kp 13 (.agg #[Value.int .i64 N, Value.iface 48 (Value.iface (List.length ls) (Value.iface x (Value.agg (List.toArray (lcs ls)))))]) ?_
    refine kp 14 (.pointer (some ⟨0, 2, none⟩)) ?_
    refine kp 15 (.iface 45 (Value.iface (List.length T) (Value.iface xt (Value.agg (List.toArray (List.map (fun p => rowF 47 (Prod.fst p) (Prod.snd p)) T)))))) ?_
    refine kp 16 (.pointer (some ⟨0, 3, none⟩)) ?_
    refine kp 17 (.int IntKind.i64 st) ?_
    refine kp 18 (.pointer (some ⟨0, 4, none⟩)) ?_
    refine kp 19 (.int IntKind.i64 to) ?_
    refine fr 20 28 [Value.agg #[Value.int .i64 N, Value.iface 48 (Value.iface (List.length ls) (Value.iface x (Value.agg (List.toArray (lcs ls)))))], Value.iface 45 (Value.iface (List.length T) (Value.iface xt (Value.agg (List.toArray (List.map (fun p => rowF 47 (Prod.fst p) (Prod.snd p)) T))))), Value.int .i64 st, Value.int .i64 to] ?_
    refine WpFun.of (c3) ?_
    refine kp 11 (.tuple #[Value.iface 3 (Value.iface 0 (Value.iface 2 (Value.agg #[]))), Value.bool false, Value.int .i64 1]) ?_
    refine kp 21 (.iface 3 (Value.iface 0 (Value.iface 2 (Value.agg #[])))) ?_
    refine kp 22 (.bool false) ?_
    refine kp 23 (.int IntKind.i64 1) ?_
    refine kp 3 (.iface 3 (Value.iface 0 (Value.iface 2 (Value.agg #[])))) ?_
    refine kp 4 (.bool false) ?_
    refine kp 5 (.int IntKind.i64 1) ?_
    refine WpOps.nil (thenK_at (Wp.seq ?_))
    refine Wp.region (by kernel_rfl) ?_
    refine kp 25 (.pointer (some ⟨0, 0, none⟩)) ?_
    refine kp 26 (.agg #[Value.int .i64 N, Value.iface 48 (Value.iface (List.length ls) (Value.iface x (Value.agg (List.toArray (lcs ls)))))]) ?_
    refine fr 27 14 [Value.agg #[Value.int .i64 N, Value.iface 48 (Value.iface (List.length ls) (Value.iface x (Value.agg (List.toArray (lcs ls)))))]] ?_
    refine WpFun.of (c1) ?_
    refine kp 28 (.pointer (some ⟨0, 2, none⟩)) ?_
    refine kp 29 (.iface 45 (Value.iface (List.length T) (Value.iface xt (Value.agg (List.toArray (List.map (fun p => rowF 47 (Prod.fst p) (Prod.snd p)) T)))))) ?_
    refine fr 30 15 [Value.iface 45 (Value.iface (List.length T) (Value.iface xt (Value.agg (List.toArray (List.map (fun p => rowF 47 (Prod.fst p) (Prod.snd p)) T)))))] ?_
    refine WpFun.of (c2) ?_
    refine kp 31 (.pointer (some ⟨0, 3, none⟩)) ?_
    refine kp 32 (.int IntKind.i64 st) ?_
    refine kp 33 (.pointer (some ⟨0, 4, none⟩)) ?_
    refine kp 34 (.int IntKind.i64 to) ?_
    refine fr 35 29 [Value.agg #[Value.int .i64 N, FS 48 (List.length ls) 0 (List.toArray (lcs ls))], Value.iface 92 (Value.iface (List.length T) (Value.iface (if List.length T = 0 then 2 else 0) (Value.agg (List.toArray (ocs 93 T))))), Value.int .i64 st, Value.int .i64 to] ?_
    refine WpFun.of (c4) ?_
    refine kp 24 (.tuple #[Value.iface 3 (Value.iface 0 (Value.iface 2 (Value.agg #[]))), Value.bool false, Value.int .i64 1]) ?_
    refine kp 36 (.iface 3 (Value.iface 0 (Value.iface 2 (Value.agg #[])))) ?_
    refine kp 37 (.bool false) ?_
    refine kp 38 (.int IntKind.i64 1) ?_
    refine kp 6 (.iface 3 (Value.iface 0 (Value.iface 2 (Value.agg #[])))) ?_
    refine kp 7 (.bool false) ?_
    refine kp 8 (.int IntKind.i64 1) ?_
    refine WpOps.nil (thenK_at (Wp.seq (Wp.seq (Wp.text ?_))))
    refine kp 39 (.bool false) ?_
    refine kp 40 (.bool false) ?_
    refine kp 41 (.bool false) ?_
    refine kp 42 (.bool false) ?_
    refine kp 43 (.int IntKind.i64 1) ?_
    refine kp 44 (.int IntKind.i64 1) ?_
    refine kp 45 (.bool false) ?_
    refine kp 46 (.bool false) ?_
    refine kp 47 (.bool false) ?_
    refine kp 48 (.iface 3 (Value.iface 0 (Value.iface 2 (Value.agg #[])))) ?_
    refine kp 49 (.iface 3 (Value.iface 0 (Value.iface 2 (Value.agg #[])))) ?_
    refine fr 50 30 [Value.iface 3 (Value.iface 0 (Value.iface 2 (Value.agg #[]))), Value.iface 3 (Value.iface 0 (Value.iface 2 (Value.agg #[])))] ?_
    refine WpFun.of (c5) ?_
    refine kp 51 (.bool false) ?_
    refine kp 52 (.bool false) ?_
    refine WpOps.nil (thenK_at (off' (Wp.skip (thenK_at (Wp.seq (Wp.text ?_))))))
    refine kp 54 (.pointer (some ⟨0, 0, none⟩)) ?_
    refine kp 55 (.agg #[Value.int .i64 N, Value.iface 48 (Value.iface (List.length ls) (Value.iface x (Value.agg (List.toArray (lcs ls)))))]) ?_
    refine kp 56 (.pointer (some ⟨0, 2, none⟩)) ?_
    refine kp 57 (.iface 45 (Value.iface (List.length T) (Value.iface xt (Value.agg (List.toArray (List.map (fun p => rowF 47 (Prod.fst p) (Prod.snd p)) T)))))) ?_
    refine fr 58 31 [Value.agg #[Value.int .i64 N, Value.iface 48 (Value.iface (List.length ls) (Value.iface x (Value.agg (List.toArray (lcs ls)))))], Value.iface 45 (Value.iface (List.length T) (Value.iface xt (Value.agg (List.toArray (List.map (fun p => rowF 47 (Prod.fst p) (Prod.snd p)) T)))))] ?_
    refine WpFun.of (l1) ?_
    refine kp 53 (.tuple #[Value.int .i64 0, Value.int .i64 1]) ?_
    refine kp 59 (.int IntKind.i64 0) ?_
    refine kp 60 (.int IntKind.i64 1) ?_
    refine kp 9 (.int IntKind.i64 0) ?_
    refine kp 5 (.int IntKind.i64 1) ?_
    refine WpOps.nil (thenK_at (Wp.seq ?_))
    refine Wp.region (by kernel_rfl) ?_
    refine kp 62 (.pointer (some ⟨0, 0, none⟩)) ?_
    refine kp 63 (.agg #[Value.int .i64 N, Value.iface 48 (Value.iface (List.length ls) (Value.iface x (Value.agg (List.toArray (lcs ls)))))]) ?_
    refine fr 64 14 [Value.agg #[Value.int .i64 N, Value.iface 48 (Value.iface (List.length ls) (Value.iface x (Value.agg (List.toArray (lcs ls)))))]] ?_
    refine WpFun.of (c1) ?_
    refine kp 65 (.pointer (some ⟨0, 2, none⟩)) ?_
    refine kp 66 (.iface 45 (Value.iface (List.length T) (Value.iface xt (Value.agg (List.toArray (List.map (fun p => rowF 47 (Prod.fst p) (Prod.snd p)) T)))))) ?_
    refine fr 67 15 [Value.iface 45 (Value.iface (List.length T) (Value.iface xt (Value.agg (List.toArray (List.map (fun p => rowF 47 (Prod.fst p) (Prod.snd p)) T)))))] ?_
    refine WpFun.of (c2) ?_
    refine fr 68 32 [Value.agg #[Value.int .i64 N, FS 48 (List.length ls) 0 (List.toArray (lcs ls))], Value.iface 92 (Value.iface (List.length T) (Value.iface (if List.length T = 0 then 2 else 0) (Value.agg (List.toArray (ocs 93 T)))))] ?_
    refine WpFun.of (l2) ?_
    refine kp 61 (.tuple #[Value.int .i64 0, Value.int .i64 1]) ?_
    refine kp 69 (.int IntKind.i64 0) ?_
    refine kp 70 (.int IntKind.i64 1) ?_
    refine kp 10 (.int IntKind.i64 0) ?_
    refine kp 8 (.int IntKind.i64 1) ?_
    refine WpOps.nil (thenK_at (Wp.seq (Wp.text ?_)))
    refine kp 71 (.int IntKind.i64 0) ?_
    refine kp 72 (.int IntKind.i64 0) ?_
    refine kp 73 (.bool true) ?_
    refine kp 74 (.bool true) ?_
    refine kp 75 (.int IntKind.i64 1) ?_
    refine kp 76 (.int IntKind.i64 1) ?_
    refine kp 77 (.bool true) ?_
    refine kp 78 (.bool true) ?_
    refine kp 79 (.bool true) ?_
    refine fr 80 17 [] ?_
    refine WpFun.of (c0) ?_
    refine kp 81 (.bool true) ?_
    refine kp 2 (.bool true) ?_
    refine WpOps.nil (thenK_at (Wp.ret ?_))
    refine endK_retn [Value.bool true] (Value.bool true) (by kernel_rfl) (by kernel_rfl) ?_
    rfl
end Go.Proofs.Ytfjkanjmggbofaa.D
