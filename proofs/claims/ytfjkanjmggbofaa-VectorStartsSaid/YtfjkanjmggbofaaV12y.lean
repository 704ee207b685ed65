/- The law VectorStarts. -/
import Derived.Test.YtfjkanjmggbofaaFwLem
import Derived.Test.YtfjkanjmggbofaaFwCons
import Derived.Test.YtfjkanjmggbofaaV12p
import Derived.Test.YtfjkanjmggbofaaV12r
import Derived.Test.YtfjkanjmggbofaaV12u
namespace Go.Proofs.Ytfjkanjmggbofaa.D
open Go.Fw Go.RowKit

theorem f27 : E.funcs 27 = some Try.f27 := by kernel_rfl
theorem rows27 (N : Nat) (d : Mx) (hN : 1 ≤ N ∧ N ≤ 20) : Fun E 27 [matF 61 3 N (matC N d), matF 61 3 N (matC N d)] (.bool true) := by
  refine Fun.of f27 rfl (of_decide_eq_true (by kernel_rfl)) rfl ?_
  have d0 : ((N : Int) != (N : Int)) = false := by simp
  unfold matF
  refine Wp.seq (Wp.text ?_)
  refine kp 4 (.bool false) ?_
  refine WpOps.nil (thenK_at (Wp.seq (Wp.seq (Wp.text ?_))))
  refine kp 6 (.iface 61 (Value.iface N (Value.iface 0 (Value.agg (List.toArray (List.map (fun r => FS 3 N 0 (List.toArray r)) (matC N d))))))) ?_
  refine kp 7 (.int IntKind.i64 (↑N : Int)) ?_
  refine kp 8 (.iface 61 (Value.iface N (Value.iface 0 (Value.agg (List.toArray (List.map (fun r => FS 3 N 0 (List.toArray r)) (matC N d))))))) ?_
  refine kp 9 (.int IntKind.i64 (↑N : Int)) ?_
  refine kp 10 (.bool false) ?_ (hop := fun _ => by_fact d0)
  refine WpOps.nil (thenK_at (off' (Wp.skip (thenK_at (Wp.seq (Wp.seq (Wp.text ?_)))))))
  refine kp 5 (.int IntKind.i64 0) ?_
  refine WpOps.nil (thenK_at (Wp.block ?_))
  refine Wp.loop (G := Nat) (fun i => layj [(0, matF 61 3 N (matC N d)), (1, matF 61 3 N (matC N d)), (5, .int .i64 i)]) (fun _ => heapOf []) (fun i => N - i) (fun i => i ≤ N) 0
    (View.of [] [] _ (by decide) rfl trivial ⟨⟨by kernel_rfl, rfl⟩, ⟨by kernel_rfl, rfl⟩, ⟨by kernel_rfl, rfl⟩, trivial⟩) (Nat.zero_le _) ?_
  intro i hi
  unfold matF
  by_cases hlt : i < N
  · have d1 : decide ((i : Int) < N) = true := decide_eq_true (by omega)
    have g1 : 0 ≤ (i : Int) ∧ (i : Int) < N := by omega
    have u1 := matF_at 3 N (matC N d) (matC_at (c := d) hlt)
    have c1 := ints30 N (d i) (d i) (by omega)
    have e : (allR N fun j => d i j == d i j) = true := allR_true fun _ _ => by simp
    rw [e] at c1
    refine Wp.seq (Wp.seq (Wp.text ?_))
    refine kp 11 (.int IntKind.i64 (↑i : Int)) ?_
    refine kp 12 (.iface 61 (Value.iface N (Value.iface 0 (Value.agg (List.toArray (List.map (fun r => FS 3 N 0 (List.toArray r)) (matC N d))))))) ?_
    refine kp 13 (.int IntKind.i64 (↑N : Int)) ?_
    refine kp 14 (.bool true) ?_ (hop := fun _ => by_fact d1)
    refine WpOps.nil (thenK_at (on' (Wp.skip (thenK_at (Wp.seq (Wp.block (Wp.seq ?_)))))))
    refine Wp.region (by kernel_rfl) ?_
    refine kp 17 (.iface 61 (Value.iface N (Value.iface 0 (Value.agg (List.toArray (List.map (fun r => FS 3 N 0 (List.toArray r)) (matC N d))))))) ?_
    refine kp 18 (.int IntKind.i64 (↑i : Int)) ?_
    refine kp 19 (.iface 61 (Value.iface (Int.toNat (↑i : Int) * 1) (Value.agg (List.toArray (List.map (fun r => FS 3 N 0 (List.toArray r)) (matC N d)))))) ?_ (hop := fun _ => o_indexI (e := 61) (size := 1) (a := (↑i : Int)) g1)
    refine kp 20 (.iface 3 (Value.iface N (Value.iface 0 (Value.agg (List.toArray (List.map (fun j => Value.int .i64 (d i j)) (List.range N))))))) ?_ (hop := fun _ => o_loadI1 (Int.toNat (↑i : Int) * 1) u1)
    refine kp 21 (.iface 61 (Value.iface N (Value.iface 0 (Value.agg (List.toArray (List.map (fun r => FS 3 N 0 (List.toArray r)) (matC N d))))))) ?_
    refine kp 22 (.int IntKind.i64 (↑i : Int)) ?_
    refine kp 23 (.iface 61 (Value.iface (Int.toNat (↑i : Int) * 1) (Value.agg (List.toArray (List.map (fun r => FS 3 N 0 (List.toArray r)) (matC N d)))))) ?_ (hop := fun _ => o_indexI (e := 61) (size := 1) (a := (↑i : Int)) g1)
    refine kp 24 (.iface 3 (Value.iface N (Value.iface 0 (Value.agg (List.toArray (List.map (fun j => Value.int .i64 (d i j)) (List.range N))))))) ?_ (hop := fun _ => o_loadI1 (Int.toNat (↑i : Int) * 1) u1)
    refine fr 25 30 [Value.iface 3 (Value.iface N (Value.iface 0 (Value.agg (List.toArray (List.map (fun j => Value.int .i64 (d i j)) (List.range N)))))), Value.iface 3 (Value.iface N (Value.iface 0 (Value.agg (List.toArray (List.map (fun j => Value.int .i64 (d i j)) (List.range N))))))] ?_
    refine WpFun.of (c1) ?_
    refine kp 26 (.bool false) ?_
    refine WpOps.nil (thenK_at (off' (Wp.skip (blockK_norm (thenK_at (Wp.text ?_))))))
    refine kp 15 (.int IntKind.i64 (↑i : Int)) ?_
    refine kp 16 (.int IntKind.i64 (IntKind.wrap .i64 ((↑i : Int) + 1))) ?_
    refine kp 5 (.int IntKind.i64 (IntKind.wrap .i64 ((↑i : Int) + 1))) ?_
    refine WpOps.nil (thenK_at ?_)
    exact ⟨i + 1, by omega, by omega, View.of [] [] _ (by decide) rfl trivial ⟨⟨by kernel_rfl, rfl⟩, ⟨by kernel_rfl, rfl⟩, ⟨congrArg (Value.int .i64) (wr _ (by omega) (by omega)), rfl⟩, trivial⟩⟩
  · obtain rfl : N = i := by omega
    have d1 : decide ((N : Int) < N) = false := decide_eq_false (by omega)
    refine Wp.seq (Wp.seq (Wp.text ?_))
    refine kp 11 (.int IntKind.i64 (↑N : Int)) ?_
    refine kp 12 (.iface 61 (Value.iface N (Value.iface 0 (Value.agg (List.toArray (List.map (fun r => FS 3 N 0 (List.toArray r)) (matC N d))))))) ?_
    refine kp 13 (.int IntKind.i64 (↑N : Int)) ?_
    refine kp 14 (.bool false) ?_ (hop := fun _ => by_fact d1)
    refine WpOps.nil (thenK_at (off' (Wp.exit (thenK_exit (thenK_exit (blockK_hit (thenK_at (Wp.seq (Wp.text ?_)))))))))
    refine kp 4 (.bool true) ?_
    refine WpOps.nil (thenK_at (Wp.ret ?_))
    refine endK_retn [Value.bool true] (Value.bool true) (by kernel_rfl) (by kernel_rfl) ?_
    rfl
theorem rows27n : Fun E 27 [FS 61 0 2 #[], FS 61 0 2 #[]] (.bool true) := Fun.closed 50 (.bool true) (by kernel_rfl)
theorem f6 : E.funcs 6 = some Try.f6 := by kernel_rfl
set_option maxHeartbeats 4000000 in
theorem law6 (N : Int) (x : Nat) (ls : List Lk) (hy : ls.length * 24 ≤ 140737488351232) : Fun E 6 [netV N x ls] (.bool true) := by
  have c0 := sane17
  have c1 := to14 N x ls hy
  have v1 := valid25 N x ls (by omega)
  have v2 := valid26 N 0 ls (by omega)
  by_cases hv : valid N ls = true
  · obtain ⟨n, rfl, g⟩ := good_of hv
    rw [hv] at v1 v2
    have s1 := start21 n x ls g.hN v1
    have s2 := start22 n 0 ls g.hN v2
    have b1 := best23 n x ls g (by omega) v1
    have b2 := best24 n 0 ls g (by omega) v2
    have c5 := same16 n firstF firstF g.hN
    rw [eqT_self] at c5
    have c6 := rows27 n (rall n (d0 (cF ls)) n) g.hN
    generalize rall n (d0 (cF ls)) n = d at b1 b2 c6
    clear hv
    refine Fun.of f6 rfl (of_decide_eq_true (by kernel_rfl)) rfl ?_
    rw [tabM_eq, tabM_eq] at *
    unfold netV lks matF at *
    refine Wp.seq (Wp.text ?_)
    refine md 1 (.pointer (some ⟨0, 0, none⟩)) (Blk.mk 24 true [Value.int .i64 (↑n : Int), Value.iface 48 (Value.iface (List.length ls) (Value.iface x (Value.agg (List.toArray (lcs ls)))))]) ?_
    refine kp 2 (.bool false) ?_
    refine WpOps.nil (thenK_at (Wp.seq (Wp.text ?_)))
    refine kp 12 (.agg #[Value.int .i64 (↑n : Int), Value.iface 48 (Value.iface (List.length ls) (Value.iface x (Value.agg (List.toArray (lcs ls)))))]) ?_
    refine fr 13 21 [Value.agg #[Value.int .i64 (↑n : Int), Value.iface 48 (Value.iface (List.length ls) (Value.iface x (Value.agg (List.toArray (lcs ls)))))]] ?_
    refine WpFun.of (s1) ?_
    refine kp 11 (.tuple #[FS 45 n 0 (List.toArray (List.map (fun r => FS 47 n 0 (List.toArray r)) (rowsM n firstF))), Value.int .i64 0]) ?_
    refine kp 14 (.iface 45 (Value.iface n (Value.iface 0 (Value.agg (List.toArray (List.map (fun r => FS 47 n 0 (List.toArray r)) (rowsM n firstF))))))) ?_
    refine kp 15 (.int IntKind.i64 0) ?_
    refine kp 3 (.iface 45 (Value.iface n (Value.iface 0 (Value.agg (List.toArray (List.map (fun r => FS 47 n 0 (List.toArray r)) (rowsM n firstF))))))) ?_
    refine kp 4 (.int IntKind.i64 0) ?_
    refine WpOps.nil (thenK_at (Wp.seq (Wp.text ?_)))
    refine kp 17 (.agg #[Value.int .i64 (↑n : Int), Value.iface 48 (Value.iface (List.length ls) (Value.iface x (Value.agg (List.toArray (lcs ls)))))]) ?_
    refine fr 18 14 [Value.agg #[Value.int .i64 (↑n : Int), Value.iface 48 (Value.iface (List.length ls) (Value.iface x (Value.agg (List.toArray (lcs ls)))))]] ?_
    refine WpFun.of (c1) ?_
    refine fr 19 22 [Value.agg #[Value.int .i64 (↑n : Int), FS 48 (List.length ls) 0 (List.toArray (lcs ls))]] ?_
    refine WpFun.of (s2) ?_
    refine kp 16 (.tuple #[FS 92 n 0 (List.toArray (List.map (fun r => FS 93 n 0 (List.toArray r)) (rowsM n firstF))), Value.int .i64 0]) ?_
    refine kp 20 (.iface 92 (Value.iface n (Value.iface 0 (Value.agg (List.toArray (List.map (fun r => FS 93 n 0 (List.toArray r)) (rowsM n firstF))))))) ?_
    refine kp 21 (.int IntKind.i64 0) ?_
    refine kp 5 (.iface 92 (Value.iface n (Value.iface 0 (Value.agg (List.toArray (List.map (fun r => FS 93 n 0 (List.toArray r)) (rowsM n firstF))))))) ?_
    refine kp 6 (.int IntKind.i64 0) ?_
    refine WpOps.nil (thenK_at (Wp.seq (Wp.text ?_)))
    refine kp 23 (.agg #[Value.int .i64 (↑n : Int), Value.iface 48 (Value.iface (List.length ls) (Value.iface x (Value.agg (List.toArray (lcs ls)))))]) ?_
    refine fr 24 23 [Value.agg #[Value.int .i64 (↑n : Int), Value.iface 48 (Value.iface (List.length ls) (Value.iface x (Value.agg (List.toArray (lcs ls)))))]] ?_
    refine WpFun.of (b1) ?_
    refine kp 22 (.tuple #[FS 61 n 0 (List.toArray (List.map (fun r => FS 3 n 0 (List.toArray r)) (matC n d))), Value.int .i64 0]) ?_
    refine kp 25 (.iface 61 (Value.iface n (Value.iface 0 (Value.agg (List.toArray (List.map (fun r => FS 3 n 0 (List.toArray r)) (matC n d))))))) ?_
    refine kp 26 (.int IntKind.i64 0) ?_
    refine kp 7 (.iface 61 (Value.iface n (Value.iface 0 (Value.agg (List.toArray (List.map (fun r => FS 3 n 0 (List.toArray r)) (matC n d))))))) ?_
    refine kp 8 (.int IntKind.i64 0) ?_
    refine WpOps.nil (thenK_at (Wp.seq (Wp.text ?_)))
    refine kp 28 (.agg #[Value.int .i64 (↑n : Int), Value.iface 48 (Value.iface (List.length ls) (Value.iface x (Value.agg (List.toArray (lcs ls)))))]) ?_
    refine fr 29 14 [Value.agg #[Value.int .i64 (↑n : Int), Value.iface 48 (Value.iface (List.length ls) (Value.iface x (Value.agg (List.toArray (lcs ls)))))]] ?_
    refine WpFun.of (c1) ?_
    refine fr 30 24 [Value.agg #[Value.int .i64 (↑n : Int), FS 48 (List.length ls) 0 (List.toArray (lcs ls))]] ?_
    refine WpFun.of (b2) ?_
    refine kp 27 (.tuple #[FS 61 n 0 (List.toArray (List.map (fun r => FS 3 n 0 (List.toArray r)) (matC n d))), Value.int .i64 0]) ?_
    refine kp 31 (.iface 61 (Value.iface n (Value.iface 0 (Value.agg (List.toArray (List.map (fun r => FS 3 n 0 (List.toArray r)) (matC n d))))))) ?_
    refine kp 32 (.int IntKind.i64 0) ?_
    refine kp 9 (.iface 61 (Value.iface n (Value.iface 0 (Value.agg (List.toArray (List.map (fun r => FS 3 n 0 (List.toArray r)) (matC n d))))))) ?_
    refine kp 10 (.int IntKind.i64 0) ?_
    refine WpOps.nil (thenK_at (Wp.seq ?_))
    refine Wp.region (by kernel_rfl) ?_
    refine kp 33 (.agg #[Value.int .i64 (↑n : Int), Value.iface 48 (Value.iface (List.length ls) (Value.iface x (Value.agg (List.toArray (lcs ls)))))]) ?_
    refine fr 34 25 [Value.agg #[Value.int .i64 (↑n : Int), Value.iface 48 (Value.iface (List.length ls) (Value.iface x (Value.agg (List.toArray (lcs ls)))))]] ?_
    refine WpFun.of (v1) ?_
    refine kp 35 (.agg #[Value.int .i64 (↑n : Int), Value.iface 48 (Value.iface (List.length ls) (Value.iface x (Value.agg (List.toArray (lcs ls)))))]) ?_
    refine fr 36 14 [Value.agg #[Value.int .i64 (↑n : Int), Value.iface 48 (Value.iface (List.length ls) (Value.iface x (Value.agg (List.toArray (lcs ls)))))]] ?_
    refine WpFun.of (c1) ?_
    refine fr 37 26 [Value.agg #[Value.int .i64 (↑n : Int), FS 48 (List.length ls) 0 (List.toArray (lcs ls))]] ?_
    refine WpFun.of (v2) ?_
    refine kp 38 (.bool true) ?_
    refine kp 39 (.bool true) ?_
    refine kp 40 (.int IntKind.i64 0) ?_
    refine kp 41 (.int IntKind.i64 0) ?_
    refine kp 42 (.bool true) ?_
    refine kp 43 (.bool true) ?_
    refine kp 44 (.bool true) ?_
    refine kp 45 (.iface 45 (Value.iface n (Value.iface 0 (Value.agg (List.toArray (List.map (fun r => FS 47 n 0 (List.toArray r)) (rowsM n firstF))))))) ?_
    refine kp 46 (.iface 92 (Value.iface n (Value.iface 0 (Value.agg (List.toArray (List.map (fun r => FS 93 n 0 (List.toArray r)) (rowsM n firstF))))))) ?_
    refine fr 47 16 [Value.iface 45 (Value.iface n (Value.iface 0 (Value.agg (List.toArray (List.map (fun r => FS 47 n 0 (List.toArray r)) (rowsM n firstF)))))), Value.iface 92 (Value.iface n (Value.iface 0 (Value.agg (List.toArray (List.map (fun r => FS 93 n 0 (List.toArray r)) (rowsM n firstF))))))] ?_
    refine WpFun.of (c5) ?_
    refine kp 48 (.bool true) ?_
    refine kp 49 (.bool true) ?_
    refine kp 50 (.int IntKind.i64 0) ?_
    refine kp 51 (.int IntKind.i64 0) ?_
    refine kp 52 (.bool true) ?_
    refine kp 53 (.bool true) ?_
    refine kp 54 (.bool true) ?_
    refine kp 55 (.iface 61 (Value.iface n (Value.iface 0 (Value.agg (List.toArray (List.map (fun r => FS 3 n 0 (List.toArray r)) (matC n d))))))) ?_
    refine kp 56 (.iface 61 (Value.iface n (Value.iface 0 (Value.agg (List.toArray (List.map (fun r => FS 3 n 0 (List.toArray r)) (matC n d))))))) ?_
    refine fr 57 27 [Value.iface 61 (Value.iface n (Value.iface 0 (Value.agg (List.toArray (List.map (fun r => FS 3 n 0 (List.toArray r)) (matC n d)))))), Value.iface 61 (Value.iface n (Value.iface 0 (Value.agg (List.toArray (List.map (fun r => FS 3 n 0 (List.toArray r)) (matC n d))))))] ?_
    refine WpFun.of (c6) ?_
    refine kp 58 (.bool true) ?_
    refine kp 59 (.bool true) ?_
    refine fr 60 17 [] ?_
    refine WpFun.of (c0) ?_
    refine kp 61 (.bool true) ?_
    refine kp 2 (.bool true) ?_
    refine WpOps.nil (thenK_at (Wp.ret ?_))
    refine endK_retn [Value.bool true] (Value.bool true) (by kernel_rfl) (by kernel_rfl) ?_
    rfl
  · have hv' : valid N ls = false := by simpa using hv
    rw [hv'] at v1 v2
    have s1 := start21_bad N x ls v1
    have s2 := start22_bad N 0 ls v2
    have b1 := best23_bad N x ls v1
    have b2 := best24_bad N 0 ls v2
    have c5 := same16n
    have c6 := rows27n
    clear hv
    refine Fun.of f6 rfl (of_decide_eq_true (by kernel_rfl)) rfl ?_
    unfold netV lks at *
    refine Wp.seq (Wp.text ?_)
    refine md 1 (.pointer (some ⟨0, 0, none⟩)) (Blk.mk 24 true [Value.int .i64 N, Value.iface 48 (Value.iface (List.length ls) (Value.iface x (Value.agg (List.toArray (lcs ls)))))]) ?_
    refine kp 2 (.bool false) ?_
    refine WpOps.nil (thenK_at (Wp.seq (Wp.text ?_)))
    refine kp 12 (.agg #[Value.int .i64 N, Value.iface 48 (Value.iface (List.length ls) (Value.iface x (Value.agg (List.toArray (lcs ls)))))]) ?_
    refine fr 13 21 [Value.agg #[Value.int .i64 N, Value.iface 48 (Value.iface (List.length ls) (Value.iface x (Value.agg (List.toArray (lcs ls)))))]] ?_
    refine WpFun.of (s1) ?_
    refine kp 11 (.tuple #[Value.iface 45 (Value.iface 0 (Value.iface 2 (Value.agg #[]))), Value.int .i64 1]) ?_
    refine kp 14 (.iface 45 (Value.iface 0 (Value.iface 2 (Value.agg #[])))) ?_
    refine kp 15 (.int IntKind.i64 1) ?_
    refine kp 3 (.iface 45 (Value.iface 0 (Value.iface 2 (Value.agg #[])))) ?_
    refine kp 4 (.int IntKind.i64 1) ?_
    refine WpOps.nil (thenK_at (Wp.seq (Wp.text ?_)))
    refine kp 17 (.agg #[Value.int .i64 N, Value.iface 48 (Value.iface (List.length ls) (Value.iface x (Value.agg (List.toArray (lcs ls)))))]) ?_
    refine fr 18 14 [Value.agg #[Value.int .i64 N, Value.iface 48 (Value.iface (List.length ls) (Value.iface x (Value.agg (List.toArray (lcs ls)))))]] ?_
    refine WpFun.of (c1) ?_
    refine fr 19 22 [Value.agg #[Value.int .i64 N, FS 48 (List.length ls) 0 (List.toArray (lcs ls))]] ?_
    refine WpFun.of (s2) ?_
    refine kp 16 (.tuple #[Value.iface 92 (Value.iface 0 (Value.iface 2 (Value.agg #[]))), Value.int .i64 1]) ?_
    refine kp 20 (.iface 92 (Value.iface 0 (Value.iface 2 (Value.agg #[])))) ?_
    refine kp 21 (.int IntKind.i64 1) ?_
    refine kp 5 (.iface 92 (Value.iface 0 (Value.iface 2 (Value.agg #[])))) ?_
    refine kp 6 (.int IntKind.i64 1) ?_
    refine WpOps.nil (thenK_at (Wp.seq (Wp.text ?_)))
    refine kp 23 (.agg #[Value.int .i64 N, Value.iface 48 (Value.iface (List.length ls) (Value.iface x (Value.agg (List.toArray (lcs ls)))))]) ?_
    refine fr 24 23 [Value.agg #[Value.int .i64 N, Value.iface 48 (Value.iface (List.length ls) (Value.iface x (Value.agg (List.toArray (lcs ls)))))]] ?_
    refine WpFun.of (b1) ?_
    refine kp 22 (.tuple #[Value.iface 61 (Value.iface 0 (Value.iface 2 (Value.agg #[]))), Value.int .i64 1]) ?_
    refine kp 25 (.iface 61 (Value.iface 0 (Value.iface 2 (Value.agg #[])))) ?_
    refine kp 26 (.int IntKind.i64 1) ?_
    refine kp 7 (.iface 61 (Value.iface 0 (Value.iface 2 (Value.agg #[])))) ?_
    refine kp 8 (.int IntKind.i64 1) ?_
    refine WpOps.nil (thenK_at (Wp.seq (Wp.text ?_)))
    refine kp 28 (.agg #[Value.int .i64 N, Value.iface 48 (Value.iface (List.length ls) (Value.iface x (Value.agg (List.toArray (lcs ls)))))]) ?_
    refine fr 29 14 [Value.agg #[Value.int .i64 N, Value.iface 48 (Value.iface (List.length ls) (Value.iface x (Value.agg (List.toArray (lcs ls)))))]] ?_
    refine WpFun.of (c1) ?_
    refine fr 30 24 [Value.agg #[Value.int .i64 N, FS 48 (List.length ls) 0 (List.toArray (lcs ls))]] ?_
    refine WpFun.of (b2) ?_
    refine kp 27 (.tuple #[Value.iface 61 (Value.iface 0 (Value.iface 2 (Value.agg #[]))), Value.int .i64 1]) ?_
    refine kp 31 (.iface 61 (Value.iface 0 (Value.iface 2 (Value.agg #[])))) ?_
    refine kp 32 (.int IntKind.i64 1) ?_
    refine kp 9 (.iface 61 (Value.iface 0 (Value.iface 2 (Value.agg #[])))) ?_
    refine kp 10 (.int IntKind.i64 1) ?_
    refine WpOps.nil (thenK_at (Wp.seq ?_))
    refine Wp.region (by kernel_rfl) ?_
    refine kp 33 (.agg #[Value.int .i64 N, Value.iface 48 (Value.iface (List.length ls) (Value.iface x (Value.agg (List.toArray (lcs ls)))))]) ?_
    refine fr 34 25 [Value.agg #[Value.int .i64 N, Value.iface 48 (Value.iface (List.length ls) (Value.iface x (Value.agg (List.toArray (lcs ls)))))]] ?_
    refine WpFun.of (v1) ?_
    refine kp 35 (.agg #[Value.int .i64 N, Value.iface 48 (Value.iface (List.length ls) (Value.iface x (Value.agg (List.toArray (lcs ls)))))]) ?_
    refine fr 36 14 [Value.agg #[Value.int .i64 N, Value.iface 48 (Value.iface (List.length ls) (Value.iface x (Value.agg (List.toArray (lcs ls)))))]] ?_
    refine WpFun.of (c1) ?_
    refine fr 37 26 [Value.agg #[Value.int .i64 N, FS 48 (List.length ls) 0 (List.toArray (lcs ls))]] ?_
    refine WpFun.of (v2) ?_
    refine kp 38 (.bool true) ?_
    refine kp 39 (.bool true) ?_
    refine kp 40 (.int IntKind.i64 1) ?_
    refine kp 41 (.int IntKind.i64 1) ?_
    refine kp 42 (.bool true) ?_
    refine kp 43 (.bool true) ?_
    refine kp 44 (.bool true) ?_
    refine kp 45 (.iface 45 (Value.iface 0 (Value.iface 2 (Value.agg #[])))) ?_
    refine kp 46 (.iface 92 (Value.iface 0 (Value.iface 2 (Value.agg #[])))) ?_
    refine fr 47 16 [Value.iface 45 (Value.iface 0 (Value.iface 2 (Value.agg #[]))), Value.iface 92 (Value.iface 0 (Value.iface 2 (Value.agg #[])))] ?_
    refine WpFun.of (c5) ?_
    refine kp 48 (.bool true) ?_
    refine kp 49 (.bool true) ?_
    refine kp 50 (.int IntKind.i64 1) ?_
    refine kp 51 (.int IntKind.i64 1) ?_
    refine kp 52 (.bool true) ?_
    refine kp 53 (.bool true) ?_
    refine kp 54 (.bool true) ?_
    refine kp 55 (.iface 61 (Value.iface 0 (Value.iface 2 (Value.agg #[])))) ?_
    refine kp 56 (.iface 61 (Value.iface 0 (Value.iface 2 (Value.agg #[])))) ?_
    refine fr 57 27 [Value.iface 61 (Value.iface 0 (Value.iface 2 (Value.agg #[]))), Value.iface 61 (Value.iface 0 (Value.iface 2 (Value.agg #[])))] ?_
    refine WpFun.of (c6) ?_
    refine kp 58 (.bool true) ?_
    refine kp 59 (.bool true) ?_
    refine fr 60 17 [] ?_
    refine WpFun.of (c0) ?_
    refine kp 61 (.bool true) ?_
    refine kp 2 (.bool true) ?_
    refine WpOps.nil (thenK_at (Wp.ret ?_))
    refine endK_retn [Value.bool true] (Value.bool true) (by kernel_rfl) (by kernel_rfl) ?_
    rfl
end Go.Proofs.Ytfjkanjmggbofaa.D
