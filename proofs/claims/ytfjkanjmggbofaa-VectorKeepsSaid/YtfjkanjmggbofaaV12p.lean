/- The laws VectorRounds, VectorSettles. -/
import Derived.Test.YtfjkanjmggbofaaFwLem
import Derived.Test.YtfjkanjmggbofaaFwCons
import Derived.Test.YtfjkanjmggbofaaV12o
namespace Go.Proofs.Ytfjkanjmggbofaa.D
open Go.Fw Go.RowKit

/-- Tables that are handed in. -/
structure OkT (xt : Nat) (T : List (Nat × List Rt)) : Prop where
  x : xt = 0 ∨ (xt = 2 ∧ T = [])
  row : ∀ p ∈ T, p.1 = 0 ∨ (p.1 = 2 ∧ p.2 = [])
  size : T.length * 24 ≤ 140737488351232
  sizes : ∀ p ∈ T, p.2.length * 16 ≤ 140737488351232
def flipT (T : List (Nat × List Rt)) : List (Nat × List Rt) := T.map fun p => (if p.2.length = 0 then 2 else 0, p.2)
theorem tabT_F (T : List (Nat × List Rt)) : tabT T = tabF 92 93 (if T.length = 0 then 2 else 0) (flipT T) := by
  unfold tabT tabF flipT ocs
  rw [List.map_map, List.length_map]
  rfl
theorem flip_at (T : List (Nat × List Rt)) (i : Nat) : ((flipT T).getD i (0, [])).2 = (T.getD i (0, [])).2 := by
  unfold flipT
  by_cases hi : i < T.length
  · simp [List.getD_eq_getElem?_getD, List.getElem?_eq_getElem hi]
  · simp [List.getD_eq_getElem?_getD, List.getElem?_eq_none (show T.length ≤ i by omega)]
theorem tabOk_flip (N : Int) (ls : List Lk) (T : List (Nat × List Rt)) : tabOk N ls (flipT T) = tabOk N ls T := by
  unfold tabOk
  have h : (fun v : Nat => rowOk N ((flipT T).getD v (0, [])).2 v) = fun v : Nat => rowOk N (T.getD v (0, [])).2 v := by
    funext v
    rw [flip_at]
  have hl : (flipT T).length = T.length := by simp [flipT]
  rw [h, hl]
theorem flip_w {T : List (Nat × List Rt)} {b : Nat} (h : ∀ p ∈ T, p.2.length * 16 ≤ b) : ∀ p ∈ flipT T, p.2.length * 16 ≤ b := fun p hp => by
  obtain ⟨q, hq, rfl⟩ := List.mem_map.1 hp
  exact h q hq
theorem open_tab {N : Int} {x : Nat} {ls : List Lk} {xt : Nat} {T : List (Nat × List Rt)} (hy : ls.length * 24 ≤ 140737488351232) (ok : OkT xt T) (hb : tabOk N ls T = true) : ∃ (n : Nat) (f : Nat → Nat → Rt), N = n ∧ Good n ls ∧ GoodT n f ∧ xt = 0 ∧ T = matT n f ∧
    Fun E 40 [netV n x ls, tabM 45 47 n f] (.bool true) ∧ Fun E 45 [netV n 0 ls, tabM 92 93 n f] (.bool true) ∧ Fun E 15 [tabM 45 47 n f] (tabM 92 93 n f) := by
  have hvl : valid N ls = true := by
    unfold tabOk at hb
    simp only [Bool.and_eq_true] at hb
    exact hb.1.1
  obtain ⟨n, rfl, g⟩ := good_of hvl
  obtain ⟨hl, hr, gt⟩ := goodT_of hb
  have hx0 : xt = 0 := by
    rcases ok.x with h | ⟨_, h⟩
    · exact h
    · have := g.hN
      rw [h] at hl
      simp at hl
      omega
  have h0 : ∀ p ∈ T, p.1 = 0 := fun p hp => by
    rcases ok.row p hp with h | ⟨_, h⟩
    · exact h
    · have h1 := hr p hp
      have := g.hN
      rw [h] at h1
      simp at h1
      omega
  have hT := tab_is hl hr h0
  have hs1 := ok.size
  have hs2 := ok.sizes
  subst hx0
  have t1 := tables40 n x ls 0 T (valid25 n x ls (by omega)) (by omega) (fun p hp => by have := hs2 p hp; omega)
  have t2 := tables45 n 0 ls 0 T (valid26 n 0 ls (by omega)) (by omega) (fun p hp => by have := hs2 p hp; omega)
  have t3 := tables15 0 T hs1 hs2
  rw [hb] at t1 t2
  generalize hf : tf T = f at hT gt
  rw [hT] at t1 t2 t3
  rw [tabT_M n f g.hN.1] at t3
  exact ⟨n, f, rfl, g, gt, rfl, hT, t1, t2, t3⟩
theorem f4 : E.funcs 4 = some Try.f4 := by kernel_rfl
set_option maxHeartbeats 4000000 in
theorem law4 (N : Int) (x : Nat) (ls : List Lk) (xt : Nat) (T : List (Nat × List Rt)) (poison : Bool) (hy : ls.length * 24 ≤ 140737488351232) (ok : OkT xt T) : Fun E 4 [netV N x ls, tabF 45 47 xt T, .bool poison] (.bool true) := by
  have c0 := sane17
  have c1 := to14 N x ls hy
  by_cases hb : tabOk N ls T = true
  · obtain ⟨n, f, rfl, g, gt, rfl, rfl, t1, t2, t3⟩ := open_tab (x := x) hy ok hb
    have c3 := round18_ok n x ls f poison g.hN g.hl (by omega) gt.range t1
    have c4 := round19_ok n 0 ls f poison (round47 n 0 ls f poison g.hN (by omega) gt.range gt.diag g.range g.diag) t2
    rw [g.same] at c3
    have c5 := same16 n (roundF n (cF ls) poison f) (roundF n (cF ls) poison f) g.hN
    rw [eqT_self] at c5
    show Fun E 4 [netV n x ls, tabM 45 47 n f, .bool poison] (.bool true)
    clear t1 t2 hb
    refine Fun.of f4 rfl (of_decide_eq_true (by kernel_rfl)) rfl ?_
    rw [tabM_eq, tabM_eq] at *
    unfold netV lks matF at *
    refine Wp.seq (Wp.text ?_)
    refine md 3 (.pointer (some ⟨0, 0, none⟩)) (Blk.mk 24 true [Value.int .i64 (↑n : Int), Value.iface 48 (Value.iface (List.length ls) (Value.iface x (Value.agg (List.toArray (lcs ls)))))]) ?_
    refine kp 6 (.bool false) ?_
    refine WpOps.nil (thenK_at (Wp.seq (Wp.text ?_)))
    refine kp 12 (.agg #[Value.int .i64 (↑n : Int), Value.iface 48 (Value.iface (List.length ls) (Value.iface x (Value.agg (List.toArray (lcs ls)))))]) ?_
    refine kp 13 (.iface 45 (Value.iface n (Value.iface 0 (Value.agg (List.toArray (List.map (fun r => FS 47 n 0 (List.toArray r)) (rowsM n f))))))) ?_
    refine kp 14 (.bool poison) ?_
    refine cl 15 18 [Value.agg #[Value.int .i64 (↑n : Int), Value.iface 48 (Value.iface (List.length ls) (Value.iface x (Value.agg (List.toArray (lcs ls)))))], Value.iface 45 (Value.iface n (Value.iface 0 (Value.agg (List.toArray (List.map (fun r => FS 47 n 0 (List.toArray r)) (rowsM n f)))))), Value.bool poison] ?_
    refine WpCall.consume [0] (c3) (by kernel_rfl) (by kernel_rfl) ?_
    refine kp 11 (.tuple #[FS 45 n 0 (List.toArray (List.map (fun r => FS 47 n 0 (List.toArray r)) (rowsM n (roundF n (cF ls) poison f)))), Value.int .i64 0]) ?_
    refine kp 16 (.iface 45 (Value.iface n (Value.iface 0 (Value.agg (List.toArray (List.map (fun r => FS 47 n 0 (List.toArray r)) (rowsM n (roundF n (cF ls) poison f)))))))) ?_
    refine kp 17 (.int IntKind.i64 0) ?_
    refine kp 7 (.iface 45 (Value.iface n (Value.iface 0 (Value.agg (List.toArray (List.map (fun r => FS 47 n 0 (List.toArray r)) (rowsM n (roundF n (cF ls) poison f)))))))) ?_
    refine kp 8 (.int IntKind.i64 0) ?_
    refine WpOps.nil (thenK_at (Wp.seq (Wp.text ?_)))
    refine kp 19 (.agg #[Value.int .i64 (↑n : Int), Value.iface 48 (Value.iface (List.length ls) (Value.iface x (Value.agg (List.toArray (lcs ls)))))]) ?_
    refine fr 20 14 [Value.agg #[Value.int .i64 (↑n : Int), Value.iface 48 (Value.iface (List.length ls) (Value.iface x (Value.agg (List.toArray (lcs ls)))))]] ?_
    refine WpFun.of (c1) ?_
    refine kp 21 (.iface 45 (Value.iface n (Value.iface 0 (Value.agg (List.toArray (List.map (fun r => FS 47 n 0 (List.toArray r)) (rowsM n f))))))) ?_
    refine cl 22 15 [Value.iface 45 (Value.iface n (Value.iface 0 (Value.agg (List.toArray (List.map (fun r => FS 47 n 0 (List.toArray r)) (rowsM n f))))))] ?_
    refine WpCall.consume [0] (t3) (by kernel_rfl) (by kernel_rfl) ?_
    refine kp 23 (.bool poison) ?_
    refine fr 24 19 [Value.agg #[Value.int .i64 (↑n : Int), FS 48 (List.length ls) 0 (List.toArray (lcs ls))], Value.iface 92 (Value.iface n (Value.iface 0 (Value.agg (List.toArray (List.map (fun r => FS 93 n 0 (List.toArray r)) (rowsM n f)))))), Value.bool poison] ?_
    refine WpFun.of (c4) ?_
    refine kp 18 (.tuple #[FS 92 n 0 (List.toArray (List.map (fun r => FS 93 n 0 (List.toArray r)) (rowsM n (roundF n (cF ls) poison f)))), Value.int .i64 0]) ?_
    refine kp 25 (.iface 92 (Value.iface n (Value.iface 0 (Value.agg (List.toArray (List.map (fun r => FS 93 n 0 (List.toArray r)) (rowsM n (roundF n (cF ls) poison f)))))))) ?_
    refine kp 26 (.int IntKind.i64 0) ?_
    refine kp 9 (.iface 92 (Value.iface n (Value.iface 0 (Value.agg (List.toArray (List.map (fun r => FS 93 n 0 (List.toArray r)) (rowsM n (roundF n (cF ls) poison f)))))))) ?_
    refine kp 10 (.int IntKind.i64 0) ?_
    refine WpOps.nil (thenK_at (Wp.seq (Wp.text ?_)))
    refine kp 27 (.int IntKind.i64 0) ?_
    refine kp 28 (.int IntKind.i64 0) ?_
    refine kp 29 (.bool true) ?_
    refine kp 30 (.bool true) ?_
    refine kp 31 (.iface 45 (Value.iface n (Value.iface 0 (Value.agg (List.toArray (List.map (fun r => FS 47 n 0 (List.toArray r)) (rowsM n (roundF n (cF ls) poison f)))))))) ?_
    refine kp 32 (.iface 92 (Value.iface n (Value.iface 0 (Value.agg (List.toArray (List.map (fun r => FS 93 n 0 (List.toArray r)) (rowsM n (roundF n (cF ls) poison f)))))))) ?_
    refine fr 33 16 [Value.iface 45 (Value.iface n (Value.iface 0 (Value.agg (List.toArray (List.map (fun r => FS 47 n 0 (List.toArray r)) (rowsM n (roundF n (cF ls) poison f))))))), Value.iface 92 (Value.iface n (Value.iface 0 (Value.agg (List.toArray (List.map (fun r => FS 93 n 0 (List.toArray r)) (rowsM n (roundF n (cF ls) poison f)))))))] ?_
    refine WpFun.of (c5) ?_
    refine kp 34 (.bool true) ?_
    refine kp 35 (.bool true) ?_
    refine fr 36 17 [] ?_
    refine WpFun.of (c0) ?_
    refine kp 37 (.bool true) ?_
    refine kp 6 (.bool true) ?_
    refine WpOps.nil (thenK_at (Wp.ret ?_))
    refine endK_retn [Value.bool true] (Value.bool true) (by kernel_rfl) (by kernel_rfl) ?_
    rfl
  · have hb' : tabOk N ls T = false := by simpa using hb
    have hs1 := ok.size
    have hs2 := ok.sizes
    have c2 := tables15 xt T hs1 hs2
    have c3 := round18_bad N x ls xt T poison hb' (valid25 N x ls (by omega)) (by omega) (fun p hp => by have := hs2 p hp; omega)
    have c4 := round19_bad N 0 ls (if T.length = 0 then 2 else 0) (flipT T) poison (by rw [tabOk_flip]; exact hb') (by omega) (by simp [flipT]; omega) (fun p hp => by have := flip_w hs2 p hp; omega)
    rw [← tabT_F] at c4
    have c5 := same16n
    refine Fun.of f4 rfl (of_decide_eq_true (by kernel_rfl)) rfl ?_
    unfold tabT at c2 c4
    unfold netV lks tabF at *
    refine Wp.seq (Wp.text ?_)
    refine md 3 (.pointer (some ⟨0, 0, none⟩)) (Blk.mk 24 true [Value.int .i64 N, Value.iface 48 (Value.iface (List.length ls) (Value.iface x (Value.agg (List.toArray (lcs ls)))))]) ?_
    refine kp 6 (.bool false) ?_
    refine WpOps.nil (thenK_at (Wp.seq (Wp.text ?_)))
    refine kp 12 (.agg #[Value.int .i64 N, Value.iface 48 (Value.iface (List.length ls) (Value.iface x (Value.agg (List.toArray (lcs ls)))))]) ?_
    refine kp 13 (.iface 45 (Value.iface (List.length T) (Value.iface xt (Value.agg (List.toArray (List.map (fun p => rowF 47 (Prod.fst p) (Prod.snd p)) T)))))) ?_
    refine kp 14 (.bool poison) ?_
    refine cl 15 18 [Value.agg #[Value.int .i64 N, Value.iface 48 (Value.iface (List.length ls) (Value.iface x (Value.agg (List.toArray (lcs ls)))))], Value.iface 45 (Value.iface (List.length T) (Value.iface xt (Value.agg (List.toArray (List.map (fun p => rowF 47 (Prod.fst p) (Prod.snd p)) T))))), Value.bool poison] ?_
    refine WpCall.consume [0] (c3) (by kernel_rfl) (by kernel_rfl) ?_
    refine kp 11 (.tuple #[Value.iface 45 (Value.iface 0 (Value.iface 2 (Value.agg #[]))), Value.int .i64 1]) ?_
    refine kp 16 (.iface 45 (Value.iface 0 (Value.iface 2 (Value.agg #[])))) ?_
    refine kp 17 (.int IntKind.i64 1) ?_
    refine kp 7 (.iface 45 (Value.iface 0 (Value.iface 2 (Value.agg #[])))) ?_
    refine kp 8 (.int IntKind.i64 1) ?_
    refine WpOps.nil (thenK_at (Wp.seq (Wp.text ?_)))
    refine kp 19 (.agg #[Value.int .i64 N, Value.iface 48 (Value.iface (List.length ls) (Value.iface x (Value.agg (List.toArray (lcs ls)))))]) ?_
    refine fr 20 14 [Value.agg #[Value.int .i64 N, Value.iface 48 (Value.iface (List.length ls) (Value.iface x (Value.agg (List.toArray (lcs ls)))))]] ?_
    refine WpFun.of (c1) ?_
    refine kp 21 (.iface 45 (Value.iface (List.length T) (Value.iface xt (Value.agg (List.toArray (List.map (fun p => rowF 47 (Prod.fst p) (Prod.snd p)) T)))))) ?_
    refine cl 22 15 [Value.iface 45 (Value.iface (List.length T) (Value.iface xt (Value.agg (List.toArray (List.map (fun p => rowF 47 (Prod.fst p) (Prod.snd p)) T)))))] ?_
    refine WpCall.consume [0] (c2) (by kernel_rfl) (by kernel_rfl) ?_
    refine kp 23 (.bool poison) ?_
    refine fr 24 19 [Value.agg #[Value.int .i64 N, FS 48 (List.length ls) 0 (List.toArray (lcs ls))], Value.iface 92 (Value.iface (List.length T) (Value.iface (if List.length T = 0 then 2 else 0) (Value.agg (List.toArray (ocs 93 T))))), Value.bool poison] ?_
    refine WpFun.of (c4) ?_
    refine kp 18 (.tuple #[Value.iface 92 (Value.iface 0 (Value.iface 2 (Value.agg #[]))), Value.int .i64 1]) ?_
    refine kp 25 (.iface 92 (Value.iface 0 (Value.iface 2 (Value.agg #[])))) ?_
    refine kp 26 (.int IntKind.i64 1) ?_
    refine kp 9 (.iface 92 (Value.iface 0 (Value.iface 2 (Value.agg #[])))) ?_
    refine kp 10 (.int IntKind.i64 1) ?_
    refine WpOps.nil (thenK_at (Wp.seq (Wp.text ?_)))
    refine kp 27 (.int IntKind.i64 1) ?_
    refine kp 28 (.int IntKind.i64 1) ?_
    refine kp 29 (.bool true) ?_
    refine kp 30 (.bool true) ?_
    refine kp 31 (.iface 45 (Value.iface 0 (Value.iface 2 (Value.agg #[])))) ?_
    refine kp 32 (.iface 92 (Value.iface 0 (Value.iface 2 (Value.agg #[])))) ?_
    refine fr 33 16 [Value.iface 45 (Value.iface 0 (Value.iface 2 (Value.agg #[]))), Value.iface 92 (Value.iface 0 (Value.iface 2 (Value.agg #[])))] ?_
    refine WpFun.of (c5) ?_
    refine kp 34 (.bool true) ?_
    refine kp 35 (.bool true) ?_
    refine fr 36 17 [] ?_
    refine WpFun.of (c0) ?_
    refine kp 37 (.bool true) ?_
    refine kp 6 (.bool true) ?_
    refine WpOps.nil (thenK_at (Wp.ret ?_))
    refine endK_retn [Value.bool true] (Value.bool true) (by kernel_rfl) (by kernel_rfl) ?_
    rfl
theorem f3 : E.funcs 3 = some Try.f3 := by kernel_rfl
set_option maxHeartbeats 4000000 in
theorem law3 (N : Int) (x : Nat) (ls : List Lk) (xt : Nat) (T : List (Nat × List Rt)) (poison : Bool) (most : Int) (hy : ls.length * 24 ≤ 140737488351232) (ok : OkT xt T) : Fun E 3 [.agg #[.int .i64 N, lks x ls, tabF 45 47 xt T, .bool poison, .int .i64 most]] (.bool true) := by
  have c0 := sane17
  have c1 := to14 N x ls hy
  have hs1 := ok.size
  have hs2 := ok.sizes
  by_cases hm : okMost (tabOk N ls T) most = true
  · have hb : tabOk N ls T = true := by
      unfold okMost at hm
      simp only [Bool.and_eq_true] at hm
      exact hm.1.1
    rw [hb] at hm
    unfold okMost at hm
    simp only [Bool.and_eq_true, decide_eq_true_eq] at hm
    obtain ⟨m, rfl⟩ := Int.eq_ofNat_of_zero_le hm.1.2
    obtain ⟨n, f, rfl, g, gt, rfl, rfl, t1, t2, t3⟩ := open_tab (x := x) hy ok hb
    have c3 := settle12_ok n x ls f poison m (by omega) g.hN t1 (fun k => roundF42 n x ls _ poison g.hN g.hl (by omega) (it_range (cAt_range g.hl) gt.range k))
    have c4 := settle13_ok n 0 ls f poison m (by omega) g.hN t2 (fun k => round47 n 0 ls _ poison g.hN (by omega) (it_range g.range gt.range k) (it_diag gt.diag k) g.range g.diag)
    rw [g.same] at c3
    generalize stop n (cF ls) poison f m = s at c3 c4
    have c5 := same16 n (it n (cF ls) poison f s) (it n (cF ls) poison f s) g.hN
    rw [eqT_self] at c5
    show Fun E 3 [.agg #[.int .i64 n, lks x ls, tabM 45 47 n f, .bool poison, .int .i64 m]] (.bool true)
    have e1 : ((s : Int) == (s : Int)) = true := by simp
    clear t1 t2 hb hm
    refine Fun.of f3 rfl (of_decide_eq_true (by kernel_rfl)) rfl ?_
    rw [tabM_eq, tabM_eq] at *
    unfold netV at c1 c3 c4
    unfold lks matF at *
    refine Wp.seq (Wp.text ?_)
    refine md 1 (.pointer (some ⟨0, 0, none⟩)) (Blk.mk 27 true [Value.int .i64 (↑n : Int), Value.iface 48 (Value.iface (List.length ls) (Value.iface x (Value.agg (List.toArray (lcs ls))))), Value.iface 45 (Value.iface n (Value.iface 0 (Value.agg (List.toArray (List.map (fun r => FS 47 n 0 (List.toArray r)) (rowsM n f)))))), Value.bool poison, Value.int .i64 (↑m : Int)]) ?_
    refine kp 2 (.bool false) ?_
    refine WpOps.nil (thenK_at (Wp.seq (Wp.text ?_)))
    refine kp 10 (.pointer (some ⟨0, 0, none⟩)) ?_
    refine kp 11 (.agg #[Value.int .i64 (↑n : Int), Value.iface 48 (Value.iface (List.length ls) (Value.iface x (Value.agg (List.toArray (lcs ls)))))]) ?_
    refine kp 12 (.pointer (some ⟨0, 2, none⟩)) ?_
    refine kp 13 (.iface 45 (Value.iface n (Value.iface 0 (Value.agg (List.toArray (List.map (fun r => FS 47 n 0 (List.toArray r)) (rowsM n f))))))) ?_
    refine kp 14 (.pointer (some ⟨0, 3, none⟩)) ?_
    refine kp 15 (.bool poison) ?_
    refine kp 16 (.pointer (some ⟨0, 4, none⟩)) ?_
    refine kp 17 (.int IntKind.i64 (↑m : Int)) ?_
    refine fr 18 12 [Value.agg #[Value.int .i64 (↑n : Int), Value.iface 48 (Value.iface (List.length ls) (Value.iface x (Value.agg (List.toArray (lcs ls)))))], Value.iface 45 (Value.iface n (Value.iface 0 (Value.agg (List.toArray (List.map (fun r => FS 47 n 0 (List.toArray r)) (rowsM n f)))))), Value.bool poison, Value.int .i64 (↑m : Int)] ?_
    refine WpFun.of (c3) ?_
    refine kp 9 (.tuple #[FS 45 n 0 (List.toArray (List.map (fun r => FS 47 n 0 (List.toArray r)) (rowsM n (it n (cF ls) poison f s)))), Value.int .i64 (↑s : Int), Value.int .i64 0]) ?_
    refine kp 19 (.iface 45 (Value.iface n (Value.iface 0 (Value.agg (List.toArray (List.map (fun r => FS 47 n 0 (List.toArray r)) (rowsM n (it n (cF ls) poison f s)))))))) ?_
    refine kp 20 (.int IntKind.i64 (↑s : Int)) ?_
    refine kp 21 (.int IntKind.i64 0) ?_
    refine kp 3 (.iface 45 (Value.iface n (Value.iface 0 (Value.agg (List.toArray (List.map (fun r => FS 47 n 0 (List.toArray r)) (rowsM n (it n (cF ls) poison f s)))))))) ?_
    refine kp 4 (.int IntKind.i64 (↑s : Int)) ?_
    refine kp 5 (.int IntKind.i64 0) ?_
    refine WpOps.nil (thenK_at (Wp.seq ?_))
    refine Wp.region (by kernel_rfl) ?_
    refine kp 23 (.pointer (some ⟨0, 0, none⟩)) ?_
    refine kp 24 (.agg #[Value.int .i64 (↑n : Int), Value.iface 48 (Value.iface (List.length ls) (Value.iface x (Value.agg (List.toArray (lcs ls)))))]) ?_
    refine fr 25 14 [Value.agg #[Value.int .i64 (↑n : Int), Value.iface 48 (Value.iface (List.length ls) (Value.iface x (Value.agg (List.toArray (lcs ls)))))]] ?_
    refine WpFun.of (c1) ?_
    refine kp 26 (.pointer (some ⟨0, 2, none⟩)) ?_
    refine kp 27 (.iface 45 (Value.iface n (Value.iface 0 (Value.agg (List.toArray (List.map (fun r => FS 47 n 0 (List.toArray r)) (rowsM n f))))))) ?_
    refine clr 28 15 [Value.iface 45 (Value.iface n (Value.iface 0 (Value.agg (List.toArray (List.map (fun r => FS 47 n 0 (List.toArray r)) (rowsM n f))))))] ?_
    refine WpCall.consume [0] (t3) (by kernel_rfl) (by kernel_rfl) ?_
    refine kp 29 (.pointer (some ⟨0, 3, none⟩)) ?_
    refine kp 30 (.bool poison) ?_
    refine kp 31 (.pointer (some ⟨0, 4, none⟩)) ?_
    refine kp 32 (.int IntKind.i64 (↑m : Int)) ?_
    refine fr 33 13 [Value.agg #[Value.int .i64 (↑n : Int), FS 48 (List.length ls) 0 (List.toArray (lcs ls))], Value.iface 92 (Value.iface n (Value.iface 0 (Value.agg (List.toArray (List.map (fun r => FS 93 n 0 (List.toArray r)) (rowsM n f)))))), Value.bool poison, Value.int .i64 (↑m : Int)] ?_
    refine WpFun.of (c4) ?_
    refine kp 22 (.tuple #[FS 92 n 0 (List.toArray (List.map (fun r => FS 93 n 0 (List.toArray r)) (rowsM n (it n (cF ls) poison f s)))), Value.int .i64 (↑s : Int), Value.int .i64 0]) ?_
    refine kp 34 (.iface 92 (Value.iface n (Value.iface 0 (Value.agg (List.toArray (List.map (fun r => FS 93 n 0 (List.toArray r)) (rowsM n (it n (cF ls) poison f s)))))))) ?_
    refine kp 35 (.int IntKind.i64 (↑s : Int)) ?_
    refine kp 36 (.int IntKind.i64 0) ?_
    refine kp 6 (.iface 92 (Value.iface n (Value.iface 0 (Value.agg (List.toArray (List.map (fun r => FS 93 n 0 (List.toArray r)) (rowsM n (it n (cF ls) poison f s)))))))) ?_
    refine kp 7 (.int IntKind.i64 (↑s : Int)) ?_
    refine kp 8 (.int IntKind.i64 0) ?_
    refine WpOps.nil (thenK_at (Wp.seq (Wp.text ?_)))
    refine kp 37 (.int IntKind.i64 (↑s : Int)) ?_
    refine kp 38 (.int IntKind.i64 (↑s : Int)) ?_
    refine kp 39 (.bool true) ?_ (hop := fun _ => by_fact e1)
    refine kp 40 (.bool true) ?_
    refine kp 41 (.int IntKind.i64 0) ?_
    refine kp 42 (.int IntKind.i64 0) ?_
    refine kp 43 (.bool true) ?_
    refine kp 44 (.bool true) ?_
    refine kp 45 (.bool true) ?_
    refine kp 46 (.iface 45 (Value.iface n (Value.iface 0 (Value.agg (List.toArray (List.map (fun r => FS 47 n 0 (List.toArray r)) (rowsM n (it n (cF ls) poison f s)))))))) ?_
    refine kp 47 (.iface 92 (Value.iface n (Value.iface 0 (Value.agg (List.toArray (List.map (fun r => FS 93 n 0 (List.toArray r)) (rowsM n (it n (cF ls) poison f s)))))))) ?_
    refine fr 48 16 [Value.iface 45 (Value.iface n (Value.iface 0 (Value.agg (List.toArray (List.map (fun r => FS 47 n 0 (List.toArray r)) (rowsM n (it n (cF ls) poison f s))))))), Value.iface 92 (Value.iface n (Value.iface 0 (Value.agg (List.toArray (List.map (fun r => FS 93 n 0 (List.toArray r)) (rowsM n (it n (cF ls) poison f s)))))))] ?_
    refine WpFun.of (c5) ?_
    refine kp 49 (.bool true) ?_
    refine kp 50 (.bool true) ?_
    refine fr 51 17 [] ?_
    refine WpFun.of (c0) ?_
    refine kp 52 (.bool true) ?_
    refine kp 2 (.bool true) ?_
    refine WpOps.nil (thenK_at (Wp.ret ?_))
    refine endK_retn [Value.bool true] (Value.bool true) (by kernel_rfl) (by kernel_rfl) ?_
    rfl
  · have hm' : okMost (tabOk N ls T) most = false := by simpa using hm
    have c2 := tables15 xt T hs1 hs2
    have c3 := settle12_bad N x ls xt T poison most _ (tables40 N x ls xt T (valid25 N x ls (by omega)) (by omega) (fun p hp => by have := hs2 p hp; omega)) hm'
    have c4 := settle13_bad N 0 ls (if T.length = 0 then 2 else 0) (flipT T) poison most _ (tables45 N 0 ls (if T.length = 0 then 2 else 0) (flipT T) (valid26 N 0 ls (by omega)) (by simp [flipT]; omega) (fun p hp => by have := flip_w hs2 p hp; omega)) (by rw [tabOk_flip]; exact hm')
    rw [← tabT_F] at c4
    have c5 := same16n
    refine Fun.of f3 rfl (of_decide_eq_true (by kernel_rfl)) rfl ?_
    unfold tabT at c2 c4
    unfold netV at c1 c3 c4
    unfold lks tabF at *
    refine Wp.seq (Wp.text ?_)
    refine md 1 (.pointer (some ⟨0, 0, none⟩)) (Blk.mk 27 true [Value.int .i64 N, Value.iface 48 (Value.iface (List.length ls) (Value.iface x (Value.agg (List.toArray (lcs ls))))), Value.iface 45 (Value.iface (List.length T) (Value.iface xt (Value.agg (List.toArray (List.map (fun p => rowF 47 (Prod.fst p) (Prod.snd p)) T))))), Value.bool poison, Value.int .i64 most]) ?_
    refine kp 2 (.bool false) ?_
    refine WpOps.nil (thenK_at (Wp.seq (Wp.text ?_)))
    refine kp 10 (.pointer (some ⟨0, 0, none⟩)) ?_
    refine kp 11 (.agg #[Value.int .i64 N, Value.iface 48 (Value.iface (List.length ls) (Value.iface x (Value.agg (List.toArray (lcs ls)))))]) ?_
    refine kp 12 (.pointer (some ⟨0, 2, none⟩)) ?_
    refine kp 13 (.iface 45 (Value.iface (List.length T) (Value.iface xt (Value.agg (List.toArray (List.map (fun p => rowF 47 (Prod.fst p) (Prod.snd p)) T)))))) ?_
    refine kp 14 (.pointer (some ⟨0, 3, none⟩)) ?_
    refine kp 15 (.bool poison) ?_
    refine kp 16 (.pointer (some ⟨0, 4, none⟩)) ?_
    refine kp 17 (.int IntKind.i64 most) ?_
    refine fr 18 12 [Value.agg #[Value.int .i64 N, Value.iface 48 (Value.iface (List.length ls) (Value.iface x (Value.agg (List.toArray (lcs ls)))))], Value.iface 45 (Value.iface (List.length T) (Value.iface xt (Value.agg (List.toArray (List.map (fun p => rowF 47 (Prod.fst p) (Prod.snd p)) T))))), Value.bool poison, Value.int .i64 most] ?_
    refine WpFun.of (c3) ?_
    refine kp 9 (.tuple #[Value.iface 45 (Value.iface 0 (Value.iface 2 (Value.agg #[]))), Value.int .i64 0, Value.int .i64 1]) ?_
    refine kp 19 (.iface 45 (Value.iface 0 (Value.iface 2 (Value.agg #[])))) ?_
    refine kp 20 (.int IntKind.i64 0) ?_
    refine kp 21 (.int IntKind.i64 1) ?_
    refine kp 3 (.iface 45 (Value.iface 0 (Value.iface 2 (Value.agg #[])))) ?_
    refine kp 4 (.int IntKind.i64 0) ?_
    refine kp 5 (.int IntKind.i64 1) ?_
    refine WpOps.nil (thenK_at (Wp.seq ?_))
    refine Wp.region (by kernel_rfl) ?_
    refine kp 23 (.pointer (some ⟨0, 0, none⟩)) ?_
    refine kp 24 (.agg #[Value.int .i64 N, Value.iface 48 (Value.iface (List.length ls) (Value.iface x (Value.agg (List.toArray (lcs ls)))))]) ?_
    refine fr 25 14 [Value.agg #[Value.int .i64 N, Value.iface 48 (Value.iface (List.length ls) (Value.iface x (Value.agg (List.toArray (lcs ls)))))]] ?_
    refine WpFun.of (c1) ?_
    refine kp 26 (.pointer (some ⟨0, 2, none⟩)) ?_
    refine kp 27 (.iface 45 (Value.iface (List.length T) (Value.iface xt (Value.agg (List.toArray (List.map (fun p => rowF 47 (Prod.fst p) (Prod.snd p)) T)))))) ?_
    refine clr 28 15 [Value.iface 45 (Value.iface (List.length T) (Value.iface xt (Value.agg (List.toArray (List.map (fun p => rowF 47 (Prod.fst p) (Prod.snd p)) T)))))] ?_
    refine WpCall.consume [0] (c2) (by kernel_rfl) (by kernel_rfl) ?_
    refine kp 29 (.pointer (some ⟨0, 3, none⟩)) ?_
    refine kp 30 (.bool poison) ?_
    refine kp 31 (.pointer (some ⟨0, 4, none⟩)) ?_
    refine kp 32 (.int IntKind.i64 most) ?_
    refine fr 33 13 [Value.agg #[Value.int .i64 N, FS 48 (List.length ls) 0 (List.toArray (lcs ls))], Value.iface 92 (Value.iface (List.length T) (Value.iface (if List.length T = 0 then 2 else 0) (Value.agg (List.toArray (ocs 93 T))))), Value.bool poison, Value.int .i64 most] ?_
    refine WpFun.of (c4) ?_
    refine kp 22 (.tuple #[Value.iface 92 (Value.iface 0 (Value.iface 2 (Value.agg #[]))), Value.int .i64 0, Value.int .i64 1]) ?_
    refine kp 34 (.iface 92 (Value.iface 0 (Value.iface 2 (Value.agg #[])))) ?_
    refine kp 35 (.int IntKind.i64 0) ?_
    refine kp 36 (.int IntKind.i64 1) ?_
    refine kp 6 (.iface 92 (Value.iface 0 (Value.iface 2 (Value.agg #[])))) ?_
    refine kp 7 (.int IntKind.i64 0) ?_
    refine kp 8 (.int IntKind.i64 1) ?_
    refine WpOps.nil (thenK_at (Wp.seq (Wp.text ?_)))
    refine kp 37 (.int IntKind.i64 0) ?_
    refine kp 38 (.int IntKind.i64 0) ?_
    refine kp 39 (.bool true) ?_
    refine kp 40 (.bool true) ?_
    refine kp 41 (.int IntKind.i64 1) ?_
    refine kp 42 (.int IntKind.i64 1) ?_
    refine kp 43 (.bool true) ?_
    refine kp 44 (.bool true) ?_
    refine kp 45 (.bool true) ?_
    refine kp 46 (.iface 45 (Value.iface 0 (Value.iface 2 (Value.agg #[])))) ?_
    refine kp 47 (.iface 92 (Value.iface 0 (Value.iface 2 (Value.agg #[])))) ?_
    refine fr 48 16 [Value.iface 45 (Value.iface 0 (Value.iface 2 (Value.agg #[]))), Value.iface 92 (Value.iface 0 (Value.iface 2 (Value.agg #[])))] ?_
    refine WpFun.of (c5) ?_
    refine kp 49 (.bool true) ?_
    refine kp 50 (.bool true) ?_
    refine fr 51 17 [] ?_
    refine WpFun.of (c0) ?_
    refine kp 52 (.bool true) ?_
    refine kp 2 (.bool true) ?_
    refine WpOps.nil (thenK_at (Wp.ret ?_))
    refine endK_retn [Value.bool true] (Value.bool true) (by kernel_rfl) (by kernel_rfl) ?_
    rfl
end Go.Proofs.Ytfjkanjmggbofaa.D
