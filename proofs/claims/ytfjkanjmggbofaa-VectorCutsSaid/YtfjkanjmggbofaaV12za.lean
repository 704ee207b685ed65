/- The laws VectorBest and VectorHeals. -/
import Derived.Test.YtfjkanjmggbofaaFwLem
import Derived.Test.YtfjkanjmggbofaaFwCons
import Derived.Test.YtfjkanjmggbofaaV12z
namespace Go.Proofs.Ytfjkanjmggbofaa.D
open Go.Fw Go.RowKit

theorem heals {n : Nat} {ls : List Lk} {f : Tb} {poison : Bool} (g : Good n ls) (gt : GoodT n f) : stop n (cF ls) poison f 1000 ≤ 16 * n ∧ Least n (cF ls) (rall n (d0 (cF ls)) n) (it n (cF ls) poison f (stop n (cF ls) poison f 1000)) := by
  have D := dist_of (N := n) g.range g.diag
  have hg : Dg n f := fun j hj => gt.diag j hj
  have hN := g.hN
  by_cases h1 : n = 1
  · subst h1
    obtain ⟨h2, h3⟩ := least_one (c := cF ls) (d := rall 1 (d0 (cF ls)) 1) (poison := poison) hg (show 0 < 1000 by omega)
    exact ⟨by omega, h3⟩
  · have F := from_any D poison hg fun i j hi hj => (gt.range i j hi hj).1
    obtain ⟨h2, h3⟩ := least_of D (most := 1000) (by omega) hg F (by omega)
    exact ⟨by omega, h3⟩
theorem starts {n : Nat} {ls : List Lk} {poison : Bool} (g : Good n ls) : stop n (cF ls) poison firstF 1000 ≤ n - 1 ∧ Least n (cF ls) (rall n (d0 (cF ls)) n) (it n (cF ls) poison firstF (stop n (cF ls) poison firstF 1000)) := by
  have D := dist_of (N := n) g.range g.diag
  have hg : Dg n firstF := fun j _ => if_pos rfl
  have hN := g.hN
  by_cases h1 : n = 1
  · subst h1
    obtain ⟨h2, h3⟩ := least_one (c := cF ls) (d := rall 1 (d0 (cF ls)) 1) (poison := poison) hg (show 0 < 1000 by omega)
    exact ⟨by omega, h3⟩
  · obtain ⟨h2, h3⟩ := least_of D (most := 1000) (by omega) hg (from_start D poison) (by omega)
    exact ⟨by omega, h3⟩
theorem first_ok (n : Nat) : ∀ i j, i < n → j < n → routeB n i j (firstF i j) = true := by
  intro i j hi hj
  unfold firstF routeB
  by_cases e : i = j
  · subst e
    rw [if_pos rfl, if_pos rfl]
    simp
  · rw [if_neg e, if_neg (by omega)]
    rfl
theorem first_good (n : Nat) : GoodT n firstF := ⟨fun i j hi hj => (routeB_facts (first_ok n i j hi hj)).1, fun i hi => if_pos rfl, first_ok n⟩
/-- Valid tables are tables. -/
theorem tab40 {n x : Nat} {ls : List Lk} {f : Tb} (g : Good n ls) (hv : valid n ls = true) (hy : ls.length * 24 ≤ 140737488351232) (hf : ∀ i j, i < n → j < n → routeB n i j (f i j) = true) : Fun E 40 [netV n x ls, tabM 45 47 n f] (.bool true) := by
  have hN := g.hN
  have := tables40 n x ls 0 (matT n f) (valid25 n x ls (by omega)) (by simp [matT]; omega) (fun p hp => by
    obtain ⟨i, _, rfl⟩ := List.mem_map.1 hp
    simp
    omega)
  rw [tabOk_matT hv hf] at this
  exact this
/-- Settle of valid tables. -/
theorem settled {n x : Nat} {ls : List Lk} {f : Tb} {poison : Bool} (g : Good n ls) (hv : valid n ls = true) (hy : ls.length * 24 ≤ 140737488351232) (gt : GoodT n f) : Fun E 12 [netV n x ls, tabM 45 47 n f, .bool poison, .int .i64 1000] (.tuple #[tabM 45 47 n (it n (cF ls) poison f (stop n (cF ls) poison f 1000)), .int .i64 (stop n (cF ls) poison f 1000), .int .i64 0]) := by
  have c3 := settle12_ok n x ls f poison 1000 (by omega) g.hN (tab40 g hv hy gt.ok) (fun k => roundF42 n x ls _ poison g.hN g.hl (by omega) (it_range (cAt_range g.hl) gt.range k))
  rw [g.same] at c3
  exact c3
theorem f10 : E.funcs 10 = some Try.f10 := by kernel_rfl
set_option maxHeartbeats 4000000 in
theorem law10 (N : Int) (x : Nat) (ls : List Lk) (xt : Nat) (T : List (Nat × List Rt)) (poison : Bool) (hy : ls.length * 24 ≤ 140737488351232) (ok : OkT xt T) : Fun E 10 [netV N x ls, tabF 45 47 xt T, .bool poison] (.bool true) := by
  have c0 := sane17
  have hs2 := ok.sizes
  have hs1 := ok.size
  by_cases hb : tabOk N ls T = true
  · have hv : valid N ls = true := by
      unfold tabOk at hb
      simp only [Bool.and_eq_true] at hb
      exact hb.1.1
    obtain ⟨n, f, rfl, g, gt, rfl, rfl, t1, t2, t3⟩ := open_tab (x := x) hy ok hb
    have hN := g.hN
    have c3 := settled (x := x) (poison := poison) g hv hy gt
    obtain ⟨h1, L⟩ := heals (poison := poison) g gt
    have c4 := least_fun n x ls _ g hv hy L
    generalize it n (cF ls) poison f (stop n (cF ls) poison f 1000) = f2 at c3 c4
    generalize stop n (cF ls) poison f 1000 = s at c3 h1
    have e1 : decide ((s : Int) ≤ IntKind.i64.wrap (16 * (n : Int))) = true := decide_eq_true (by rw [wr _ (by omega) (by omega)]; omega)
    show Fun E 10 [netV n x ls, tabM 45 47 n f, .bool poison] (.bool true)
    clear t1 t2 t3 hb hv L
    refine Fun.of f10 rfl (of_decide_eq_true (by kernel_rfl)) rfl ?_
    rw [tabM_eq, tabM_eq] at *
    unfold netV lks matF at *
    refine Wp.seq (Wp.text ?_)
    refine md 3 (.pointer (some ⟨0, 0, none⟩)) (Blk.mk 24 true [Value.int .i64 (↑n : Int), Value.iface 48 (Value.iface (List.length ls) (Value.iface x (Value.agg (List.toArray (lcs ls)))))]) ?_
    refine kp 6 (.bool false) ?_
    refine WpOps.nil (thenK_at (Wp.seq (Wp.text ?_)))
    refine kp 11 (.agg #[Value.int .i64 (↑n : Int), Value.iface 48 (Value.iface (List.length ls) (Value.iface x (Value.agg (List.toArray (lcs ls)))))]) ?_
    refine kp 12 (.iface 45 (Value.iface n (Value.iface 0 (Value.agg (List.toArray (List.map (fun r => FS 47 n 0 (List.toArray r)) (rowsM n f))))))) ?_
    refine kp 13 (.bool poison) ?_
    refine fr 14 12 [Value.agg #[Value.int .i64 (↑n : Int), Value.iface 48 (Value.iface (List.length ls) (Value.iface x (Value.agg (List.toArray (lcs ls)))))], Value.iface 45 (Value.iface n (Value.iface 0 (Value.agg (List.toArray (List.map (fun r => FS 47 n 0 (List.toArray r)) (rowsM n f)))))), Value.bool poison, Value.int .i64 1000] ?_
    refine WpFun.of (c3) ?_
    refine kp 10 (.tuple #[FS 45 n 0 (List.toArray (List.map (fun r => FS 47 n 0 (List.toArray r)) (rowsM n f2))), Value.int .i64 (↑s : Int), Value.int .i64 0]) ?_
    refine kp 15 (.iface 45 (Value.iface n (Value.iface 0 (Value.agg (List.toArray (List.map (fun r => FS 47 n 0 (List.toArray r)) (rowsM n f2))))))) ?_
    refine kp 16 (.int IntKind.i64 (↑s : Int)) ?_
    refine kp 17 (.int IntKind.i64 0) ?_
    refine kp 7 (.iface 45 (Value.iface n (Value.iface 0 (Value.agg (List.toArray (List.map (fun r => FS 47 n 0 (List.toArray r)) (rowsM n f2))))))) ?_
    refine kp 8 (.int IntKind.i64 (↑s : Int)) ?_
    refine kp 9 (.int IntKind.i64 0) ?_
    refine WpOps.nil (thenK_at (Wp.seq (Wp.seq (Wp.text ?_))))
    refine kp 18 (.int IntKind.i64 0) ?_
    refine kp 19 (.bool false) ?_
    refine WpOps.nil (thenK_at (off' (Wp.skip (thenK_at (Wp.seq (Wp.text ?_))))))
    refine kp 21 (.int IntKind.i64 (↑s : Int)) ?_
    refine kp 22 (.pointer (some ⟨0, 0, none⟩)) ?_
    refine kp 23 (.int IntKind.i64 (↑n : Int)) ?_
    refine kp 24 (.int IntKind.i64 (IntKind.wrap .i64 (16 * (↑n : Int)))) ?_
    refine kp 25 (.bool true) ?_ (hop := fun _ => by_fact e1)
    refine kp 26 (.bool true) ?_
    refine kp 27 (.agg #[Value.int .i64 (↑n : Int), Value.iface 48 (Value.iface (List.length ls) (Value.iface x (Value.agg (List.toArray (lcs ls)))))]) ?_
    refine kp 28 (.iface 45 (Value.iface n (Value.iface 0 (Value.agg (List.toArray (List.map (fun r => FS 47 n 0 (List.toArray r)) (rowsM n f2))))))) ?_
    refine fr 29 38 [Value.agg #[Value.int .i64 (↑n : Int), Value.iface 48 (Value.iface (List.length ls) (Value.iface x (Value.agg (List.toArray (lcs ls)))))], Value.iface 45 (Value.iface n (Value.iface 0 (Value.agg (List.toArray (List.map (fun r => FS 47 n 0 (List.toArray r)) (rowsM n f2))))))] ?_
    refine WpFun.of (c4) ?_
    refine kp 30 (.bool true) ?_
    refine kp 31 (.bool true) ?_
    refine fr 32 17 [] ?_
    refine WpFun.of (c0) ?_
    refine kp 33 (.bool true) ?_
    refine kp 6 (.bool true) ?_
    refine WpOps.nil (thenK_at (Wp.ret ?_))
    refine endK_retn [Value.bool true] (Value.bool true) (by kernel_rfl) (by kernel_rfl) ?_
    rfl
  · have hb' : tabOk N ls T = false := by simpa using hb
    have c3 := settle12_bad N x ls xt T poison 1000 _ (tables40 N x ls xt T (valid25 N x ls (by omega)) (by omega) (fun p hp => by have := hs2 p hp; omega)) (by rw [hb']; rfl)
    refine Fun.of f10 rfl (of_decide_eq_true (by kernel_rfl)) rfl ?_
    unfold netV lks tabF at *
    refine Wp.seq (Wp.text ?_)
    refine md 3 (.pointer (some ⟨0, 0, none⟩)) (Blk.mk 24 true [Value.int .i64 N, Value.iface 48 (Value.iface (List.length ls) (Value.iface x (Value.agg (List.toArray (lcs ls)))))]) ?_
    refine kp 6 (.bool false) ?_
    refine WpOps.nil (thenK_at (Wp.seq (Wp.text ?_)))
    refine kp 11 (.agg #[Value.int .i64 N, Value.iface 48 (Value.iface (List.length ls) (Value.iface x (Value.agg (List.toArray (lcs ls)))))]) ?_
    refine kp 12 (.iface 45 (Value.iface (List.length T) (Value.iface xt (Value.agg (List.toArray (List.map (fun p => rowF 47 (Prod.fst p) (Prod.snd p)) T)))))) ?_
    refine kp 13 (.bool poison) ?_
    refine fr 14 12 [Value.agg #[Value.int .i64 N, Value.iface 48 (Value.iface (List.length ls) (Value.iface x (Value.agg (List.toArray (lcs ls)))))], Value.iface 45 (Value.iface (List.length T) (Value.iface xt (Value.agg (List.toArray (List.map (fun p => rowF 47 (Prod.fst p) (Prod.snd p)) T))))), Value.bool poison, Value.int .i64 1000] ?_
    refine WpFun.of (c3) ?_
    refine kp 10 (.tuple #[Value.iface 45 (Value.iface 0 (Value.iface 2 (Value.agg #[]))), Value.int .i64 0, Value.int .i64 1]) ?_
    refine kp 15 (.iface 45 (Value.iface 0 (Value.iface 2 (Value.agg #[])))) ?_
    refine kp 16 (.int IntKind.i64 0) ?_
    refine kp 17 (.int IntKind.i64 1) ?_
    refine kp 7 (.iface 45 (Value.iface 0 (Value.iface 2 (Value.agg #[])))) ?_
    refine kp 8 (.int IntKind.i64 0) ?_
    refine kp 9 (.int IntKind.i64 1) ?_
    refine WpOps.nil (thenK_at (Wp.seq (Wp.seq (Wp.text ?_))))
    refine kp 18 (.int IntKind.i64 1) ?_
    refine kp 19 (.bool true) ?_
    refine WpOps.nil (thenK_at (on' (Wp.seq (Wp.text ?_))))
    refine fr 20 17 [] ?_
    refine WpFun.of (c0) ?_
    refine kp 6 (.bool true) ?_
    refine WpOps.nil (thenK_at (Wp.ret (thenK_ret ?_)))
    refine endK_retn [Value.bool true] (Value.bool true) (by kernel_rfl) (by kernel_rfl) ?_
    rfl
theorem f9 : E.funcs 9 = some Try.f9 := by kernel_rfl
set_option maxHeartbeats 4000000 in
theorem law9 (N : Int) (x : Nat) (ls : List Lk) (poison : Bool) (hy : ls.length * 24 ≤ 140737488351232) : Fun E 9 [netV N x ls, .bool poison] (.bool true) := by
  have c0 := sane17
  have v1 := valid25 N x ls (by omega)
  by_cases hv : valid N ls = true
  · obtain ⟨n, rfl, g⟩ := good_of hv
    have hN := g.hN
    rw [hv] at v1
    have s1 := start21 n x ls g.hN v1
    have c3 := settled (x := x) (poison := poison) g hv hy (first_good n)
    obtain ⟨h1, L⟩ := starts (poison := poison) g
    have c4 := least_fun n x ls _ g hv hy L
    generalize it n (cF ls) poison firstF (stop n (cF ls) poison firstF 1000) = f2 at c3 c4
    generalize stop n (cF ls) poison firstF 1000 = s at c3 h1
    have e1 : decide ((s : Int) ≤ (if IntKind.i64.wrap ((n : Int) - 1) > 0 then IntKind.i64.wrap ((n : Int) - 1) else 0)) = true := decide_eq_true (by
      rw [wr _ (by omega) (by omega)]
      split <;> omega)
    clear v1 hv L
    refine Fun.of f9 rfl (of_decide_eq_true (by kernel_rfl)) rfl ?_
    rw [tabM_eq, tabM_eq] at *
    unfold netV lks matF at *
    refine Wp.seq (Wp.text ?_)
    refine md 2 (.pointer (some ⟨0, 0, none⟩)) (Blk.mk 24 true [Value.int .i64 (↑n : Int), Value.iface 48 (Value.iface (List.length ls) (Value.iface x (Value.agg (List.toArray (lcs ls)))))]) ?_
    refine kp 4 (.bool false) ?_
    refine WpOps.nil (thenK_at (Wp.seq (Wp.text ?_)))
    refine kp 10 (.agg #[Value.int .i64 (↑n : Int), Value.iface 48 (Value.iface (List.length ls) (Value.iface x (Value.agg (List.toArray (lcs ls)))))]) ?_
    refine fr 11 21 [Value.agg #[Value.int .i64 (↑n : Int), Value.iface 48 (Value.iface (List.length ls) (Value.iface x (Value.agg (List.toArray (lcs ls)))))]] ?_
    refine WpFun.of (s1) ?_
    refine kp 9 (.tuple #[FS 45 n 0 (List.toArray (List.map (fun r => FS 47 n 0 (List.toArray r)) (rowsM n firstF))), Value.int .i64 0]) ?_
    refine kp 12 (.iface 45 (Value.iface n (Value.iface 0 (Value.agg (List.toArray (List.map (fun r => FS 47 n 0 (List.toArray r)) (rowsM n firstF))))))) ?_
    refine kp 13 (.int IntKind.i64 0) ?_
    refine kp 5 (.iface 45 (Value.iface n (Value.iface 0 (Value.agg (List.toArray (List.map (fun r => FS 47 n 0 (List.toArray r)) (rowsM n firstF))))))) ?_
    refine kp 6 (.int IntKind.i64 0) ?_
    refine WpOps.nil (thenK_at (Wp.seq (Wp.seq (Wp.text ?_))))
    refine kp 14 (.int IntKind.i64 0) ?_
    refine kp 15 (.bool false) ?_
    refine WpOps.nil (thenK_at (off' (Wp.skip (thenK_at (Wp.seq (Wp.text ?_))))))
    refine kp 23 (.agg #[Value.int .i64 (↑n : Int), Value.iface 48 (Value.iface (List.length ls) (Value.iface x (Value.agg (List.toArray (lcs ls)))))]) ?_
    refine kp 24 (.iface 45 (Value.iface n (Value.iface 0 (Value.agg (List.toArray (List.map (fun r => FS 47 n 0 (List.toArray r)) (rowsM n firstF))))))) ?_
    refine kp 25 (.bool poison) ?_
    refine fr 26 12 [Value.agg #[Value.int .i64 (↑n : Int), Value.iface 48 (Value.iface (List.length ls) (Value.iface x (Value.agg (List.toArray (lcs ls)))))], Value.iface 45 (Value.iface n (Value.iface 0 (Value.agg (List.toArray (List.map (fun r => FS 47 n 0 (List.toArray r)) (rowsM n firstF)))))), Value.bool poison, Value.int .i64 1000] ?_
    refine WpFun.of (c3) ?_
    refine kp 22 (.tuple #[FS 45 n 0 (List.toArray (List.map (fun r => FS 47 n 0 (List.toArray r)) (rowsM n f2))), Value.int .i64 (↑s : Int), Value.int .i64 0]) ?_
    refine kp 27 (.iface 45 (Value.iface n (Value.iface 0 (Value.agg (List.toArray (List.map (fun r => FS 47 n 0 (List.toArray r)) (rowsM n f2))))))) ?_
    refine kp 28 (.int IntKind.i64 (↑s : Int)) ?_
    refine kp 29 (.int IntKind.i64 0) ?_
    refine kp 7 (.iface 45 (Value.iface n (Value.iface 0 (Value.agg (List.toArray (List.map (fun r => FS 47 n 0 (List.toArray r)) (rowsM n f2))))))) ?_
    refine kp 8 (.int IntKind.i64 (↑s : Int)) ?_
    refine kp 6 (.int IntKind.i64 0) ?_
    refine WpOps.nil (thenK_at (Wp.seq (Wp.text ?_)))
    refine kp 30 (.int IntKind.i64 0) ?_
    refine kp 31 (.bool true) ?_
    refine kp 32 (.bool true) ?_
    refine kp 33 (.int IntKind.i64 (↑s : Int)) ?_
    refine kp 34 (.pointer (some ⟨0, 0, none⟩)) ?_
    refine kp 35 (.int IntKind.i64 (↑n : Int)) ?_
    refine kp 36 (.int IntKind.i64 (IntKind.wrap .i64 ((↑n : Int) - 1))) ?_
    refine kp 37 (.int IntKind.i64 (if IntKind.wrap .i64 ((↑n : Int) - 1) > 0 then IntKind.wrap .i64 ((↑n : Int) - 1) else 0)) ?_
    refine kp 38 (.bool true) ?_ (hop := fun _ => by_fact e1)
    refine kp 39 (.bool true) ?_
    refine kp 40 (.bool true) ?_
    refine kp 41 (.agg #[Value.int .i64 (↑n : Int), Value.iface 48 (Value.iface (List.length ls) (Value.iface x (Value.agg (List.toArray (lcs ls)))))]) ?_
    refine kp 42 (.iface 45 (Value.iface n (Value.iface 0 (Value.agg (List.toArray (List.map (fun r => FS 47 n 0 (List.toArray r)) (rowsM n f2))))))) ?_
    refine fr 43 38 [Value.agg #[Value.int .i64 (↑n : Int), Value.iface 48 (Value.iface (List.length ls) (Value.iface x (Value.agg (List.toArray (lcs ls)))))], Value.iface 45 (Value.iface n (Value.iface 0 (Value.agg (List.toArray (List.map (fun r => FS 47 n 0 (List.toArray r)) (rowsM n f2))))))] ?_
    refine WpFun.of (c4) ?_
    refine kp 44 (.bool true) ?_
    refine kp 45 (.bool true) ?_
    refine fr 46 17 [] ?_
    refine WpFun.of (c0) ?_
    refine kp 47 (.bool true) ?_
    refine kp 4 (.bool true) ?_
    refine WpOps.nil (thenK_at (Wp.ret ?_))
    refine endK_retn [Value.bool true] (Value.bool true) (by kernel_rfl) (by kernel_rfl) ?_
    rfl
  · have hv' : valid N ls = false := by simpa using hv
    rw [hv'] at v1
    have s1 := start21_bad N x ls v1
    clear hv v1
    refine Fun.of f9 rfl (of_decide_eq_true (by kernel_rfl)) rfl ?_
    unfold netV lks at *
    refine Wp.seq (Wp.text ?_)
    refine md 2 (.pointer (some ⟨0, 0, none⟩)) (Blk.mk 24 true [Value.int .i64 N, Value.iface 48 (Value.iface (List.length ls) (Value.iface x (Value.agg (List.toArray (lcs ls)))))]) ?_
    refine kp 4 (.bool false) ?_
    refine WpOps.nil (thenK_at (Wp.seq (Wp.text ?_)))
    refine kp 10 (.agg #[Value.int .i64 N, Value.iface 48 (Value.iface (List.length ls) (Value.iface x (Value.agg (List.toArray (lcs ls)))))]) ?_
    refine fr 11 21 [Value.agg #[Value.int .i64 N, Value.iface 48 (Value.iface (List.length ls) (Value.iface x (Value.agg (List.toArray (lcs ls)))))]] ?_
    refine WpFun.of (s1) ?_
    refine kp 9 (.tuple #[Value.iface 45 (Value.iface 0 (Value.iface 2 (Value.agg #[]))), Value.int .i64 1]) ?_
    refine kp 12 (.iface 45 (Value.iface 0 (Value.iface 2 (Value.agg #[])))) ?_
    refine kp 13 (.int IntKind.i64 1) ?_
    refine kp 5 (.iface 45 (Value.iface 0 (Value.iface 2 (Value.agg #[])))) ?_
    refine kp 6 (.int IntKind.i64 1) ?_
    refine WpOps.nil (thenK_at (Wp.seq (Wp.seq (Wp.text ?_))))
    refine kp 14 (.int IntKind.i64 1) ?_
    refine kp 15 (.bool true) ?_
    refine WpOps.nil (thenK_at (on' (Wp.seq (Wp.text ?_))))
    refine kp 16 (.iface 45 (Value.iface 0 (Value.iface 2 (Value.agg #[])))) ?_
    refine kp 17 (.int IntKind.i64 (↑0 : Int)) ?_
    refine kp 18 (.bool true) ?_
    refine kp 19 (.bool true) ?_
    refine fr 20 17 [] ?_
    refine WpFun.of (c0) ?_
    refine kp 21 (.bool true) ?_
    refine kp 4 (.bool true) ?_
    refine WpOps.nil (thenK_at (Wp.ret (thenK_ret ?_)))
    refine endK_retn [Value.bool true] (Value.bool true) (by kernel_rfl) (by kernel_rfl) ?_
    rfl
end Go.Proofs.Ytfjkanjmggbofaa.D
