/- Insertion sort. -/
import Derived.Test.YtdkmdpklojeepaaFwLem
import Derived.Test.YtdkmdpklojeepaaFwCons
import Derived.Test.YtdkmdpklojeepaaS09b
import Derived.Test.YtdkmdpklojeepaaS09p
namespace Go.Proofs.Ytdkmdpklojeepaa.D
open Go.Fw Go.RowKit

theorem nil_or_snoc (l : List Tr) : l = [] ∨ ∃ a y, l = a ++ [y] := by
  rcases List.eq_nil_or_concat l with h | ⟨a, y, h⟩
  · exact .inl h
  · exact .inr ⟨a, y, by rw [h, List.concat_eq_append]⟩
theorem f62 : E.funcs 62 = some Try.f62 := by kernel_rfl
/-- Rows, told apart from what they stand beside. -/
theorem lentRow {h : Heap} {l : List Tr} {n : Nat} (hg : h.get 0 = some (rowB l)) : LentEnd E 1 (.tuple #[]) [rowB l] (.tuple #[]) h := lentSame [rowB l] (pre1 ⟨hg, okCs_flat (tcs_flat _)⟩) (.w (.un rfl rfl))
theorem ins62_nil (n c o : Nat) (p q : List Tr) (ho : o ≤ p.length) (hn : p.length ≤ o + n) (hn2 : n ≤ 1000000) : Lent E 62 [.slice (some ⟨0, o * 2, none⟩) n c, .int .i64 (p.length - o : Nat), .int .i64 (p.length - o : Nat), .func (.func 43) #[] #[]] [rowB (p ++ q)] (.tuple #[]) [rowB (p ++ q)] := by
  refine Lent.of f62 rfl (of_decide_eq_true (by kernel_rfl)) rfl rfl (Nat.le_refl _) (by kernel_rfl) ?_ rfl ?_
  · simp only [rowB, List.all_cons, List.all_nil, okCs_flat (tcs_flat _), Bool.and_true]
  have d1 : decide (IntKind.i64.wrap (((p.length - o : Nat) : Int) + 1) < ((p.length - o : Nat) : Int)) = false := decide_eq_false (by rw [wr _ (by omega) (by omega)]; omega)
  refine Wp.seq (Wp.text ?_)
  refine kp 10 (.int IntKind.i64 (↑(List.length p - o) : Int)) ?_
  refine kp 11 (.int IntKind.i64 (IntKind.wrap .i64 ((↑(List.length p - o) : Int) + 1))) ?_
  refine kp 8 (.int IntKind.i64 (IntKind.wrap .i64 ((↑(List.length p - o) : Int) + 1))) ?_
  refine WpOps.nil (thenK_at (Wp.block ?_))
  refine Wp.loop (G := Nat) (fun i => layj [(0, .slice (some ⟨0, o * 2, none⟩) n c), (1, .int .i64 (p.length - o : Nat)), (2, .int .i64 (p.length - o : Nat)), (3, .func (.func 43) #[] #[]), (8, .int .i64 (IntKind.i64.wrap (((p.length - o : Nat) : Int) + 1)))]) (fun _ => heapOf [rowB (p ++ q)]) (fun _ => 0) (fun i => i = 0) 0
    (View.of [0] [rowB (p ++ q)] _ (by decide) rfl ⟨⟨_, rfl, CellsOk.eq rfl (tcs_flat _)⟩, trivial⟩ ⟨⟨by kernel_rfl, rfl⟩, ⟨by kernel_rfl, rfl⟩, ⟨by kernel_rfl, rfl⟩, ⟨by kernel_rfl, rfl⟩, ⟨by kernel_rfl, rfl⟩, trivial⟩) rfl ?_
  rintro i rfl
  refine Wp.seq (Wp.seq (Wp.text ?_))
  refine kp 12 (.int IntKind.i64 (IntKind.wrap .i64 ((↑(List.length p - o) : Int) + 1))) ?_
  refine kp 13 (.int IntKind.i64 (↑(List.length p - o) : Int)) ?_
  refine kp 14 (.bool false) ?_ (hop := fun _ => by_fact d1)
  refine WpOps.nil (thenK_at (off' (Wp.exit (thenK_exit (thenK_exit (blockK_hit ?_))))))
  refine endK_norm [] (Value.tuple #[]) (by kernel_rfl) (by kernel_rfl) ?_
  exact lentSame [rowB (p ++ q)] (pre1 ⟨by kernel_rfl, okCs_flat (tcs_flat _)⟩) (.w (.un rfl rfl))
set_option maxHeartbeats 4000000 in
theorem ins62 (n c o : Nat) (p X q : List Tr) (hX : 0 < X.length) (hin : InT X) (ho : o ≤ p.length) (hn : p.length + X.length ≤ o + n) (hn2 : n ≤ 1000000) : Lent E 62 [.slice (some ⟨0, o * 2, none⟩) n c, .int .i64 (p.length - o : Nat), .int .i64 (p.length + X.length - o : Nat), .func (.func 43) #[] #[]] [rowB (p ++ X ++ q)] (.tuple #[]) [rowB (p ++ ssort X ++ q)] := by
  refine Lent.of f62 rfl (of_decide_eq_true (by kernel_rfl)) rfl rfl (Nat.le_refl _) (by kernel_rfl) ?_ rfl ?_
  · simp only [rowB, List.all_cons, List.all_nil, okCs_flat (tcs_flat _), Bool.and_true]
  have w0 : IntKind.i64.wrap (((p.length - o : Nat) : Int) + 1) = ((p.length + (X.take 1).length - o : Nat) : Int) := by rw [wr _ (by omega) (by omega), List.length_take]; omega
  refine Wp.seq (Wp.text ?_)
  refine kp 10 (.int IntKind.i64 (↑(List.length p - o) : Int)) ?_
  refine kp 11 (.int IntKind.i64 (IntKind.wrap .i64 ((↑(List.length p - o) : Int) + 1))) ?_
  refine kp 8 (.int IntKind.i64 (IntKind.wrap .i64 ((↑(List.length p - o) : Int) + 1))) ?_
  refine WpOps.nil (thenK_at (Wp.block ?_))
  refine Wp.loop (G := List Tr × List Tr) (fun g => layj [(0, .slice (some ⟨0, o * 2, none⟩) n c), (1, .int .i64 (p.length - o : Nat)), (2, .int .i64 (p.length + X.length - o : Nat)), (3, .func (.func 43) #[] #[]), (8, .int .i64 (p.length + g.1.length - o : Nat))]) (fun g => heapOf [rowB (p ++ g.1 ++ g.2 ++ q)]) (fun g => g.2.length) (fun g => Srt g.1 ∧ Flt X (g.1 ++ g.2) ∧ 0 < g.1.length) (X.take 1, X.drop 1)
    (View.of [0] [rowB (p ++ X.take 1 ++ X.drop 1 ++ q)] _ (by decide) rfl ⟨⟨_, rfl, CellsOk.eq (by show tcs (p ++ X ++ q) = tcs (p ++ X.take 1 ++ X.drop 1 ++ q); rw [List.append_assoc p (X.take 1), List.take_append_drop]) (tcs_flat _)⟩, trivial⟩ ⟨⟨by kernel_rfl, rfl⟩, ⟨by kernel_rfl, rfl⟩, ⟨by kernel_rfl, rfl⟩, ⟨by kernel_rfl, rfl⟩, ⟨congrArg (Value.int .i64) w0, rfl⟩, trivial⟩) ⟨by match X, hX with | x :: r, _ => exact List.pairwise_singleton _ _, by rw [List.take_append_drop]; exact Flt.refl _, by rw [List.length_take]; omega⟩ ?_
  rintro ⟨S, R⟩ ⟨hS, hF, hS0⟩
  dsimp only at hS hF hS0 ⊢
  have hlen : S.length + R.length = X.length := by rw [← hF.len, List.length_append]
  match R, hF, hlen with
  | [], hF, hlen =>
    have d1 : decide (((p.length + S.length - o : Nat) : Int) < ((p.length + X.length - o : Nat) : Int)) = false := decide_eq_false (by simp only [List.length_nil] at hlen; omega)
    rw [List.append_nil] at hF
    rw [← ssort_is hS hF, List.append_nil]
    refine Wp.seq (Wp.seq (Wp.text ?_))
    refine kp 12 (.int IntKind.i64 (↑(List.length p + List.length S - o) : Int)) ?_
    refine kp 13 (.int IntKind.i64 (↑(List.length p + List.length X - o) : Int)) ?_
    refine kp 14 (.bool false) ?_ (hop := fun _ => by_fact d1)
    refine WpOps.nil (thenK_at (off' (Wp.exit (thenK_exit (thenK_exit (blockK_hit ?_))))))
    refine endK_norm [] (Value.tuple #[]) (by kernel_rfl) (by kernel_rfl) ?_
    exact lentSame [rowB (p ++ S ++ q)] (pre1 ⟨by kernel_rfl, okCs_flat (tcs_flat _)⟩) (.w (.un rfl rfl))
  | x :: R, hF, hlen =>
    rw [List.length_cons] at hlen
    have d1 : decide (((p.length + S.length - o : Nat) : Int) < ((p.length + X.length - o : Nat) : Int)) = true := decide_eq_true (by omega)
    have hx := hin x (hF.mem (by simp))
    have hSb : ∀ y ∈ S, 0 ≤ y.1 ∧ y.1 ≤ 1000000000 := fun y hy => hin y (hF.mem (by simp [hy]))
    refine Wp.seq (Wp.seq (Wp.text ?_))
    refine kp 12 (.int IntKind.i64 (↑(List.length p + List.length S - o) : Int)) ?_
    refine kp 13 (.int IntKind.i64 (↑(List.length p + List.length X - o) : Int)) ?_
    refine kp 14 (.bool true) ?_ (hop := fun _ => by_fact d1)
    refine WpOps.nil (thenK_at (on' (Wp.skip (thenK_at (Wp.seq (Wp.block (Wp.seq (Wp.text ?_))))))))
    refine kp 17 (.int IntKind.i64 (↑(List.length p + List.length S - o) : Int)) ?_
    refine kp 9 (.int IntKind.i64 (↑(List.length p + List.length S - o) : Int)) ?_
    refine WpOps.nil (thenK_at (Wp.block ?_))
    refine Wp.loop (G := List Tr × List Tr) (fun g => layj [(0, .slice (some ⟨0, o * 2, none⟩) n c), (1, .int .i64 (p.length - o : Nat)), (2, .int .i64 (p.length + X.length - o : Nat)), (3, .func (.func 43) #[] #[]), (8, .int .i64 (p.length + S.length - o : Nat)), (9, .int .i64 (p.length + g.1.length - o : Nat))]) (fun g => heapOf [rowB (p ++ g.1 ++ x :: (g.2 ++ R ++ q))]) (fun g => g.1.length) (fun g => S = g.1 ++ g.2 ∧ ∀ y ∈ g.2, x.1 < y.1) (S, [])
      (View.of [0] [rowB (p ++ S ++ x :: ([] ++ R ++ q))] _ (by decide) rfl ⟨⟨_, rfl, CellsOk.eq (by simp [rowB]) (tcs_flat _)⟩, trivial⟩ ⟨⟨by kernel_rfl, rfl⟩, ⟨by kernel_rfl, rfl⟩, ⟨by kernel_rfl, rfl⟩, ⟨by kernel_rfl, rfl⟩, ⟨by kernel_rfl, rfl⟩, ⟨by kernel_rfl, rfl⟩, trivial⟩) ⟨by simp, fun y hy => (List.not_mem_nil hy).elim⟩ ?_
    rintro ⟨S1, S2⟩ ⟨hSS, hgt⟩
    dsimp only at hSS hgt ⊢
    unfold rowB
    have hl12 : S.length = S1.length + S2.length := by rw [hSS, List.length_append]
    -- where it stops
    have stop : (∀ y ∈ S1, y.1 ≤ x.1) → Srt (S1 ++ x :: S2) ∧ Flt X ((S1 ++ x :: S2) ++ R) := fun hle => by
      rw [hSS] at hS
      obtain ⟨h1, h2, h3⟩ := srt_app.1 hS
      refine ⟨srt_app.2 ⟨h1, List.pairwise_cons.2 ⟨fun y hy => Int.le_of_lt (hgt y hy), h2⟩, fun a ha b hb => ?_⟩, hF.trans ?_⟩
      · rcases List.mem_cons.1 hb with rfl | hb
        · exact hle a ha
        · exact h3 a ha b hb
      · rw [hSS, List.append_assoc, List.append_assoc]
        refine (Flt.refl S1).app ?_
        have := (flt_pass (x := x) (l := S2) fun y hy => by have := hgt y hy; omega).app (Flt.refl R)
        simpa using this
    rcases nil_or_snoc S1 with rfl | ⟨S1', y, rfl⟩
    · have d2 : decide (((p.length + 0 - o : Nat) : Int) > ((p.length - o : Nat) : Int)) = false := decide_eq_false (by omega)
      obtain ⟨t1, t2⟩ := stop fun y hy => (List.not_mem_nil hy).elim
      have hS2 : S2.length = S.length := by rw [hSS]; simp
      refine Wp.seq (Wp.seq ?_)
      refine Wp.region (by kernel_rfl) ?_
      refine kp 18 (.int IntKind.i64 (↑(List.length p + 0 - o) : Int)) ?_
      refine kp 19 (.int IntKind.i64 (↑(List.length p - o) : Int)) ?_
      refine kp 20 (.bool false) ?_ (hop := fun _ => by_fact d2)
      refine kp 21 (.bool false) ?_
      refine um 22 ?_
      refine um 23 ?_
      refine um 24 ?_
      refine um 25 ?_
      refine um 26 ?_
      refine um 27 ?_
      refine um 28 ?_
      refine um 29 ?_
      refine um 30 ?_
      refine um 31 ?_
      refine um 32 ?_
      refine um 33 ?_
      refine kp 34 (.bool false) ?_
      refine WpOps.nil (thenK_at (off' (Wp.exit (thenK_exit (thenK_exit (blockK_hit (blockK_norm (thenK_at (Wp.text ?_)))))))))
      refine kp 15 (.int IntKind.i64 (↑(List.length p + List.length S - o) : Int)) ?_
      refine kp 16 (.int IntKind.i64 (IntKind.wrap .i64 ((↑(List.length p + List.length S - o) : Int) + 1))) ?_
      refine kp 8 (.int IntKind.i64 (IntKind.wrap .i64 ((↑(List.length p + List.length S - o) : Int) + 1))) ?_
      refine WpOps.nil (thenK_at ?_)
      have hl3 : (([] : List Tr) ++ x :: S2).length = S.length + 1 := by
        rw [hSS]
        simp
        try omega
      have w3 : IntKind.i64.wrap (((p.length + S.length - o : Nat) : Int) + 1) = ((p.length + (([] : List Tr) ++ x :: S2).length - o : Nat) : Int) := by rw [hl3, wr _ (by omega) (by omega)]; omega
      refine ⟨(([] : List Tr) ++ x :: S2, R), by dsimp only; simp, ⟨t1, t2, by dsimp only; rw [hl3]; omega⟩, ?_⟩
      exact View.of [0] [rowB (p ++ (([] : List Tr) ++ x :: S2) ++ R ++ q)] _ (by decide) rfl ⟨⟨tcs (p ++ ([] : List Tr) ++ x :: (S2 ++ R ++ q)), by kernel_rfl, CellsOk.eq (by simp [rowB]) (tcs_flat _)⟩, trivial⟩ ⟨⟨by kernel_rfl, rfl⟩, ⟨by kernel_rfl, rfl⟩, ⟨by kernel_rfl, rfl⟩, ⟨by kernel_rfl, rfl⟩, ⟨congrArg (Value.int .i64) w3, rfl⟩, trivial⟩
    · obtain ⟨hy1, hy2⟩ := hSb y (by rw [hSS]; simp)
      have hJl : (S1' ++ [y]).length = S1'.length + 1 := by simp
      have d2 : decide (((p.length + (S1' ++ [y]).length - o : Nat) : Int) > ((p.length - o : Nat) : Int)) = true := decide_eq_true (by omega)
      have w1 : IntKind.i64.wrap (((p.length + (S1' ++ [y]).length - o : Nat) : Int) - 1) = ((p.length + S1'.length - o : Nat) : Int) := by rw [wr _ (by omega) (by omega)]; omega
      have g1 : 0 ≤ ((p.length + (S1' ++ [y]).length - o : Nat) : Int) ∧ ((p.length + (S1' ++ [y]).length - o : Nat) : Int) < n := by omega
      have g2 : 0 ≤ IntKind.i64.wrap (((p.length + (S1' ++ [y]).length - o : Nat) : Int) - 1) ∧ IntKind.i64.wrap (((p.length + (S1' ++ [y]).length - o : Nat) : Int) - 1) < n := by rw [w1]; omega
      have r1 : p ++ S1' ++ y :: ([] ++ x :: (S2 ++ R ++ q)) = (p ++ (S1' ++ [y]) ++ x :: (S2 ++ R ++ q)) := by simp
      have e1 : (p ++ S1').length * 2 = (o * 2 + (IntKind.i64.wrap (((p.length + (S1' ++ [y]).length - o : Nat) : Int) - 1)).toNat * 2) := by rw [w1, List.length_append, Int.toNat_natCast]; omega
      have e2 : ((p ++ S1').length + 1 + ([] : List Tr).length) * 2 = (o * 2 + (((p.length + (S1' ++ [y]).length - o : Nat) : Int)).toNat * 2) := by rw [List.length_append, Int.toNat_natCast, List.length_nil]; omega
      have c1 := sw_lo (p ++ S1') y [] x (S2 ++ R ++ q)
      have c2 := sw_hi (p ++ S1') y [] x (S2 ++ R ++ q)
      rw [r1, e1] at c1
      rw [r1, e2] at c2
      have cm := cmp43 x y hx ⟨hy1, hy2⟩
      unfold tc at cm
      by_cases hxy : x.1 < y.1
      · have d3 : decide (x.1 - y.1 < 0) = true := decide_eq_true (by omega)
        have s1 := sw_hl (p ++ S1') y [] x (S2 ++ R ++ q)
        rw [r1, e1, e2] at s1
        have hLl : (tcs (p ++ (S1' ++ [y]) ++ x :: (S2 ++ R ++ q))).length = (p.length + S1'.length + 2 + S2.length + R.length + q.length) * 2 := by
          rw [← r1, sw_len, List.length_append, List.length_append, List.length_append, List.length_nil]
          omega
        have q1 : true = true ∧ (o * 2 + (((p.length + (S1' ++ [y]).length - o : Nat) : Int)).toNat * 2) + [Value.int .i64 y.1, Value.string y.2].length ≤ (tcs (p ++ (S1' ++ [y]) ++ x :: (S2 ++ R ++ q))).length := by
          refine ⟨rfl, ?_⟩
          rw [hLl, Int.toNat_natCast]
          simp only [List.length_cons, List.length_nil]
          omega
        have q2 : true = true ∧ (o * 2 + (IntKind.i64.wrap (((p.length + (S1' ++ [y]).length - o : Nat) : Int) - 1)).toNat * 2) + [Value.int .i64 x.1, Value.string x.2].length ≤ (((tcs (p ++ (S1' ++ [y]) ++ x :: (S2 ++ R ++ q))).set (o * 2 + (((p.length + (S1' ++ [y]).length - o : Nat) : Int)).toNat * 2) (.int .i64 y.1)).set ((o * 2 + (((p.length + (S1' ++ [y]).length - o : Nat) : Int)).toNat * 2) + 1) (.string y.2)).length := by
          refine ⟨rfl, ?_⟩
          rw [List.length_set, List.length_set, hLl, w1, Int.toNat_natCast]
          simp only [List.length_cons, List.length_nil]
          omega
        refine Wp.seq (Wp.seq ?_)
        refine Wp.region (by kernel_rfl) ?_
        refine kp 18 (.int IntKind.i64 (↑(List.length p + List.length (S1' ++ [y]) - o) : Int)) ?_
        refine kp 19 (.int IntKind.i64 (↑(List.length p - o) : Int)) ?_
        refine kp 20 (.bool true) ?_ (hop := fun _ => by_fact d2)
        refine kp 21 (.bool true) ?_
        refine kp 22 (.func (Fn.func 43) #[] #[]) ?_
        refine kp 23 (.slice (some (Addr.mk 0 (o * 2) none)) n c) ?_
        refine kp 24 (.int IntKind.i64 (↑(List.length p + List.length (S1' ++ [y]) - o) : Int)) ?_
        refine kp 25 (.pointer (some (Addr.mk 0 (o * 2 + Int.toNat (↑(List.length p + List.length (S1' ++ [y]) - o) : Int) * 2) none))) ?_ (hop := fun _ => o_indexAddr (a := (↑(List.length p + List.length (S1' ++ [y]) - o) : Int)) (bl := 0) (off := o * 2) (size := 2) 73 (n) g1)
        refine kp 26 (.agg #[Value.int .i64 (Prod.fst x), Value.string (Prod.snd x)]) ?_ (hop := fun _ => o_loadA (0) (o * 2 + Int.toNat (↑(List.length p + List.length (S1' ++ [y]) - o) : Int) * 2) c2)
        refine kp 27 (.slice (some (Addr.mk 0 (o * 2) none)) n c) ?_
        refine kp 28 (.int IntKind.i64 (↑(List.length p + List.length (S1' ++ [y]) - o) : Int)) ?_
        refine kp 29 (.int IntKind.i64 (IntKind.wrap .i64 ((↑(List.length p + List.length (S1' ++ [y]) - o) : Int) - 1))) ?_
        refine kp 30 (.pointer (some (Addr.mk 0 (o * 2 + Int.toNat (IntKind.wrap .i64 ((↑(List.length p + List.length (S1' ++ [y]) - o) : Int) - 1)) * 2) none))) ?_ (hop := fun _ => o_indexAddr (a := IntKind.wrap IntKind.i64 ((↑(List.length p + List.length (S1' ++ [y]) - o) : Int) - 1)) (bl := 0) (off := o * 2) (size := 2) 73 (n) g2)
        refine kp 31 (.agg #[Value.int .i64 (Prod.fst y), Value.string (Prod.snd y)]) ?_ (hop := fun _ => o_loadA (0) (o * 2 + Int.toNat (IntKind.wrap IntKind.i64 ((↑(List.length p + List.length (S1' ++ [y]) - o) : Int) - 1)) * 2) c1)
        refine fr 32 43 [Value.agg #[Value.int .i64 (Prod.fst x), Value.string (Prod.snd x)], Value.agg #[Value.int .i64 (Prod.fst y), Value.string (Prod.snd y)]] ?_
        refine WpFun.of (cm) ?_
        refine kp 33 (.bool true) ?_ (hop := fun _ => by_fact d3)
        refine kp 34 (.bool true) ?_
        refine WpOps.nil (thenK_at (on' (Wp.skip (thenK_at (Wp.seq (Wp.block ?_))))))
        refine Wp.region (by kernel_rfl) ?_
        refine kp 37 (.slice (some (Addr.mk 0 (o * 2) none)) n c) ?_
        refine kp 38 (.int IntKind.i64 (↑(List.length p + List.length (S1' ++ [y]) - o) : Int)) ?_
        refine kp 39 (.slice (some (Addr.mk 0 (o * 2) none)) n c) ?_
        refine kp 40 (.int IntKind.i64 (↑(List.length p + List.length (S1' ++ [y]) - o) : Int)) ?_
        refine kp 41 (.int IntKind.i64 (IntKind.wrap .i64 ((↑(List.length p + List.length (S1' ++ [y]) - o) : Int) - 1))) ?_
        refine kp 42 (.slice (some (Addr.mk 0 (o * 2) none)) n c) ?_
        refine kp 43 (.int IntKind.i64 (↑(List.length p + List.length (S1' ++ [y]) - o) : Int)) ?_
        refine kp 44 (.int IntKind.i64 (IntKind.wrap .i64 ((↑(List.length p + List.length (S1' ++ [y]) - o) : Int) - 1))) ?_
        refine kp 45 (.pointer (some (Addr.mk 0 (o * 2 + Int.toNat (IntKind.wrap .i64 ((↑(List.length p + List.length (S1' ++ [y]) - o) : Int) - 1)) * 2) none))) ?_ (hop := fun _ => o_indexAddr (a := IntKind.wrap IntKind.i64 ((↑(List.length p + List.length (S1' ++ [y]) - o) : Int) - 1)) (bl := 0) (off := o * 2) (size := 2) 73 (n) g2)
        refine kp 46 (.agg #[Value.int .i64 (Prod.fst y), Value.string (Prod.snd y)]) ?_ (hop := fun _ => o_loadA (0) (o * 2 + Int.toNat (IntKind.wrap IntKind.i64 ((↑(List.length p + List.length (S1' ++ [y]) - o) : Int) - 1)) * 2) c1)
        refine kp 47 (.slice (some (Addr.mk 0 (o * 2) none)) n c) ?_
        refine kp 48 (.int IntKind.i64 (↑(List.length p + List.length (S1' ++ [y]) - o) : Int)) ?_
        refine kp 49 (.pointer (some (Addr.mk 0 (o * 2 + Int.toNat (↑(List.length p + List.length (S1' ++ [y]) - o) : Int) * 2) none))) ?_ (hop := fun _ => o_indexAddr (a := (↑(List.length p + List.length (S1' ++ [y]) - o) : Int)) (bl := 0) (off := o * 2) (size := 2) 73 (n) g1)
        refine kp 50 (.agg #[Value.int .i64 (Prod.fst x), Value.string (Prod.snd x)]) ?_ (hop := fun _ => o_loadA (0) (o * 2 + Int.toNat (↑(List.length p + List.length (S1' ++ [y]) - o) : Int) * 2) c2)
        refine kp 51 (.pointer (some (Addr.mk 0 (o * 2 + Int.toNat (↑(List.length p + List.length (S1' ++ [y]) - o) : Int) * 2) none))) ?_ (hop := fun _ => o_indexAddr (a := (↑(List.length p + List.length (S1' ++ [y]) - o) : Int)) (bl := 0) (off := o * 2) (size := 2) 73 (n) g1)
        refine ld (.tuple #[]) (0) (Blk.mk 73 true (List.set (List.set (tcs (p ++ (S1' ++ [y]) ++ x :: (S2 ++ R ++ q))) (o * 2 + Int.toNat (↑(List.length p + List.length (S1' ++ [y]) - o) : Int) * 2) (Value.int .i64 (Prod.fst y))) (o * 2 + Int.toNat (↑(List.length p + List.length (S1' ++ [y]) - o) : Int) * 2 + 1) (Value.string (Prod.snd y)))) ?_ (hop := fun _ => o_storeH (v := Value.agg #[Value.int IntKind.i64 (Prod.fst y), Value.string (Prod.snd y)]) (xs := [Value.int IntKind.i64 (Prod.fst y), Value.string (Prod.snd y)]) (cells := tcs (p ++ (S1' ++ [y]) ++ x :: (S2 ++ R ++ q))) (el := 73) (0) (o * 2 + Int.toNat (↑(List.length p + List.length (S1' ++ [y]) - o) : Int) * 2) (by kernel_rfl) q1)
        refine kp 52 (.pointer (some (Addr.mk 0 (o * 2 + Int.toNat (IntKind.wrap .i64 ((↑(List.length p + List.length (S1' ++ [y]) - o) : Int) - 1)) * 2) none))) ?_ (hop := fun _ => o_indexAddr (a := IntKind.wrap IntKind.i64 ((↑(List.length p + List.length (S1' ++ [y]) - o) : Int) - 1)) (bl := 0) (off := o * 2) (size := 2) 73 (n) g2)
        refine ld (.tuple #[]) (0) (Blk.mk 73 true (List.set (List.set (List.set (List.set (tcs (p ++ (S1' ++ [y]) ++ x :: (S2 ++ R ++ q))) (o * 2 + Int.toNat (↑(List.length p + List.length (S1' ++ [y]) - o) : Int) * 2) (Value.int .i64 (Prod.fst y))) (o * 2 + Int.toNat (↑(List.length p + List.length (S1' ++ [y]) - o) : Int) * 2 + 1) (Value.string (Prod.snd y))) (o * 2 + Int.toNat (IntKind.wrap .i64 ((↑(List.length p + List.length (S1' ++ [y]) - o) : Int) - 1)) * 2) (Value.int .i64 (Prod.fst x))) (o * 2 + Int.toNat (IntKind.wrap .i64 ((↑(List.length p + List.length (S1' ++ [y]) - o) : Int) - 1)) * 2 + 1) (Value.string (Prod.snd x)))) ?_ (hop := fun _ => o_storeH (v := Value.agg #[Value.int IntKind.i64 (Prod.fst x), Value.string (Prod.snd x)]) (xs := [Value.int IntKind.i64 (Prod.fst x), Value.string (Prod.snd x)]) (cells := List.set (List.set (tcs (p ++ (S1' ++ [y]) ++ x :: (S2 ++ R ++ q))) (o * 2 + Int.toNat (↑(List.length p + List.length (S1' ++ [y]) - o) : Int) * 2) (Value.int IntKind.i64 (Prod.fst y))) (o * 2 + Int.toNat (↑(List.length p + List.length (S1' ++ [y]) - o) : Int) * 2 + 1) (Value.string (Prod.snd y))) (el := 73) (0) (o * 2 + Int.toNat (IntKind.wrap IntKind.i64 ((↑(List.length p + List.length (S1' ++ [y]) - o) : Int) - 1)) * 2) (by kernel_rfl) q2)
        refine WpOps.nil (blockK_norm (thenK_at (Wp.text ?_)))
        refine kp 35 (.int IntKind.i64 (↑(List.length p + List.length (S1' ++ [y]) - o) : Int)) ?_
        refine kp 36 (.int IntKind.i64 (IntKind.wrap .i64 ((↑(List.length p + List.length (S1' ++ [y]) - o) : Int) - 1))) ?_
        refine kp 9 (.int IntKind.i64 (IntKind.wrap .i64 ((↑(List.length p + List.length (S1' ++ [y]) - o) : Int) - 1))) ?_
        refine WpOps.nil (thenK_at ?_)
        refine ⟨(S1', y :: S2), by dsimp only; omega, ⟨by dsimp only; rw [hSS]; simp, fun z hz => ?_⟩, ?_⟩
        · rcases List.mem_cons.1 hz with rfl | hz
          · exact hxy
          · exact hgt z hz
        · exact View.of [0] [rowB (p ++ S1' ++ x :: ((y :: S2) ++ R ++ q))] _ (by decide) rfl ⟨⟨_, by kernel_rfl, CellsOk.eq (s1.trans (by simp [rowB])) (tcs_flat _)⟩, trivial⟩ ⟨⟨by kernel_rfl, rfl⟩, ⟨by kernel_rfl, rfl⟩, ⟨by kernel_rfl, rfl⟩, ⟨by kernel_rfl, rfl⟩, ⟨by kernel_rfl, rfl⟩, ⟨congrArg (Value.int .i64) w1, rfl⟩, trivial⟩
      · have d3 : decide (x.1 - y.1 < 0) = false := decide_eq_false (by omega)
        obtain ⟨t1, t2⟩ := stop fun z hz => by
          rw [hSS, srt_app, srt_app] at hS
          rcases List.mem_append.1 hz with hz | hz
          · have := hS.1.2.2 z hz y (by simp)
            omega
          · rw [List.mem_singleton.1 hz]
            omega
        refine Wp.seq (Wp.seq ?_)
        refine Wp.region (by kernel_rfl) ?_
        refine kp 18 (.int IntKind.i64 (↑(List.length p + List.length (S1' ++ [y]) - o) : Int)) ?_
        refine kp 19 (.int IntKind.i64 (↑(List.length p - o) : Int)) ?_
        refine kp 20 (.bool true) ?_ (hop := fun _ => by_fact d2)
        refine kp 21 (.bool true) ?_
        refine kp 22 (.func (Fn.func 43) #[] #[]) ?_
        refine kp 23 (.slice (some (Addr.mk 0 (o * 2) none)) n c) ?_
        refine kp 24 (.int IntKind.i64 (↑(List.length p + List.length (S1' ++ [y]) - o) : Int)) ?_
        refine kp 25 (.pointer (some (Addr.mk 0 (o * 2 + Int.toNat (↑(List.length p + List.length (S1' ++ [y]) - o) : Int) * 2) none))) ?_ (hop := fun _ => o_indexAddr (a := (↑(List.length p + List.length (S1' ++ [y]) - o) : Int)) (bl := 0) (off := o * 2) (size := 2) 73 (n) g1)
        refine kp 26 (.agg #[Value.int .i64 (Prod.fst x), Value.string (Prod.snd x)]) ?_ (hop := fun _ => o_loadA (0) (o * 2 + Int.toNat (↑(List.length p + List.length (S1' ++ [y]) - o) : Int) * 2) c2)
        refine kp 27 (.slice (some (Addr.mk 0 (o * 2) none)) n c) ?_
        refine kp 28 (.int IntKind.i64 (↑(List.length p + List.length (S1' ++ [y]) - o) : Int)) ?_
        refine kp 29 (.int IntKind.i64 (IntKind.wrap .i64 ((↑(List.length p + List.length (S1' ++ [y]) - o) : Int) - 1))) ?_
        refine kp 30 (.pointer (some (Addr.mk 0 (o * 2 + Int.toNat (IntKind.wrap .i64 ((↑(List.length p + List.length (S1' ++ [y]) - o) : Int) - 1)) * 2) none))) ?_ (hop := fun _ => o_indexAddr (a := IntKind.wrap IntKind.i64 ((↑(List.length p + List.length (S1' ++ [y]) - o) : Int) - 1)) (bl := 0) (off := o * 2) (size := 2) 73 (n) g2)
        refine kp 31 (.agg #[Value.int .i64 (Prod.fst y), Value.string (Prod.snd y)]) ?_ (hop := fun _ => o_loadA (0) (o * 2 + Int.toNat (IntKind.wrap IntKind.i64 ((↑(List.length p + List.length (S1' ++ [y]) - o) : Int) - 1)) * 2) c1)
        refine fr 32 43 [Value.agg #[Value.int .i64 (Prod.fst x), Value.string (Prod.snd x)], Value.agg #[Value.int .i64 (Prod.fst y), Value.string (Prod.snd y)]] ?_
        refine WpFun.of (cm) ?_
        refine kp 33 (.bool false) ?_ (hop := fun _ => by_fact d3)
        refine kp 34 (.bool false) ?_
        refine WpOps.nil (thenK_at (off' (Wp.exit (thenK_exit (thenK_exit (blockK_hit (blockK_norm (thenK_at (Wp.text ?_)))))))))
        refine kp 15 (.int IntKind.i64 (↑(List.length p + List.length S - o) : Int)) ?_
        refine kp 16 (.int IntKind.i64 (IntKind.wrap .i64 ((↑(List.length p + List.length S - o) : Int) + 1))) ?_
        refine kp 8 (.int IntKind.i64 (IntKind.wrap .i64 ((↑(List.length p + List.length S - o) : Int) + 1))) ?_
        refine WpOps.nil (thenK_at ?_)
        have hl3 : ((S1' ++ [y]) ++ x :: S2).length = S.length + 1 := by
          rw [hSS]
          simp
          try omega
        have w3 : IntKind.i64.wrap (((p.length + S.length - o : Nat) : Int) + 1) = ((p.length + ((S1' ++ [y]) ++ x :: S2).length - o : Nat) : Int) := by rw [hl3, wr _ (by omega) (by omega)]; omega
        refine ⟨((S1' ++ [y]) ++ x :: S2, R), by dsimp only; simp, ⟨t1, t2, by dsimp only; rw [hl3]; omega⟩, ?_⟩
        exact View.of [0] [rowB (p ++ ((S1' ++ [y]) ++ x :: S2) ++ R ++ q)] _ (by decide) rfl ⟨⟨tcs (p ++ (S1' ++ [y]) ++ x :: (S2 ++ R ++ q)), by kernel_rfl, CellsOk.eq (by simp [rowB]) (tcs_flat _)⟩, trivial⟩ ⟨⟨by kernel_rfl, rfl⟩, ⟨by kernel_rfl, rfl⟩, ⟨by kernel_rfl, rfl⟩, ⟨by kernel_rfl, rfl⟩, ⟨congrArg (Value.int .i64) w3, rfl⟩, trivial⟩
end Go.Proofs.Ytdkmdpklojeepaa.D
