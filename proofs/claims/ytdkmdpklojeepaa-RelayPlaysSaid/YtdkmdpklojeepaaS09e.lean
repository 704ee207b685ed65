/- symMerge: many trips and one. -/
import Derived.Test.YtdkmdpklojeepaaFwLem
import Derived.Test.YtdkmdpklojeepaaFwCons
import Derived.Test.YtdkmdpklojeepaaS09d
namespace Go.Proofs.Ytdkmdpklojeepaa.D
open Go.Fw Go.RowKit

set_option maxHeartbeats 8000000 in
theorem sym63_last (n c o : Nat) (p X : List Tr) (y : Tr) (q : List Tr) (hX : 2 ≤ X.length) (hS : Srt X) (hin : InT (X ++ [y])) (ho : o ≤ p.length) (hn : p.length + X.length + 1 ≤ o + n) (hn2 : n ≤ 1000000) : Lent E 63 [.slice (some ⟨0, o * 2, none⟩) n c, .int .i64 (p.length - o : Nat), .int .i64 (p.length + X.length - o : Nat), .int .i64 (p.length + X.length + 1 - o : Nat), .func (.func 43) #[] #[]] [rowB (p ++ X ++ [y] ++ q)] (.tuple #[]) [rowB (p ++ ssort (X ++ [y]) ++ q)] := by
  refine Lent.of f63 rfl (of_decide_eq_true (by kernel_rfl)) rfl rfl (Nat.le_refl _) (by kernel_rfl) ?_ rfl ?_
  · simp only [rowB, List.all_cons, List.all_nil, okCs_flat (tcs_flat _), Bool.and_true]
  have d0 : (IntKind.i64.wrap (((p.length + X.length - o : Nat) : Int) - ((p.length - o : Nat) : Int)) == 1) = false := by
    rw [wr _ (by omega) (by omega)]
    exact beq_eq_false_iff_ne.2 (by omega)
  have d00 : (IntKind.i64.wrap (((p.length + X.length + 1 - o : Nat) : Int) - ((p.length + X.length - o : Nat) : Int)) == 1) = true := by
    rw [wr _ (by omega) (by omega)]
    exact beq_iff_eq.2 (by omega)
  have hy := hin y (by simp)
  refine Wp.seq (Wp.seq (Wp.text ?_))
  refine kp 25 (.int IntKind.i64 (↑(List.length p + List.length X - o) : Int)) ?_
  refine kp 26 (.int IntKind.i64 (↑(List.length p - o) : Int)) ?_
  refine kp 27 (.int IntKind.i64 (IntKind.wrap .i64 ((↑(List.length p + List.length X - o) : Int) - (↑(List.length p - o) : Int)))) ?_
  refine kp 28 (.bool false) ?_ (hop := fun _ => by_fact d0)
  refine WpOps.nil (thenK_at (off' (Wp.skip (thenK_at (Wp.seq (Wp.seq (Wp.text ?_)))))))
  refine kp 77 (.int IntKind.i64 (↑(List.length p + List.length X + 1 - o) : Int)) ?_
  refine kp 78 (.int IntKind.i64 (↑(List.length p + List.length X - o) : Int)) ?_
  refine kp 79 (.int IntKind.i64 (IntKind.wrap .i64 ((↑(List.length p + List.length X + 1 - o) : Int) - (↑(List.length p + List.length X - o) : Int)))) ?_
  refine kp 80 (.bool true) ?_ (hop := fun _ => by_fact d00)
  refine WpOps.nil (thenK_at (on' (Wp.seq (Wp.text ?_))))
  refine kp 81 (.int IntKind.i64 (↑(List.length p - o) : Int)) ?_
  refine kp 14 (.int IntKind.i64 (↑(List.length p - o) : Int)) ?_
  refine WpOps.nil (thenK_at (Wp.seq (Wp.text ?_)))
  refine kp 82 (.int IntKind.i64 (↑(List.length p + List.length X - o) : Int)) ?_
  refine kp 15 (.int IntKind.i64 (↑(List.length p + List.length X - o) : Int)) ?_
  refine WpOps.nil (thenK_at (Wp.seq (Wp.block ?_)))
  refine Wp.loop (G := Nat × Nat) (fun g => layj [(0, .slice (some ⟨0, o * 2, none⟩) n c), (2, .int .i64 (p.length + X.length - o : Nat)), (4, .func (.func 43) #[] #[]), (14, .int .i64 (p.length + g.1 - o : Nat)), (15, .int .i64 (p.length + g.2 - o : Nat))]) (fun _ => heapOf [rowB (p ++ X ++ [y] ++ q)]) (fun g => g.2 - g.1) (fun g => g.1 ≤ g.2 ∧ g.2 ≤ X.length ∧ (∀ t (h : t < X.length), t < g.1 → X[t].1 ≤ y.1) ∧ (∀ t (h : t < X.length), g.2 ≤ t → y.1 < X[t].1)) (0, X.length)
    (View.of [0] [rowB (p ++ X ++ [y] ++ q)] _ (by decide) rfl ⟨⟨_, rfl, CellsOk.eq rfl (tcs_flat _)⟩, trivial⟩ ⟨⟨by kernel_rfl, rfl⟩, ⟨by kernel_rfl, rfl⟩, ⟨by kernel_rfl, rfl⟩, ⟨by kernel_rfl, rfl⟩, ⟨by kernel_rfl, rfl⟩, trivial⟩) ⟨Nat.zero_le _, Nat.le_refl _, fun t h h2 => absurd h2 (Nat.not_lt_zero _), fun t h h2 => by omega⟩ ?_
  rintro ⟨i, j⟩ ⟨h1, h2, h3, h4⟩
  dsimp only at h1 h2 h3 h4 ⊢
  unfold rowB
  by_cases hlt : i < j
  · have d1 : decide (((p.length + i - o : Nat) : Int) < ((p.length + j - o : Nat) : Int)) = true := decide_eq_true (by omega)
    have hh := half_eq (p.length + i - o) (p.length + j - o) (by omega)
    rw [show (p.length + i - o + (p.length + j - o)) / 2 = p.length + (i + j) / 2 - o by omega] at hh
    have ht1 : i ≤ (i + j) / 2 := by omega
    have ht2 : (i + j) / 2 < j := by omega
    generalize (i + j) / 2 = t at hh ht1 ht2
    have htX : t < X.length := by omega
    have g1 : 0 ≤ IntKind.i64.wrap ((IntKind.u64.wrap (IntKind.i64.wrap (((p.length + i - o : Nat) : Int) + ((p.length + j - o : Nat) : Int)))).fdiv (2 ^ 1)) ∧ IntKind.i64.wrap ((IntKind.u64.wrap (IntKind.i64.wrap (((p.length + i - o : Nat) : Int) + ((p.length + j - o : Nat) : Int)))).fdiv (2 ^ 1)) < n := by rw [hh]; omega
    have g2 : 0 ≤ ((p.length + X.length - o : Nat) : Int) ∧ ((p.length + X.length - o : Nat) : Int) < n := by omega
    have c1 := tcs_at (show (p ++ X ++ [y] ++ q)[p.length + t]? = some X[t] by rw [List.append_assoc (p ++ X), at_in _ _ _ htX, List.getElem?_eq_getElem htX])
    rw [show (p.length + t) * 2 = o * 2 + (IntKind.i64.wrap ((IntKind.u64.wrap (IntKind.i64.wrap (((p.length + i - o : Nat) : Int) + ((p.length + j - o : Nat) : Int)))).fdiv (2 ^ 1))).toNat * 2 by rw [hh, Int.toNat_natCast]; omega] at c1
    have c2 := tcs_at (show (p ++ X ++ [y] ++ q)[p.length + X.length]? = some y by rw [show p.length + X.length = (p ++ X).length + 0 by simp, at_in (p ++ X) [y] q (t := 0) (by simp)]; rfl)
    rw [show (p.length + X.length) * 2 = o * 2 + (((p.length + X.length - o : Nat) : Int)).toNat * 2 by rw [Int.toNat_natCast]; omega] at c2
    have hx := hin X[t] (by simp)
    have cm := cmp43 y X[t] hy hx
    unfold tc at cm
    by_cases hxy : y.1 < X[t].1
    · have d3 : decide (y.1 - X[t].1 < 0) = true := decide_eq_true (by omega)
      refine Wp.seq (Wp.seq (Wp.text ?_))
      refine kp 83 (.int IntKind.i64 (↑(List.length p + i - o) : Int)) ?_
      refine kp 84 (.int IntKind.i64 (↑(List.length p + j - o) : Int)) ?_
      refine kp 85 (.bool true) ?_ (hop := fun _ => by_fact d1)
      refine WpOps.nil (thenK_at (on' (Wp.skip (thenK_at (Wp.block (Wp.seq (Wp.text ?_)))))))
      refine kp 86 (.int IntKind.i64 (↑(List.length p + i - o) : Int)) ?_
      refine kp 87 (.int IntKind.i64 (↑(List.length p + j - o) : Int)) ?_
      refine kp 88 (.int IntKind.i64 (IntKind.wrap .i64 ((↑(List.length p + i - o) : Int) + (↑(List.length p + j - o) : Int)))) ?_
      refine kp 89 (.int IntKind.u64 (IntKind.wrap .u64 (IntKind.wrap .i64 ((↑(List.length p + i - o) : Int) + (↑(List.length p + j - o) : Int))))) ?_
      refine kp 90 (.int IntKind.u64 (Int.fdiv (IntKind.wrap .u64 (IntKind.wrap .i64 ((↑(List.length p + i - o) : Int) + (↑(List.length p + j - o) : Int)))) (2 ^ 1))) ?_
      refine kp 91 (.int IntKind.i64 (IntKind.wrap .i64 (Int.fdiv (IntKind.wrap .u64 (IntKind.wrap .i64 ((↑(List.length p + i - o) : Int) + (↑(List.length p + j - o) : Int)))) (2 ^ 1)))) ?_
      refine kp 16 (.int IntKind.i64 (IntKind.wrap .i64 (Int.fdiv (IntKind.wrap .u64 (IntKind.wrap .i64 ((↑(List.length p + i - o) : Int) + (↑(List.length p + j - o) : Int)))) (2 ^ 1)))) ?_
      refine WpOps.nil (thenK_at (Wp.seq ?_))
      refine Wp.region (by kernel_rfl) ?_
      refine kp 92 (.func (Fn.func 43) #[] #[]) ?_
      refine kp 93 (.slice (some (Addr.mk 0 (o * 2) none)) n c) ?_
      refine kp 94 (.int IntKind.i64 (↑(List.length p + List.length X - o) : Int)) ?_
      refine kp 95 (.pointer (some (Addr.mk 0 (o * 2 + Int.toNat (↑(List.length p + List.length X - o) : Int) * 2) none))) ?_ (hop := fun _ => o_indexAddr (a := (↑(List.length p + List.length X - o) : Int)) (bl := 0) (off := o * 2) (size := 2) 73 (n) g2)
      refine kp 96 (.agg #[Value.int .i64 (Prod.fst y), Value.string (Prod.snd y)]) ?_ (hop := fun _ => o_loadA (0) (o * 2 + Int.toNat (↑(List.length p + List.length X - o) : Int) * 2) c2)
      refine kp 97 (.slice (some (Addr.mk 0 (o * 2) none)) n c) ?_
      refine kp 98 (.int IntKind.i64 (IntKind.wrap .i64 (Int.fdiv (IntKind.wrap .u64 (IntKind.wrap .i64 ((↑(List.length p + i - o) : Int) + (↑(List.length p + j - o) : Int)))) (2 ^ 1)))) ?_
      refine kp 99 (.pointer (some (Addr.mk 0 (o * 2 + Int.toNat (IntKind.wrap .i64 (Int.fdiv (IntKind.wrap .u64 (IntKind.wrap .i64 ((↑(List.length p + i - o) : Int) + (↑(List.length p + j - o) : Int)))) (2 ^ 1))) * 2) none))) ?_ (hop := fun _ => o_indexAddr (a := IntKind.wrap IntKind.i64 (Int.fdiv (IntKind.wrap IntKind.u64 (IntKind.wrap IntKind.i64 ((↑(List.length p + i - o) : Int) + (↑(List.length p + j - o) : Int)))) (2 ^ 1))) (bl := 0) (off := o * 2) (size := 2) 73 (n) g1)
      refine kp 100 (.agg #[Value.int .i64 (Prod.fst X[t]), Value.string (Prod.snd X[t])]) ?_ (hop := fun _ => o_loadA (0) (o * 2 + Int.toNat (IntKind.wrap IntKind.i64 (Int.fdiv (IntKind.wrap IntKind.u64 (IntKind.wrap IntKind.i64 ((↑(List.length p + i - o) : Int) + (↑(List.length p + j - o) : Int)))) (2 ^ 1))) * 2) c1)
      refine fr 101 43 [Value.agg #[Value.int .i64 (Prod.fst y), Value.string (Prod.snd y)], Value.agg #[Value.int .i64 (Prod.fst X[t]), Value.string (Prod.snd X[t])]] ?_
      refine WpFun.of (cm) ?_
      refine kp 102 (.bool true) ?_ (hop := fun _ => by_fact d3)
      refine kp 103 (.bool false) ?_
      refine WpOps.nil (thenK_at (off' (Wp.text ?_)))
      refine kp 106 (.int IntKind.i64 (IntKind.wrap .i64 (Int.fdiv (IntKind.wrap .u64 (IntKind.wrap .i64 ((↑(List.length p + i - o) : Int) + (↑(List.length p + j - o) : Int)))) (2 ^ 1)))) ?_
      refine kp 15 (.int IntKind.i64 (IntKind.wrap .i64 (Int.fdiv (IntKind.wrap .u64 (IntKind.wrap .i64 ((↑(List.length p + i - o) : Int) + (↑(List.length p + j - o) : Int)))) (2 ^ 1)))) ?_
      refine WpOps.nil (blockK_norm (thenK_at ?_))
      refine ⟨(i, t), by dsimp only; omega, ⟨ht1, by dsimp only; omega, h3, fun s hs hs2 => ?_⟩, View.of [0] [rowB (p ++ X ++ [y] ++ q)] _ (by decide) rfl ⟨⟨_, by kernel_rfl, CellsOk.eq rfl (tcs_flat _)⟩, trivial⟩ ⟨⟨by kernel_rfl, rfl⟩, ⟨by kernel_rfl, rfl⟩, ⟨by kernel_rfl, rfl⟩, ⟨by kernel_rfl, rfl⟩, ⟨congrArg (Value.int .i64) hh, rfl⟩, trivial⟩⟩
      have := srt_get hS htX hs hs2
      omega
    · have d3 : decide (y.1 - X[t].1 < 0) = false := decide_eq_false (by omega)
      have w : IntKind.i64.wrap (IntKind.i64.wrap ((IntKind.u64.wrap (IntKind.i64.wrap (((p.length + i - o : Nat) : Int) + ((p.length + j - o : Nat) : Int)))).fdiv (2 ^ 1)) + 1) = ((p.length + (t + 1) - o : Nat) : Int) := by rw [hh, wr _ (by omega) (by omega)]; omega
      refine Wp.seq (Wp.seq (Wp.text ?_))
      refine kp 83 (.int IntKind.i64 (↑(List.length p + i - o) : Int)) ?_
      refine kp 84 (.int IntKind.i64 (↑(List.length p + j - o) : Int)) ?_
      refine kp 85 (.bool true) ?_ (hop := fun _ => by_fact d1)
      refine WpOps.nil (thenK_at (on' (Wp.skip (thenK_at (Wp.block (Wp.seq (Wp.text ?_)))))))
      refine kp 86 (.int IntKind.i64 (↑(List.length p + i - o) : Int)) ?_
      refine kp 87 (.int IntKind.i64 (↑(List.length p + j - o) : Int)) ?_
      refine kp 88 (.int IntKind.i64 (IntKind.wrap .i64 ((↑(List.length p + i - o) : Int) + (↑(List.length p + j - o) : Int)))) ?_
      refine kp 89 (.int IntKind.u64 (IntKind.wrap .u64 (IntKind.wrap .i64 ((↑(List.length p + i - o) : Int) + (↑(List.length p + j - o) : Int))))) ?_
      refine kp 90 (.int IntKind.u64 (Int.fdiv (IntKind.wrap .u64 (IntKind.wrap .i64 ((↑(List.length p + i - o) : Int) + (↑(List.length p + j - o) : Int)))) (2 ^ 1))) ?_
      refine kp 91 (.int IntKind.i64 (IntKind.wrap .i64 (Int.fdiv (IntKind.wrap .u64 (IntKind.wrap .i64 ((↑(List.length p + i - o) : Int) + (↑(List.length p + j - o) : Int)))) (2 ^ 1)))) ?_
      refine kp 16 (.int IntKind.i64 (IntKind.wrap .i64 (Int.fdiv (IntKind.wrap .u64 (IntKind.wrap .i64 ((↑(List.length p + i - o) : Int) + (↑(List.length p + j - o) : Int)))) (2 ^ 1)))) ?_
      refine WpOps.nil (thenK_at (Wp.seq ?_))
      refine Wp.region (by kernel_rfl) ?_
      refine kp 92 (.func (Fn.func 43) #[] #[]) ?_
      refine kp 93 (.slice (some (Addr.mk 0 (o * 2) none)) n c) ?_
      refine kp 94 (.int IntKind.i64 (↑(List.length p + List.length X - o) : Int)) ?_
      refine kp 95 (.pointer (some (Addr.mk 0 (o * 2 + Int.toNat (↑(List.length p + List.length X - o) : Int) * 2) none))) ?_ (hop := fun _ => o_indexAddr (a := (↑(List.length p + List.length X - o) : Int)) (bl := 0) (off := o * 2) (size := 2) 73 (n) g2)
      refine kp 96 (.agg #[Value.int .i64 (Prod.fst y), Value.string (Prod.snd y)]) ?_ (hop := fun _ => o_loadA (0) (o * 2 + Int.toNat (↑(List.length p + List.length X - o) : Int) * 2) c2)
      refine kp 97 (.slice (some (Addr.mk 0 (o * 2) none)) n c) ?_
      refine kp 98 (.int IntKind.i64 (IntKind.wrap .i64 (Int.fdiv (IntKind.wrap .u64 (IntKind.wrap .i64 ((↑(List.length p + i - o) : Int) + (↑(List.length p + j - o) : Int)))) (2 ^ 1)))) ?_
      refine kp 99 (.pointer (some (Addr.mk 0 (o * 2 + Int.toNat (IntKind.wrap .i64 (Int.fdiv (IntKind.wrap .u64 (IntKind.wrap .i64 ((↑(List.length p + i - o) : Int) + (↑(List.length p + j - o) : Int)))) (2 ^ 1))) * 2) none))) ?_ (hop := fun _ => o_indexAddr (a := IntKind.wrap IntKind.i64 (Int.fdiv (IntKind.wrap IntKind.u64 (IntKind.wrap IntKind.i64 ((↑(List.length p + i - o) : Int) + (↑(List.length p + j - o) : Int)))) (2 ^ 1))) (bl := 0) (off := o * 2) (size := 2) 73 (n) g1)
      refine kp 100 (.agg #[Value.int .i64 (Prod.fst X[t]), Value.string (Prod.snd X[t])]) ?_ (hop := fun _ => o_loadA (0) (o * 2 + Int.toNat (IntKind.wrap IntKind.i64 (Int.fdiv (IntKind.wrap IntKind.u64 (IntKind.wrap IntKind.i64 ((↑(List.length p + i - o) : Int) + (↑(List.length p + j - o) : Int)))) (2 ^ 1))) * 2) c1)
      refine fr 101 43 [Value.agg #[Value.int .i64 (Prod.fst y), Value.string (Prod.snd y)], Value.agg #[Value.int .i64 (Prod.fst X[t]), Value.string (Prod.snd X[t])]] ?_
      refine WpFun.of (cm) ?_
      refine kp 102 (.bool false) ?_ (hop := fun _ => by_fact d3)
      refine kp 103 (.bool true) ?_
      refine WpOps.nil (thenK_at (on' (Wp.text ?_)))
      refine kp 104 (.int IntKind.i64 (IntKind.wrap .i64 (Int.fdiv (IntKind.wrap .u64 (IntKind.wrap .i64 ((↑(List.length p + i - o) : Int) + (↑(List.length p + j - o) : Int)))) (2 ^ 1)))) ?_
      refine kp 105 (.int IntKind.i64 (IntKind.wrap .i64 (IntKind.wrap .i64 (Int.fdiv (IntKind.wrap .u64 (IntKind.wrap .i64 ((↑(List.length p + i - o) : Int) + (↑(List.length p + j - o) : Int)))) (2 ^ 1)) + 1))) ?_
      refine kp 14 (.int IntKind.i64 (IntKind.wrap .i64 (IntKind.wrap .i64 (Int.fdiv (IntKind.wrap .u64 (IntKind.wrap .i64 ((↑(List.length p + i - o) : Int) + (↑(List.length p + j - o) : Int)))) (2 ^ 1)) + 1))) ?_
      refine WpOps.nil (blockK_norm (thenK_at ?_))
      refine ⟨(t + 1, j), by dsimp only; omega, ⟨by dsimp only; omega, h2, fun s hs hs2 => ?_, h4⟩, View.of [0] [rowB (p ++ X ++ [y] ++ q)] _ (by decide) rfl ⟨⟨_, by kernel_rfl, CellsOk.eq rfl (tcs_flat _)⟩, trivial⟩ ⟨⟨by kernel_rfl, rfl⟩, ⟨by kernel_rfl, rfl⟩, ⟨by kernel_rfl, rfl⟩, ⟨congrArg (Value.int .i64) w, rfl⟩, ⟨by kernel_rfl, rfl⟩, trivial⟩⟩
      have := srt_get hS hs htX (show s ≤ t by dsimp only at hs2; omega)
      omega
  · obtain rfl : i = j := by omega
    have d1 : decide (((p.length + i - o : Nat) : Int) < ((p.length + i - o : Nat) : Int)) = false := decide_eq_false (by omega)
    have hsrt : ssort (X ++ [y]) = X.take i ++ y :: X.drop i := by
      refine (ssort_is ?_ ?_).symm
      · have hS2 := hS
        rw [← List.take_append_drop i X] at hS2
        obtain ⟨s1, s2, s3⟩ := srt_app.1 hS2
        refine srt_app.2 ⟨s1, List.pairwise_cons.2 ⟨fun z hz => ?_, s2⟩, fun a ha b hb => ?_⟩
        · obtain ⟨k, hk, rfl⟩ := List.getElem_of_mem hz
          rw [List.getElem_drop]
          rw [List.length_drop] at hk
          exact Int.le_of_lt (h4 _ _ (by omega))
        · rcases List.mem_cons.1 hb with rfl | hb
          · obtain ⟨k, hk, rfl⟩ := List.getElem_of_mem ha
            rw [List.getElem_take]
            rw [List.length_take] at hk
            exact h3 _ _ (by omega)
          · exact s3 a ha b hb
      · have hp := (Flt.refl (X.take i)).app (flt_pass (x := y) (l := X.drop i) fun z hz => by
          obtain ⟨k, hk, rfl⟩ := List.getElem_of_mem hz
          rw [List.getElem_drop]
          rw [List.length_drop] at hk
          have := h4 (i + k) (by omega) (by omega)
          omega)
        rw [← List.append_assoc, List.take_append_drop] at hp
        exact hp
    rw [hsrt]
    refine Wp.seq (Wp.seq (Wp.text ?_))
    refine kp 83 (.int IntKind.i64 (↑(List.length p + i - o) : Int)) ?_
    refine kp 84 (.int IntKind.i64 (↑(List.length p + i - o) : Int)) ?_
    refine kp 85 (.bool false) ?_ (hop := fun _ => by_fact d1)
    refine WpOps.nil (thenK_at (off' (Wp.exit (thenK_exit (thenK_exit (blockK_hit (thenK_at (Wp.seq (Wp.seq (Wp.text ?_))))))))))
    refine kp 107 (.int IntKind.i64 (↑(List.length p + List.length X - o) : Int)) ?_
    refine kp 17 (.int IntKind.i64 (↑(List.length p + List.length X - o) : Int)) ?_
    refine WpOps.nil (thenK_at (Wp.block ?_))
    refine Wp.loop (G := Nat) (fun r => layj [(0, .slice (some ⟨0, o * 2, none⟩) n c), (14, .int .i64 (p.length + i - o : Nat)), (17, .int .i64 (p.length + r - o : Nat))]) (fun r => heapOf [rowB (p ++ X.take r ++ y :: (X.drop r ++ q))]) (fun r => r - i) (fun r => i ≤ r ∧ r ≤ X.length) X.length
      (View.of [0] [rowB (p ++ X.take X.length ++ y :: (X.drop X.length ++ q))] _ (by decide) rfl ⟨⟨tcs (p ++ X ++ [y] ++ q), rfl, CellsOk.eq (by simp [rowB]) (tcs_flat _)⟩, trivial⟩ ⟨⟨by kernel_rfl, rfl⟩, ⟨by kernel_rfl, rfl⟩, ⟨by kernel_rfl, rfl⟩, trivial⟩) ⟨h2, Nat.le_refl _⟩ ?_
    rintro r ⟨hr1, hr2⟩
    unfold rowB
    match r, hr1, hr2 with
    | 0, hr1, hr2 => 
      obtain rfl : i = 0 := by omega
      have d4 : decide (((p.length + 0 - o : Nat) : Int) > ((p.length + 0 - o : Nat) : Int)) = false := decide_eq_false (by omega)
      refine Wp.seq (Wp.seq (Wp.text ?_))
      refine kp 108 (.int IntKind.i64 (↑(List.length p + 0 - o) : Int)) ?_
      refine kp 109 (.int IntKind.i64 (↑(List.length p + 0 - o) : Int)) ?_
      refine kp 110 (.bool false) ?_ (hop := fun _ => by_fact d1)
      refine WpOps.nil (thenK_at (off' (Wp.exit (thenK_exit (thenK_exit (blockK_hit (thenK_at (Wp.ret (thenK_ret ?_)))))))))
      refine endK_retn [] (Value.tuple #[]) (by kernel_rfl) (by kernel_rfl) ?_
      exact lentSame [rowB (p ++ (X.take 0 ++ y :: X.drop 0) ++ q)] (pre1 ⟨(by kernel_rfl : _ = some (rowB (p ++ X.take 0 ++ y :: (X.drop 0 ++ q)))).trans (by simp), okCs_flat (tcs_flat _)⟩) (.w (.un rfl rfl))
    | r + 1, hr1, hr2 =>
      by_cases hrl : i < r + 1
      · have d4 : decide (((p.length + (r + 1) - o : Nat) : Int) > ((p.length + i - o : Nat) : Int)) = true := decide_eq_true (by omega)
        have hrX : r < X.length := by omega
        obtain ⟨w, hw⟩ : ∃ w, X[r]? = some w := ⟨_, List.getElem?_eq_getElem hrX⟩
        have ht1 : X.take (r + 1) = X.take r ++ [w] := by
          rw [List.take_add_one, hw]
          rfl
        have ht2 : X.drop r = w :: X.drop (r + 1) := by
          have h := List.drop_eq_getElem_cons hrX
          rw [List.getElem?_eq_getElem hrX] at hw
          rw [Option.some.inj hw] at h
          exact h
        have hl2 : (X.take r).length = r := by rw [List.length_take]; omega
        rw [ht1]
        rw [show p ++ (X.take r ++ [w]) ++ y :: (X.drop (r + 1) ++ q) = (p ++ X.take r ++ w :: ([] ++ y :: (X.drop (r + 1) ++ q))) by simp]
        have w5 : IntKind.i64.wrap (((p.length + (r + 1) - o : Nat) : Int) - 1) = ((p.length + r - o : Nat) : Int) := by rw [wr _ (by omega) (by omega)]; omega
        have g1 : 0 ≤ ((p.length + (r + 1) - o : Nat) : Int) ∧ ((p.length + (r + 1) - o : Nat) : Int) < n := by omega
        have g2 : 0 ≤ IntKind.i64.wrap (((p.length + (r + 1) - o : Nat) : Int) - 1) ∧ IntKind.i64.wrap (((p.length + (r + 1) - o : Nat) : Int) - 1) < n := by rw [w5]; omega
        have e1 : (p ++ X.take r).length * 2 = o * 2 + (IntKind.i64.wrap (((p.length + (r + 1) - o : Nat) : Int) - 1)).toNat * 2 := by rw [w5, List.length_append, hl2, Int.toNat_natCast]; omega
        have e2 : ((p ++ X.take r).length + 1 + ([] : List Tr).length) * 2 = o * 2 + (((p.length + (r + 1) - o : Nat) : Int)).toNat * 2 := by rw [List.length_append, hl2, Int.toNat_natCast, List.length_nil]; omega
        have c1 := sw_lo (p ++ X.take r) w [] y (X.drop (r + 1) ++ q)
        have c2 := sw_hi (p ++ X.take r) w [] y (X.drop (r + 1) ++ q)
        have s1 := sw_hl (p ++ X.take r) w [] y (X.drop (r + 1) ++ q)
        rw [e1] at c1
        rw [e2] at c2
        rw [e1, e2] at s1
        have hLl : (tcs (p ++ X.take r ++ w :: ([] ++ y :: (X.drop (r + 1) ++ q)))).length = ((p ++ X.take r).length + 2 + ([] : List Tr).length + (X.drop (r + 1) ++ q).length) * 2 := sw_len _ _ _ _ _
        rw [List.length_append, hl2, List.length_nil] at hLl
        have q1 : true = true ∧ o * 2 + (((p.length + (r + 1) - o : Nat) : Int)).toNat * 2 + [Value.int .i64 w.1, Value.string w.2].length ≤ (tcs (p ++ X.take r ++ w :: ([] ++ y :: (X.drop (r + 1) ++ q)))).length := by
          refine ⟨rfl, ?_⟩
          rw [hLl, Int.toNat_natCast]
          simp only [List.length_cons, List.length_nil]
          omega
        have q2 : true = true ∧ o * 2 + (IntKind.i64.wrap (((p.length + (r + 1) - o : Nat) : Int) - 1)).toNat * 2 + [Value.int .i64 y.1, Value.string y.2].length ≤ (((tcs (p ++ X.take r ++ w :: ([] ++ y :: (X.drop (r + 1) ++ q)))).set (o * 2 + (((p.length + (r + 1) - o : Nat) : Int)).toNat * 2) (.int .i64 w.1)).set (o * 2 + (((p.length + (r + 1) - o : Nat) : Int)).toNat * 2 + 1) (.string w.2)).length := by
          refine ⟨rfl, ?_⟩
          rw [List.length_set, List.length_set, hLl, w5, Int.toNat_natCast]
          simp only [List.length_cons, List.length_nil]
          omega
        refine Wp.seq (Wp.seq (Wp.text ?_))
        refine kp 108 (.int IntKind.i64 (↑(List.length p + (r + 1) - o) : Int)) ?_
        refine kp 109 (.int IntKind.i64 (↑(List.length p + i - o) : Int)) ?_
        refine kp 110 (.bool true) ?_ (hop := fun _ => by_fact d4)
        refine WpOps.nil (thenK_at (on' (Wp.skip (thenK_at (Wp.seq (Wp.block ?_))))))
        refine Wp.region (by kernel_rfl) ?_
        refine kp 113 (.slice (some (Addr.mk 0 (o * 2) none)) n c) ?_
        refine kp 114 (.int IntKind.i64 (↑(List.length p + (r + 1) - o) : Int)) ?_
        refine kp 115 (.slice (some (Addr.mk 0 (o * 2) none)) n c) ?_
        refine kp 116 (.int IntKind.i64 (↑(List.length p + (r + 1) - o) : Int)) ?_
        refine kp 117 (.int IntKind.i64 (IntKind.wrap .i64 ((↑(List.length p + (r + 1) - o) : Int) - 1))) ?_
        refine kp 118 (.slice (some (Addr.mk 0 (o * 2) none)) n c) ?_
        refine kp 119 (.int IntKind.i64 (↑(List.length p + (r + 1) - o) : Int)) ?_
        refine kp 120 (.int IntKind.i64 (IntKind.wrap .i64 ((↑(List.length p + (r + 1) - o) : Int) - 1))) ?_
        refine kp 121 (.pointer (some (Addr.mk 0 (o * 2 + Int.toNat (IntKind.wrap .i64 ((↑(List.length p + (r + 1) - o) : Int) - 1)) * 2) none))) ?_ (hop := fun _ => o_indexAddr (a := IntKind.wrap IntKind.i64 ((↑(List.length p + (r + 1) - o) : Int) - 1)) (bl := 0) (off := o * 2) (size := 2) 73 (n) g2)
        refine kp 122 (.agg #[Value.int .i64 (Prod.fst w), Value.string (Prod.snd w)]) ?_ (hop := fun _ => o_loadA (0) (o * 2 + Int.toNat (IntKind.wrap IntKind.i64 ((↑(List.length p + (r + 1) - o) : Int) - 1)) * 2) c1)
        refine kp 123 (.slice (some (Addr.mk 0 (o * 2) none)) n c) ?_
        refine kp 124 (.int IntKind.i64 (↑(List.length p + (r + 1) - o) : Int)) ?_
        refine kp 125 (.pointer (some (Addr.mk 0 (o * 2 + Int.toNat (↑(List.length p + (r + 1) - o) : Int) * 2) none))) ?_ (hop := fun _ => o_indexAddr (a := (↑(List.length p + (r + 1) - o) : Int)) (bl := 0) (off := o * 2) (size := 2) 73 (n) g1)
        refine kp 126 (.agg #[Value.int .i64 (Prod.fst y), Value.string (Prod.snd y)]) ?_ (hop := fun _ => o_loadA (0) (o * 2 + Int.toNat (↑(List.length p + (r + 1) - o) : Int) * 2) c2)
        refine kp 127 (.pointer (some (Addr.mk 0 (o * 2 + Int.toNat (↑(List.length p + (r + 1) - o) : Int) * 2) none))) ?_ (hop := fun _ => o_indexAddr (a := (↑(List.length p + (r + 1) - o) : Int)) (bl := 0) (off := o * 2) (size := 2) 73 (n) g1)
        refine ld (.tuple #[]) (0) (Blk.mk 73 true (List.set (List.set (tcs (p ++ List.take r X ++ w :: ([] ++ y :: (List.drop (r + 1) X ++ q)))) (o * 2 + Int.toNat (↑(List.length p + (r + 1) - o) : Int) * 2) (Value.int .i64 (Prod.fst w))) (o * 2 + Int.toNat (↑(List.length p + (r + 1) - o) : Int) * 2 + 1) (Value.string (Prod.snd w)))) ?_ (hop := fun _ => o_storeH (v := Value.agg #[Value.int IntKind.i64 (Prod.fst w), Value.string (Prod.snd w)]) (xs := [Value.int IntKind.i64 (Prod.fst w), Value.string (Prod.snd w)]) (cells := tcs (p ++ List.take r X ++ w :: ([] ++ y :: (List.drop (r + 1) X ++ q)))) (el := 73) (0) (o * 2 + Int.toNat (↑(List.length p + (r + 1) - o) : Int) * 2) (by kernel_rfl) q1)
        refine kp 128 (.pointer (some (Addr.mk 0 (o * 2 + Int.toNat (IntKind.wrap .i64 ((↑(List.length p + (r + 1) - o) : Int) - 1)) * 2) none))) ?_ (hop := fun _ => o_indexAddr (a := IntKind.wrap IntKind.i64 ((↑(List.length p + (r + 1) - o) : Int) - 1)) (bl := 0) (off := o * 2) (size := 2) 73 (n) g2)
        refine ld (.tuple #[]) (0) (Blk.mk 73 true (List.set (List.set (List.set (List.set (tcs (p ++ List.take r X ++ w :: ([] ++ y :: (List.drop (r + 1) X ++ q)))) (o * 2 + Int.toNat (↑(List.length p + (r + 1) - o) : Int) * 2) (Value.int .i64 (Prod.fst w))) (o * 2 + Int.toNat (↑(List.length p + (r + 1) - o) : Int) * 2 + 1) (Value.string (Prod.snd w))) (o * 2 + Int.toNat (IntKind.wrap .i64 ((↑(List.length p + (r + 1) - o) : Int) - 1)) * 2) (Value.int .i64 (Prod.fst y))) (o * 2 + Int.toNat (IntKind.wrap .i64 ((↑(List.length p + (r + 1) - o) : Int) - 1)) * 2 + 1) (Value.string (Prod.snd y)))) ?_ (hop := fun _ => o_storeH (v := Value.agg #[Value.int IntKind.i64 (Prod.fst y), Value.string (Prod.snd y)]) (xs := [Value.int IntKind.i64 (Prod.fst y), Value.string (Prod.snd y)]) (cells := List.set (List.set (tcs (p ++ List.take r X ++ w :: ([] ++ y :: (List.drop (r + 1) X ++ q)))) (o * 2 + Int.toNat (↑(List.length p + (r + 1) - o) : Int) * 2) (Value.int IntKind.i64 (Prod.fst w))) (o * 2 + Int.toNat (↑(List.length p + (r + 1) - o) : Int) * 2 + 1) (Value.string (Prod.snd w))) (el := 73) (0) (o * 2 + Int.toNat (IntKind.wrap IntKind.i64 ((↑(List.length p + (r + 1) - o) : Int) - 1)) * 2) (by kernel_rfl) q2)
        refine WpOps.nil (blockK_norm (thenK_at (Wp.text ?_)))
        refine kp 111 (.int IntKind.i64 (↑(List.length p + (r + 1) - o) : Int)) ?_
        refine kp 112 (.int IntKind.i64 (IntKind.wrap .i64 ((↑(List.length p + (r + 1) - o) : Int) - 1))) ?_
        refine kp 17 (.int IntKind.i64 (IntKind.wrap .i64 ((↑(List.length p + (r + 1) - o) : Int) - 1))) ?_
        refine WpOps.nil (thenK_at ?_)
        refine ⟨r, by omega, ⟨by omega, by omega⟩, ?_⟩
        try dsimp only
        rw [ht2]
        exact View.of [0] [rowB (p ++ X.take r ++ y :: (w :: X.drop (r + 1) ++ q))] _ (by decide) rfl ⟨⟨_, by kernel_rfl, CellsOk.eq (s1.trans (by simp [rowB])) (tcs_flat _)⟩, trivial⟩ ⟨⟨by kernel_rfl, rfl⟩, ⟨by kernel_rfl, rfl⟩, ⟨congrArg (Value.int .i64) w5, rfl⟩, trivial⟩
      · obtain rfl : i = r + 1 := by omega
        have d4 : decide (((p.length + (r + 1) - o : Nat) : Int) > ((p.length + (r + 1) - o : Nat) : Int)) = false := decide_eq_false (by omega)
        refine Wp.seq (Wp.seq (Wp.text ?_))
        refine kp 108 (.int IntKind.i64 (↑(List.length p + (r + 1) - o) : Int)) ?_
        refine kp 109 (.int IntKind.i64 (↑(List.length p + (r + 1) - o) : Int)) ?_
        refine kp 110 (.bool false) ?_ (hop := fun _ => by_fact d1)
        refine WpOps.nil (thenK_at (off' (Wp.exit (thenK_exit (thenK_exit (blockK_hit (thenK_at (Wp.ret (thenK_ret ?_)))))))))
        refine endK_retn [] (Value.tuple #[]) (by kernel_rfl) (by kernel_rfl) ?_
        exact lentSame [rowB (p ++ (X.take (r + 1) ++ y :: X.drop (r + 1)) ++ q)] (pre1 ⟨(by kernel_rfl : _ = some (rowB (p ++ X.take (r + 1) ++ y :: (X.drop (r + 1) ++ q)))).trans (by simp), okCs_flat (tcs_flat _)⟩) (.w (.un rfl rfl))
end Go.Proofs.Ytdkmdpklojeepaa.D
