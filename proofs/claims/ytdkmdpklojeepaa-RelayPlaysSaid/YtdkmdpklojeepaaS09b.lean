/- Two trips swapped; rotate. -/
import Derived.Test.YtdkmdpklojeepaaFwLem
import Derived.Test.YtdkmdpklojeepaaFwCons
import Derived.Test.YtdkmdpklojeepaaS09a
namespace Go.Proofs.Ytdkmdpklojeepaa.D
open Go.Fw Go.RowKit

theorem sw_lo (P : List Tr) (x : Tr) (M : List Tr) (y : Tr) (Q : List Tr) : cellsAt (tcs (P ++ x :: (M ++ y :: Q))) (P.length * 2) 2 = some [.int .i64 x.1, .string x.2] := tcs_slice P x _
theorem sw_hi (P : List Tr) (x : Tr) (M : List Tr) (y : Tr) (Q : List Tr) : cellsAt (tcs (P ++ x :: (M ++ y :: Q))) ((P.length + 1 + M.length) * 2) 2 = some [.int .i64 y.1, .string y.2] := by
  have h := tcs_slice (P ++ x :: M) y Q
  rw [show P ++ x :: M ++ y :: Q = P ++ x :: (M ++ y :: Q) by simp, show (P ++ x :: M).length = P.length + 1 + M.length by simp; omega] at h
  exact h
/-- The low one is stored first. -/
theorem sw_lh (P : List Tr) (x : Tr) (M : List Tr) (y : Tr) (Q : List Tr) : ((((tcs (P ++ x :: (M ++ y :: Q))).set (P.length * 2) (.int .i64 y.1)).set (P.length * 2 + 1) (.string y.2)).set ((P.length + 1 + M.length) * 2) (.int .i64 x.1)).set ((P.length + 1 + M.length) * 2 + 1) (.string x.2) = tcs (P ++ y :: (M ++ x :: Q)) := by
  rw [tcs_set P x y]
  have h := tcs_set (P ++ y :: M) y x Q
  rw [show P ++ y :: M ++ y :: Q = P ++ y :: (M ++ y :: Q) by simp, show P ++ y :: M ++ x :: Q = P ++ y :: (M ++ x :: Q) by simp, show (P ++ y :: M).length = P.length + 1 + M.length by simp; omega] at h
  exact h
/-- The high one is stored first. -/
theorem sw_hl (P : List Tr) (x : Tr) (M : List Tr) (y : Tr) (Q : List Tr) : ((((tcs (P ++ x :: (M ++ y :: Q))).set ((P.length + 1 + M.length) * 2) (.int .i64 x.1)).set ((P.length + 1 + M.length) * 2 + 1) (.string x.2)).set (P.length * 2) (.int .i64 y.1)).set (P.length * 2 + 1) (.string y.2) = tcs (P ++ y :: (M ++ x :: Q)) := by
  have h := tcs_set (P ++ x :: M) y x Q
  rw [show P ++ x :: M ++ y :: Q = P ++ x :: (M ++ y :: Q) by simp, show P ++ x :: M ++ x :: Q = P ++ x :: (M ++ x :: Q) by simp, show (P ++ x :: M).length = P.length + 1 + M.length by simp; omega] at h
  rw [h]
  exact tcs_set P x y _
theorem sw_len (P : List Tr) (x : Tr) (M : List Tr) (y : Tr) (Q : List Tr) : (tcs (P ++ x :: (M ++ y :: Q))).length = (P.length + 2 + M.length + Q.length) * 2 := by
  rw [tcs_len]
  simp only [List.length_append, List.length_cons]
  omega
theorem f64 : E.funcs 64 = some Try.f64 := by kernel_rfl
set_option maxHeartbeats 4000000 in
theorem rot64 (n c o : Nat) (p A B q : List Tr) (hA : 0 < A.length) (hB : 0 < B.length) (ho : o ≤ p.length) (hn : p.length + A.length + B.length ≤ o + n) (hn2 : n ≤ 1000000) (hc : n ≤ c) : Lent E 64 [.slice (some ⟨0, o * 2, none⟩) n c, .int .i64 (p.length - o : Nat), .int .i64 (p.length + A.length - o : Nat), .int .i64 (p.length + A.length + B.length - o : Nat), .func (.func 43) #[] #[]] [rowB (p ++ A ++ B ++ q)] (.tuple #[]) [rowB (p ++ B ++ A ++ q)] := by
  refine Lent.of f64 rfl (of_decide_eq_true (by kernel_rfl)) rfl rfl (Nat.le_refl _) (by kernel_rfl) ?_ rfl ?_
  · simp only [rowB, List.all_cons, List.all_nil, okCs_flat (tcs_flat _), Bool.and_true]
  have w1 : IntKind.i64.wrap (((p.length + A.length - o : Nat) : Int) - ((p.length - o : Nat) : Int)) = (A.length : Int) := by rw [wr _ (by omega) (by omega)]; omega
  have w2 : IntKind.i64.wrap (((p.length + A.length + B.length - o : Nat) : Int) - ((p.length + A.length - o : Nat) : Int)) = (B.length : Int) := by rw [wr _ (by omega) (by omega)]; omega
  refine Wp.seq (Wp.text ?_)
  refine kp 12 (.int IntKind.i64 (↑(List.length p + List.length A - o) : Int)) ?_
  refine kp 13 (.int IntKind.i64 (↑(List.length p - o) : Int)) ?_
  refine kp 14 (.int IntKind.i64 (IntKind.wrap .i64 ((↑(List.length p + List.length A - o) : Int) - (↑(List.length p - o) : Int)))) ?_
  refine kp 10 (.int IntKind.i64 (IntKind.wrap .i64 ((↑(List.length p + List.length A - o) : Int) - (↑(List.length p - o) : Int)))) ?_
  refine WpOps.nil (thenK_at (Wp.seq (Wp.text ?_)))
  refine kp 15 (.int IntKind.i64 (↑(List.length p + List.length A + List.length B - o) : Int)) ?_
  refine kp 16 (.int IntKind.i64 (↑(List.length p + List.length A - o) : Int)) ?_
  refine kp 17 (.int IntKind.i64 (IntKind.wrap .i64 ((↑(List.length p + List.length A + List.length B - o) : Int) - (↑(List.length p + List.length A - o) : Int)))) ?_
  refine kp 11 (.int IntKind.i64 (IntKind.wrap .i64 ((↑(List.length p + List.length A + List.length B - o) : Int) - (↑(List.length p + List.length A - o) : Int)))) ?_
  refine WpOps.nil (thenK_at (Wp.seq (Wp.block ?_)))
  refine Wp.loop (G := List Tr × List Tr × List Tr × List Tr) (fun g => layj [(0, .slice (some ⟨0, o * 2, none⟩) n c), (2, .int .i64 (p.length + A.length - o : Nat)), (4, .func (.func 43) #[] #[]), (10, .int .i64 g.2.1.length), (11, .int .i64 g.2.2.1.length)]) (fun g => heapOf [rowB (g.1 ++ g.2.1 ++ g.2.2.1 ++ g.2.2.2)]) (fun g => g.2.1.length + g.2.2.1.length) (fun g => o ≤ g.1.length ∧ g.1.length + g.2.1.length = p.length + A.length ∧ g.2.2.1.length ≤ B.length ∧ 0 < g.2.1.length ∧ 0 < g.2.2.1.length ∧ g.1 ++ g.2.2.1 ++ g.2.1 ++ g.2.2.2 = p ++ B ++ A ++ q) (p, A, B, q)
    (View.of [0] [rowB (p ++ A ++ B ++ q)] _ (by decide) rfl ⟨⟨_, rfl, CellsOk.eq rfl (tcs_flat _)⟩, trivial⟩ ⟨⟨by kernel_rfl, rfl⟩, ⟨by kernel_rfl, rfl⟩, ⟨by kernel_rfl, rfl⟩, ⟨congrArg (Value.int .i64) w1, rfl⟩, ⟨congrArg (Value.int .i64) w2, rfl⟩, trivial⟩) ⟨ho, rfl, Nat.le_refl _, hA, hB, rfl⟩ ?_
  rintro ⟨P, X, Y, Q⟩ ⟨h1, h2, h3, h4, h5, h6⟩
  dsimp only at h1 h2 h3 h4 h5 h6 ⊢
  have v1 : IntKind.i64.wrap (((p.length + A.length - o : Nat) : Int) - (X.length : Int)) = ((P.length - o : Nat) : Int) := by rw [wr _ (by omega) (by omega)]; omega
  by_cases he : X.length = Y.length
  · have d1 : ((X.length : Int) != (Y.length : Int)) = false := by rw [he]; simp
    have cs := (swap65 n c o P X [] Y Q he h1 (by simp only [List.length_nil]; omega) hn2).call
    rw [List.append_nil, List.append_nil, List.length_nil, Nat.add_zero, show P.length + X.length = p.length + A.length from h2, ← v1, h6] at cs
    refine Wp.seq (Wp.seq (Wp.text ?_))
    refine kp 18 (.int IntKind.i64 (↑(List.length X) : Int)) ?_
    refine kp 19 (.int IntKind.i64 (↑(List.length Y) : Int)) ?_
    refine kp 20 (.bool false) ?_ (hop := fun _ => by_fact d1)
    refine WpOps.nil (thenK_at (off' (Wp.exit (thenK_exit (thenK_exit (blockK_hit (thenK_at (Wp.text ?_))))))))
    refine kp 50 (.slice (some (Addr.mk 0 (o * 2) none)) n c) ?_
    refine kp 51 (.int IntKind.i64 (↑(List.length p + List.length A - o) : Int)) ?_
    refine kp 52 (.int IntKind.i64 (↑(List.length X) : Int)) ?_
    refine kp 53 (.int IntKind.i64 (IntKind.wrap .i64 ((↑(List.length p + List.length A - o) : Int) - (↑(List.length X) : Int)))) ?_
    refine kp 54 (.int IntKind.i64 (↑(List.length p + List.length A - o) : Int)) ?_
    refine kp 55 (.int IntKind.i64 (↑(List.length X) : Int)) ?_
    refine kp 56 (.func (Fn.func 43) #[] #[]) ?_
    refine cl 57 65 [Value.slice (some (Addr.mk 0 (o * 2) none)) n c, Value.int .i64 (IntKind.wrap .i64 ((↑(List.length p + List.length A - o) : Int) - (↑(List.length X) : Int))), Value.int .i64 (↑(List.length p + List.length A - o) : Int), Value.int .i64 (↑(List.length X) : Int), Value.func (Fn.func 43) #[] #[]] ?_
    refine WpCall.enterL cs rfl ?_
    refine WpOps.nil ?_
    refine endK_norm [] (Value.tuple #[]) (by kernel_rfl) (by kernel_rfl) ?_
    exact lentSame [rowB (p ++ B ++ A ++ q)] (pre1 ⟨by kernel_rfl, okCs_flat (tcs_flat _)⟩) (.w (.un rfl rfl))
  · have d1 : ((X.length : Int) != (Y.length : Int)) = true := by simp [bne]; omega
    by_cases hg : Y.length < X.length
    · have d2 : decide ((X.length : Int) > (Y.length : Int)) = true := decide_eq_true (by omega)
      have hX : X = X.take Y.length ++ X.drop Y.length := (List.take_append_drop _ _).symm
      have l1 : (X.take Y.length).length = Y.length := by rw [List.length_take]; omega
      have l2 : (X.drop Y.length).length = X.length - Y.length := List.length_drop
      have cs := (swap65 n c o P (X.take Y.length) (X.drop Y.length) Y Q l1 h1 (by omega) hn2).call
      rw [show P ++ X.take Y.length ++ X.drop Y.length ++ Y ++ Q = P ++ X ++ Y ++ Q by rw [List.append_assoc P, ← hX], l1, l2, show P.length + Y.length + (X.length - Y.length) - o = p.length + A.length - o by omega, ← v1] at cs
      have v2 : IntKind.i64.wrap ((X.length : Int) - (Y.length : Int)) = ((X.drop Y.length).length : Int) := by rw [wr _ (by omega) (by omega), l2]; omega
      refine Wp.seq (Wp.seq (Wp.text ?_))
      refine kp 18 (.int IntKind.i64 (↑(List.length X) : Int)) ?_
      refine kp 19 (.int IntKind.i64 (↑(List.length Y) : Int)) ?_
      refine kp 20 (.bool true) ?_ (hop := fun _ => by_fact d1)
      refine WpOps.nil (thenK_at (on' (Wp.skip (thenK_at (Wp.block (Wp.seq (Wp.text ?_)))))))
      refine kp 21 (.int IntKind.i64 (↑(List.length X) : Int)) ?_
      refine kp 22 (.int IntKind.i64 (↑(List.length Y) : Int)) ?_
      refine kp 23 (.bool true) ?_ (hop := fun _ => by_fact d2)
      refine WpOps.nil (thenK_at (on' (Wp.seq (Wp.text ?_))))
      refine kp 24 (.slice (some (Addr.mk 0 (o * 2) none)) n c) ?_
      refine kp 25 (.int IntKind.i64 (↑(List.length p + List.length A - o) : Int)) ?_
      refine kp 26 (.int IntKind.i64 (↑(List.length X) : Int)) ?_
      refine kp 27 (.int IntKind.i64 (IntKind.wrap .i64 ((↑(List.length p + List.length A - o) : Int) - (↑(List.length X) : Int)))) ?_
      refine kp 28 (.int IntKind.i64 (↑(List.length p + List.length A - o) : Int)) ?_
      refine kp 29 (.int IntKind.i64 (↑(List.length Y) : Int)) ?_
      refine kp 30 (.func (Fn.func 43) #[] #[]) ?_
      refine cl 31 65 [Value.slice (some (Addr.mk 0 (o * 2) none)) n c, Value.int .i64 (IntKind.wrap .i64 ((↑(List.length p + List.length A - o) : Int) - (↑(List.length X) : Int))), Value.int .i64 (↑(List.length p + List.length A - o) : Int), Value.int .i64 (↑(List.length Y) : Int), Value.func (Fn.func 43) #[] #[]] ?_
      refine WpCall.enterL cs rfl ?_
      refine WpOps.nil (thenK_at (Wp.text ?_))
      refine kp 32 (.int IntKind.i64 (↑(List.length X) : Int)) ?_
      refine kp 33 (.int IntKind.i64 (↑(List.length Y) : Int)) ?_
      refine kp 34 (.int IntKind.i64 (IntKind.wrap .i64 ((↑(List.length X) : Int) - (↑(List.length Y) : Int)))) ?_
      refine kp 10 (.int IntKind.i64 (IntKind.wrap .i64 ((↑(List.length X) : Int) - (↑(List.length Y) : Int)))) ?_
      refine WpOps.nil (blockK_norm (thenK_at ?_))
      refine ⟨(P ++ Y, X.drop Y.length, X.take Y.length, Q), by dsimp only; omega, ⟨by dsimp only; rw [List.length_append]; omega, by dsimp only; rw [List.length_append]; omega, by dsimp only; omega, by dsimp only; omega, by dsimp only; omega, ?_⟩, ?_⟩
      · dsimp only
        rw [← h6]
        conv => rhs; rw [hX]
        simp only [List.append_assoc]
      · exact View.of [0] [rowB (P ++ Y ++ X.drop Y.length ++ X.take Y.length ++ Q)] _ (by decide) rfl ⟨⟨_, rfl, CellsOk.eq rfl (tcs_flat _)⟩, trivial⟩ ⟨⟨by kernel_rfl, rfl⟩, ⟨by kernel_rfl, rfl⟩, ⟨by kernel_rfl, rfl⟩, ⟨congrArg (Value.int .i64) v2, rfl⟩, ⟨congrArg (fun z : Nat => Value.int .i64 z) l1.symm, rfl⟩, trivial⟩
    · have d2 : decide ((X.length : Int) > (Y.length : Int)) = false := decide_eq_false (by omega)
      have hY : Y = Y.take (Y.length - X.length) ++ Y.drop (Y.length - X.length) := (List.take_append_drop _ _).symm
      have l1 : (Y.take (Y.length - X.length)).length = Y.length - X.length := by rw [List.length_take]; omega
      have l2 : (Y.drop (Y.length - X.length)).length = X.length := by rw [List.length_drop]; omega
      have cs := (swap65 n c o P X (Y.take (Y.length - X.length)) (Y.drop (Y.length - X.length)) Q l2.symm h1 (by omega) hn2).call
      have v3 : IntKind.i64.wrap (IntKind.i64.wrap (((p.length + A.length - o : Nat) : Int) + (Y.length : Int)) - (X.length : Int)) = ((P.length + X.length + (Y.length - X.length) - o : Nat) : Int) := by
        rw [wr (((p.length + A.length - o : Nat) : Int) + (Y.length : Int)) (by omega) (by omega), wr _ (by omega) (by omega)]
        omega
      rw [show P ++ X ++ Y.take (Y.length - X.length) ++ Y.drop (Y.length - X.length) ++ Q = P ++ X ++ Y ++ Q by rw [List.append_assoc (P ++ X), ← hY], l1, ← v1, ← v3] at cs
      have v2 : IntKind.i64.wrap ((Y.length : Int) - (X.length : Int)) = ((Y.take (Y.length - X.length)).length : Int) := by rw [wr _ (by omega) (by omega), l1]; omega
      refine Wp.seq (Wp.seq (Wp.text ?_))
      refine kp 18 (.int IntKind.i64 (↑(List.length X) : Int)) ?_
      refine kp 19 (.int IntKind.i64 (↑(List.length Y) : Int)) ?_
      refine kp 20 (.bool true) ?_ (hop := fun _ => by_fact d1)
      refine WpOps.nil (thenK_at (on' (Wp.skip (thenK_at (Wp.block (Wp.seq (Wp.text ?_)))))))
      refine kp 21 (.int IntKind.i64 (↑(List.length X) : Int)) ?_
      refine kp 22 (.int IntKind.i64 (↑(List.length Y) : Int)) ?_
      refine kp 23 (.bool false) ?_ (hop := fun _ => by_fact d2)
      refine WpOps.nil (thenK_at (off' (Wp.seq (Wp.text ?_))))
      refine kp 35 (.slice (some (Addr.mk 0 (o * 2) none)) n c) ?_
      refine kp 36 (.int IntKind.i64 (↑(List.length p + List.length A - o) : Int)) ?_
      refine kp 37 (.int IntKind.i64 (↑(List.length X) : Int)) ?_
      refine kp 38 (.int IntKind.i64 (IntKind.wrap .i64 ((↑(List.length p + List.length A - o) : Int) - (↑(List.length X) : Int)))) ?_
      refine kp 39 (.int IntKind.i64 (↑(List.length p + List.length A - o) : Int)) ?_
      refine kp 40 (.int IntKind.i64 (↑(List.length Y) : Int)) ?_
      refine kp 41 (.int IntKind.i64 (IntKind.wrap .i64 ((↑(List.length p + List.length A - o) : Int) + (↑(List.length Y) : Int)))) ?_
      refine kp 42 (.int IntKind.i64 (↑(List.length X) : Int)) ?_
      refine kp 43 (.int IntKind.i64 (IntKind.wrap .i64 (IntKind.wrap .i64 ((↑(List.length p + List.length A - o) : Int) + (↑(List.length Y) : Int)) - (↑(List.length X) : Int)))) ?_
      refine kp 44 (.int IntKind.i64 (↑(List.length X) : Int)) ?_
      refine kp 45 (.func (Fn.func 43) #[] #[]) ?_
      refine cl 46 65 [Value.slice (some (Addr.mk 0 (o * 2) none)) n c, Value.int .i64 (IntKind.wrap .i64 ((↑(List.length p + List.length A - o) : Int) - (↑(List.length X) : Int))), Value.int .i64 (IntKind.wrap .i64 (IntKind.wrap .i64 ((↑(List.length p + List.length A - o) : Int) + (↑(List.length Y) : Int)) - (↑(List.length X) : Int))), Value.int .i64 (↑(List.length X) : Int), Value.func (Fn.func 43) #[] #[]] ?_
      refine WpCall.enterL cs rfl ?_
      refine WpOps.nil (thenK_at (Wp.text ?_))
      refine kp 47 (.int IntKind.i64 (↑(List.length Y) : Int)) ?_
      refine kp 48 (.int IntKind.i64 (↑(List.length X) : Int)) ?_
      refine kp 49 (.int IntKind.i64 (IntKind.wrap .i64 ((↑(List.length Y) : Int) - (↑(List.length X) : Int)))) ?_
      refine kp 11 (.int IntKind.i64 (IntKind.wrap .i64 ((↑(List.length Y) : Int) - (↑(List.length X) : Int)))) ?_
      refine WpOps.nil (blockK_norm (thenK_at ?_))
      refine ⟨(P, Y.drop (Y.length - X.length), Y.take (Y.length - X.length), X ++ Q), by dsimp only; omega, ⟨h1, by dsimp only; omega, by dsimp only; omega, by dsimp only; omega, by dsimp only; omega, ?_⟩, ?_⟩
      · dsimp only
        rw [← h6]
        conv => rhs; rw [hY]
        simp only [List.append_assoc]
      · exact View.of [0] [rowB (P ++ Y.drop (Y.length - X.length) ++ Y.take (Y.length - X.length) ++ (X ++ Q))] _ (by decide) rfl ⟨⟨_, rfl, CellsOk.eq (by simp only [List.append_assoc]; rfl) (tcs_flat _)⟩, trivial⟩ ⟨⟨by kernel_rfl, rfl⟩, ⟨by kernel_rfl, rfl⟩, ⟨by kernel_rfl, rfl⟩, ⟨congrArg (fun z : Nat => Value.int .i64 z) l2.symm, rfl⟩, ⟨congrArg (Value.int .i64) v2, rfl⟩, trivial⟩
end Go.Proofs.Ytdkmdpklojeepaa.D
