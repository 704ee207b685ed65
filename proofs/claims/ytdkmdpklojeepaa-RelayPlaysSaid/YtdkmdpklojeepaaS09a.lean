/- Trips; two swapped; swapRange. -/
import Derived.Test.YtdkmdpklojeepaaFwLem
import Derived.Test.YtdkmdpklojeepaaFwCons
import Derived.Test.YtdkmdpklojeepaaFwMat
import Derived.Test.YtdkmdpklojeepaaFwEnter
import Derived.Test.YtdkmdpklojeepaaFwOver
import Derived.Test.YtdkmdpklojeepaaF09a
namespace Go.Proofs.Ytdkmdpklojeepaa.D
open Go.Fw Go.RowKit

abbrev Tr := Int × ByteArray
def tc (t : Tr) : List Value := [.int .i64 t.1, .string t.2]
def tcs (l : List Tr) : List Value := l.flatMap tc
theorem tcs_len : ∀ l, (tcs l).length = l.length * 2
  | [] => rfl
  | a :: l => by
    have ih := tcs_len l
    unfold tcs at ih ⊢
    rw [List.flatMap_cons, List.length_append, ih, List.length_cons]
    show 2 + _ = _
    omega
theorem tcs_flat : ∀ l, (tcs l).all flat = true
  | [] => rfl
  | a :: l => by
    have ih := tcs_flat l
    unfold tcs at ih ⊢
    rw [List.flatMap_cons, List.all_append, ih]
    rfl
theorem tcs_app (a b : List Tr) : tcs (a ++ b) = tcs a ++ tcs b := by simp [tcs]
theorem tcs_slice (p : List Tr) (t : Tr) (q : List Tr) : cellsAt (tcs (p ++ t :: q)) (p.length * 2) 2 = some (tc t) := by
  unfold cellsAt
  rw [if_pos (by rw [tcs_len, List.length_append, List.length_cons]; omega), tcs_app, List.drop_left' (tcs_len p)]
  rfl
theorem tcs_set (p : List Tr) (t u : Tr) (q : List Tr) : ((tcs (p ++ t :: q)).set (p.length * 2) (.int .i64 u.1)).set (p.length * 2 + 1) (.string u.2) = tcs (p ++ u :: q) := by
  have e : ∀ (a : List Value) (x y : Value) (b : List Value) (n : Nat) (h : a.length = n) (c d : Value), ((a ++ x :: y :: b).set n c).set (n + 1) d = a ++ c :: d :: b := fun a x y b n h c d => by
    subst h
    rw [List.set_append_right _ _ (Nat.le_refl _), Nat.sub_self, List.set_cons_zero, List.set_append_right _ _ (by omega), show a.length + 1 - a.length = 1 by omega]
    rfl
  rw [tcs_app, tcs_app]
  exact e _ _ _ _ _ (tcs_len p) _ _
theorem wr (z : Int) (h0 : -9223372036854775808 ≤ z) (h1 : z ≤ 9223372036854775807) : IntKind.i64.wrap z = z := by
  rw [IntKind.wrap_i64]
  omega
theorem f43 : E.funcs 43 = some Try.f43 := by kernel_rfl
theorem cmp43 (x y : Tr) (hx : 0 ≤ x.1 ∧ x.1 ≤ 1000000000) (hy : 0 ≤ y.1 ∧ y.1 ≤ 1000000000) : Fun E 43 [.agg (tc x).toArray, .agg (tc y).toArray] (.int .i64 (x.1 - y.1)) := by
  refine Fun.of f43 rfl (of_decide_eq_true (by kernel_rfl)) rfl ?_
  unfold tc
  refine Wp.seq (Wp.text ?_)
  refine md 2 (.pointer (some ⟨0, 0, none⟩)) (Blk.mk 73 true [Value.int .i64 (Prod.fst x), Value.string (Prod.snd x)]) ?_
  refine md 3 (.pointer (some ⟨1, 0, none⟩)) (Blk.mk 73 true [Value.int .i64 (Prod.fst y), Value.string (Prod.snd y)]) ?_
  refine kp 4 (.int IntKind.i64 0) ?_
  refine WpOps.nil (thenK_at (Wp.seq (Wp.text ?_)))
  refine kp 5 (.pointer (some ⟨0, 0, none⟩)) ?_
  refine kp 6 (.int IntKind.i64 (Prod.fst x)) ?_
  refine kp 7 (.pointer (some ⟨1, 0, none⟩)) ?_
  refine kp 8 (.int IntKind.i64 (Prod.fst y)) ?_
  refine kp 9 (.int IntKind.i64 (IntKind.wrap .i64 (Prod.fst x - Prod.fst y))) ?_
  refine kp 4 (.int IntKind.i64 (IntKind.wrap .i64 (Prod.fst x - Prod.fst y))) ?_
  refine WpOps.nil (thenK_at (Wp.ret ?_))
  refine endK_retn [Value.int IntKind.i64 (IntKind.wrap IntKind.i64 (Prod.fst x - Prod.fst y))] (Value.int IntKind.i64 (IntKind.wrap IntKind.i64 (Prod.fst x - Prod.fst y))) (by kernel_rfl) (by kernel_rfl) ?_
  rw [wr _ (by omega) (by omega)]
  rfl
theorem pre1 {P : Nat → Blk → Prop} {a : Blk} (h0 : P 0 a) : ∀ b x, [a][b]? = some x → P b x
  | 0, x, h => by cases h; exact h0
  | b + 1, x, h => by simp at h
theorem f65 : E.funcs 65 = some Try.f65 := by kernel_rfl
/-- The row that is sorted. -/
def rowB (l : List Tr) : Blk := ⟨73, true, tcs l⟩
set_option maxHeartbeats 4000000 in
/-- Two stretches of one length change places. -/
theorem swap65 (n c o : Nat) (p A m B q : List Tr) (hAB : A.length = B.length) (ho : o ≤ p.length) (hn : p.length + A.length + m.length + B.length ≤ o + n) (hn2 : n ≤ 1000000) : Lent E 65 [.slice (some ⟨0, o * 2, none⟩) n c, .int .i64 (p.length - o : Nat), .int .i64 (p.length + A.length + m.length - o : Nat), .int .i64 A.length, .func (.func 43) #[] #[]] [rowB (p ++ A ++ m ++ B ++ q)] (.tuple #[]) [rowB (p ++ B ++ m ++ A ++ q)] := by
  refine Lent.of f65 rfl (of_decide_eq_true (by kernel_rfl)) rfl rfl (Nat.le_refl _) (by kernel_rfl) ?_ rfl ?_
  · simp only [rowB, List.all_cons, List.all_nil, okCs_flat (tcs_flat _), Bool.and_true]
  unfold rowB
  refine Wp.seq (Wp.text ?_)
  refine kp 10 (.int IntKind.i64 0) ?_
  refine WpOps.nil (thenK_at (Wp.block ?_))
  refine Wp.loop (G := Nat) (fun k => layj [(0, .slice (some ⟨0, o * 2, none⟩) n c), (1, .int .i64 (p.length - o : Nat)), (2, .int .i64 (p.length + A.length + m.length - o : Nat)), (3, .int .i64 A.length), (10, .int .i64 k)]) (fun k => heapOf [rowB (p ++ (B.take k ++ A.drop k) ++ m ++ (A.take k ++ B.drop k) ++ q)]) (fun k => A.length - k) (fun k => k ≤ A.length) 0
    (View.of [0] [rowB (p ++ A ++ m ++ B ++ q)] _ (by decide) rfl ⟨⟨_, rfl, CellsOk.eq rfl (tcs_flat _)⟩, trivial⟩ ⟨⟨by kernel_rfl, rfl⟩, ⟨by kernel_rfl, rfl⟩, ⟨by kernel_rfl, rfl⟩, ⟨by kernel_rfl, rfl⟩, ⟨by kernel_rfl, rfl⟩, trivial⟩) (Nat.zero_le _) ?_
  intro k hk
  unfold rowB
  by_cases hlt : k < A.length
  · have d1 : decide ((k : Int) < A.length) = true := decide_eq_true (by omega)
    obtain ⟨x, A2, hA⟩ : ∃ x A2, A.drop k = x :: A2 := ⟨A[k], A.drop (k + 1), List.drop_eq_getElem_cons hlt⟩
    obtain ⟨y, B2, hB⟩ : ∃ y B2, B.drop k = y :: B2 := ⟨B[k]'(by omega), B.drop (k + 1), List.drop_eq_getElem_cons (by omega)⟩
    have hk1 : (B.take k).length = k := by rw [List.length_take]; omega
    have hk2 : (A.take k).length = k := by rw [List.length_take]; omega
    have hA2 : A2.length + k + 1 = A.length := by
      have := congrArg List.length hA
      rw [List.length_drop, List.length_cons] at this
      omega
    have w1 : IntKind.i64.wrap (((p.length - o : Nat) : Int) + (k : Int)) = ((p.length - o + k : Nat) : Int) := by rw [wr _ (by omega) (by omega)]; omega
    have w2 : IntKind.i64.wrap (((p.length + A.length + m.length - o : Nat) : Int) + (k : Int)) = ((p.length + A.length + m.length - o + k : Nat) : Int) := by rw [wr _ (by omega) (by omega)]; omega
    have g1 : 0 ≤ IntKind.i64.wrap (((p.length - o : Nat) : Int) + (k : Int)) ∧ IntKind.i64.wrap (((p.length - o : Nat) : Int) + (k : Int)) < n := by rw [w1]; omega
    have g2 : 0 ≤ IntKind.i64.wrap (((p.length + A.length + m.length - o : Nat) : Int) + (k : Int)) ∧ IntKind.i64.wrap (((p.length + A.length + m.length - o : Nat) : Int) + (k : Int)) < n := by rw [w2]; omega
    rw [hA, hB]
    have c1 := tcs_slice (p ++ B.take k) x (A2 ++ m ++ A.take k ++ (y :: B2) ++ q)
    have c2 := tcs_slice (p ++ B.take k ++ (x :: A2) ++ m ++ A.take k) y (B2 ++ q)
    have e1 : (p ++ B.take k).length * 2 = o * 2 + (IntKind.i64.wrap (((p.length - o : Nat) : Int) + (k : Int))).toNat * 2 := by rw [w1, List.length_append, hk1, Int.toNat_natCast]; omega
    have e2 : (p ++ B.take k ++ (x :: A2) ++ m ++ A.take k).length * 2 = o * 2 + (IntKind.i64.wrap (((p.length + A.length + m.length - o : Nat) : Int) + (k : Int))).toNat * 2 := by
      simp only [w2, List.length_append, List.length_cons, hk1, hk2, Int.toNat_natCast]
      omega
    rw [e1] at c1
    rw [e2] at c2
    have r1 : p ++ B.take k ++ x :: (A2 ++ m ++ A.take k ++ (y :: B2) ++ q) = p ++ (B.take k ++ x :: A2) ++ m ++ (A.take k ++ y :: B2) ++ q := by simp
    have r2 : p ++ B.take k ++ (x :: A2) ++ m ++ A.take k ++ y :: (B2 ++ q) = p ++ (B.take k ++ x :: A2) ++ m ++ (A.take k ++ y :: B2) ++ q := by simp
    rw [r1] at c1
    rw [r2] at c2
    have hLl : (p ++ (B.take k ++ x :: A2) ++ m ++ (A.take k ++ y :: B2) ++ q).length = p.length + A.length + m.length + B.length + q.length := by
      have hB2 : B2.length + k + 1 = B.length := by
        have := congrArg List.length hB
        rw [List.length_drop, List.length_cons] at this
        omega
      simp only [List.length_append, List.length_cons, hk1, hk2]
      omega
    have q1 : true = true ∧ (o * 2 + (IntKind.i64.wrap (((p.length - o : Nat) : Int) + (k : Int))).toNat * 2) + [Value.int .i64 y.1, Value.string y.2].length ≤ (tcs (p ++ (B.take k ++ x :: A2) ++ m ++ (A.take k ++ y :: B2) ++ q)).length := by
      refine ⟨rfl, ?_⟩
      rw [tcs_len, hLl, w1, Int.toNat_natCast]
      simp only [List.length_cons, List.length_nil]
      omega
    have q2 : true = true ∧ (o * 2 + (IntKind.i64.wrap (((p.length + A.length + m.length - o : Nat) : Int) + (k : Int))).toNat * 2) + [Value.int .i64 x.1, Value.string x.2].length ≤ (((tcs (p ++ (B.take k ++ x :: A2) ++ m ++ (A.take k ++ y :: B2) ++ q)).set (o * 2 + (IntKind.i64.wrap (((p.length - o : Nat) : Int) + (k : Int))).toNat * 2) (.int .i64 y.1)).set ((o * 2 + (IntKind.i64.wrap (((p.length - o : Nat) : Int) + (k : Int))).toNat * 2) + 1) (.string y.2)).length := by
      refine ⟨rfl, ?_⟩
      rw [List.length_set, List.length_set, tcs_len, hLl, w2, Int.toNat_natCast]
      simp only [List.length_cons, List.length_nil]
      omega
    have s1 := tcs_set (p ++ B.take k) x y (A2 ++ m ++ A.take k ++ (y :: B2) ++ q)
    rw [e1, r1] at s1
    have s2 := tcs_set (p ++ B.take k ++ (y :: A2) ++ m ++ A.take k) y x (B2 ++ q)
    have e3 : (p ++ B.take k ++ (y :: A2) ++ m ++ A.take k).length * 2 = (o * 2 + (IntKind.i64.wrap (((p.length + A.length + m.length - o : Nat) : Int) + (k : Int))).toNat * 2) := by
      rw [← e2]
      simp
    have r3 : p ++ B.take k ++ (y :: A2) ++ m ++ A.take k ++ y :: (B2 ++ q) = p ++ B.take k ++ y :: (A2 ++ m ++ A.take k ++ (y :: B2) ++ q) := by simp
    rw [e3, r3] at s2
    rw [← s1] at s2
    have t1 : B.take (k + 1) = B.take k ++ [y] := by
      have hk3 : k < B.length := by omega
      rw [List.take_add_one, List.getElem?_eq_getElem hk3]
      have h1 := List.drop_eq_getElem_cons hk3
      rw [hB] at h1
      rw [(List.cons.inj h1).1]
      rfl
    have t2 : A.take (k + 1) = A.take k ++ [x] := by
      rw [List.take_add_one, List.getElem?_eq_getElem hlt]
      have h1 := List.drop_eq_getElem_cons hlt
      rw [hA] at h1
      rw [(List.cons.inj h1).1]
      rfl
    have t3 : A.drop (k + 1) = A2 := by rw [← List.drop_drop, hA]; rfl
    have t4 : B.drop (k + 1) = B2 := by rw [← List.drop_drop, hB]; rfl
    have r4 : p ++ B.take k ++ (y :: A2) ++ m ++ A.take k ++ x :: (B2 ++ q) = p ++ (B.take (k + 1) ++ A.drop (k + 1)) ++ m ++ (A.take (k + 1) ++ B.drop (k + 1)) ++ q := by
      rw [t1, t2, t3, t4]
      simp
    rw [r4] at s2
    unfold tc at c1 c2
    refine Wp.seq (Wp.seq (Wp.text ?_))
    refine kp 11 (.int IntKind.i64 (↑k : Int)) ?_
    refine kp 12 (.int IntKind.i64 (↑(List.length A) : Int)) ?_
    refine kp 13 (.bool true) ?_ (hop := fun _ => by_fact d1)
    refine WpOps.nil (thenK_at (on' (Wp.skip (thenK_at (Wp.seq (Wp.block ?_))))))
    refine Wp.region (by kernel_rfl) ?_
    refine kp 16 (.slice (some (Addr.mk 0 (o * 2) none)) n c) ?_
    refine kp 17 (.int IntKind.i64 (↑(List.length p - o) : Int)) ?_
    refine kp 18 (.int IntKind.i64 (↑k : Int)) ?_
    refine kp 19 (.int IntKind.i64 (IntKind.wrap .i64 ((↑(List.length p - o) : Int) + (↑k : Int)))) ?_
    refine kp 20 (.slice (some (Addr.mk 0 (o * 2) none)) n c) ?_
    refine kp 21 (.int IntKind.i64 (↑(List.length p + List.length A + List.length m - o) : Int)) ?_
    refine kp 22 (.int IntKind.i64 (↑k : Int)) ?_
    refine kp 23 (.int IntKind.i64 (IntKind.wrap .i64 ((↑(List.length p + List.length A + List.length m - o) : Int) + (↑k : Int)))) ?_
    refine kp 24 (.slice (some (Addr.mk 0 (o * 2) none)) n c) ?_
    refine kp 25 (.int IntKind.i64 (↑(List.length p + List.length A + List.length m - o) : Int)) ?_
    refine kp 26 (.int IntKind.i64 (↑k : Int)) ?_
    refine kp 27 (.int IntKind.i64 (IntKind.wrap .i64 ((↑(List.length p + List.length A + List.length m - o) : Int) + (↑k : Int)))) ?_
    refine kp 28 (.pointer (some (Addr.mk 0 (o * 2 + Int.toNat (IntKind.wrap .i64 ((↑(List.length p + List.length A + List.length m - o) : Int) + (↑k : Int))) * 2) none))) ?_ (hop := fun _ => o_indexAddr (a := IntKind.wrap IntKind.i64 ((↑(List.length p + List.length A + List.length m - o) : Int) + (↑k : Int))) (bl := 0) (off := o * 2) (size := 2) 73 (n) g2)
    refine kp 29 (.agg #[Value.int .i64 (Prod.fst y), Value.string (Prod.snd y)]) ?_ (hop := fun _ => o_loadA (0) (o * 2 + Int.toNat (IntKind.wrap IntKind.i64 ((↑(List.length p + List.length A + List.length m - o) : Int) + (↑k : Int))) * 2) c2)
    refine kp 30 (.slice (some (Addr.mk 0 (o * 2) none)) n c) ?_
    refine kp 31 (.int IntKind.i64 (↑(List.length p - o) : Int)) ?_
    refine kp 32 (.int IntKind.i64 (↑k : Int)) ?_
    refine kp 33 (.int IntKind.i64 (IntKind.wrap .i64 ((↑(List.length p - o) : Int) + (↑k : Int)))) ?_
    refine kp 34 (.pointer (some (Addr.mk 0 (o * 2 + Int.toNat (IntKind.wrap .i64 ((↑(List.length p - o) : Int) + (↑k : Int))) * 2) none))) ?_ (hop := fun _ => o_indexAddr (a := IntKind.wrap IntKind.i64 ((↑(List.length p - o) : Int) + (↑k : Int))) (bl := 0) (off := o * 2) (size := 2) 73 (n) g1)
    refine kp 35 (.agg #[Value.int .i64 (Prod.fst x), Value.string (Prod.snd x)]) ?_ (hop := fun _ => o_loadA (0) (o * 2 + Int.toNat (IntKind.wrap IntKind.i64 ((↑(List.length p - o) : Int) + (↑k : Int))) * 2) c1)
    refine kp 36 (.pointer (some (Addr.mk 0 (o * 2 + Int.toNat (IntKind.wrap .i64 ((↑(List.length p - o) : Int) + (↑k : Int))) * 2) none))) ?_ (hop := fun _ => o_indexAddr (a := IntKind.wrap IntKind.i64 ((↑(List.length p - o) : Int) + (↑k : Int))) (bl := 0) (off := o * 2) (size := 2) 73 (n) g1)
    refine ld (.tuple #[]) (0) (Blk.mk 73 true (List.set (List.set (tcs (p ++ (List.take k B ++ x :: A2) ++ m ++ (List.take k A ++ y :: B2) ++ q)) (o * 2 + Int.toNat (IntKind.wrap .i64 ((↑(List.length p - o) : Int) + (↑k : Int))) * 2) (Value.int .i64 (Prod.fst y))) (o * 2 + Int.toNat (IntKind.wrap .i64 ((↑(List.length p - o) : Int) + (↑k : Int))) * 2 + 1) (Value.string (Prod.snd y)))) ?_ (hop := fun _ => o_storeH (v := Value.agg #[Value.int IntKind.i64 (Prod.fst y), Value.string (Prod.snd y)]) (xs := [Value.int IntKind.i64 (Prod.fst y), Value.string (Prod.snd y)]) (cells := tcs (p ++ (List.take k B ++ x :: A2) ++ m ++ (List.take k A ++ y :: B2) ++ q)) (el := 73) (0) (o * 2 + Int.toNat (IntKind.wrap IntKind.i64 ((↑(List.length p - o) : Int) + (↑k : Int))) * 2) (by kernel_rfl) q1)
    refine kp 37 (.pointer (some (Addr.mk 0 (o * 2 + Int.toNat (IntKind.wrap .i64 ((↑(List.length p + List.length A + List.length m - o) : Int) + (↑k : Int))) * 2) none))) ?_ (hop := fun _ => o_indexAddr (a := IntKind.wrap IntKind.i64 ((↑(List.length p + List.length A + List.length m - o) : Int) + (↑k : Int))) (bl := 0) (off := o * 2) (size := 2) 73 (n) g2)
    refine ld (.tuple #[]) (0) (Blk.mk 73 true (List.set (List.set (List.set (List.set (tcs (p ++ (List.take k B ++ x :: A2) ++ m ++ (List.take k A ++ y :: B2) ++ q)) (o * 2 + Int.toNat (IntKind.wrap .i64 ((↑(List.length p - o) : Int) + (↑k : Int))) * 2) (Value.int .i64 (Prod.fst y))) (o * 2 + Int.toNat (IntKind.wrap .i64 ((↑(List.length p - o) : Int) + (↑k : Int))) * 2 + 1) (Value.string (Prod.snd y))) (o * 2 + Int.toNat (IntKind.wrap .i64 ((↑(List.length p + List.length A + List.length m - o) : Int) + (↑k : Int))) * 2) (Value.int .i64 (Prod.fst x))) (o * 2 + Int.toNat (IntKind.wrap .i64 ((↑(List.length p + List.length A + List.length m - o) : Int) + (↑k : Int))) * 2 + 1) (Value.string (Prod.snd x)))) ?_ (hop := fun _ => o_storeH (v := Value.agg #[Value.int IntKind.i64 (Prod.fst x), Value.string (Prod.snd x)]) (xs := [Value.int IntKind.i64 (Prod.fst x), Value.string (Prod.snd x)]) (cells := List.set (List.set (tcs (p ++ (List.take k B ++ x :: A2) ++ m ++ (List.take k A ++ y :: B2) ++ q)) (o * 2 + Int.toNat (IntKind.wrap IntKind.i64 ((↑(List.length p - o) : Int) + (↑k : Int))) * 2) (Value.int IntKind.i64 (Prod.fst y))) (o * 2 + Int.toNat (IntKind.wrap IntKind.i64 ((↑(List.length p - o) : Int) + (↑k : Int))) * 2 + 1) (Value.string (Prod.snd y))) (el := 73) (0) (o * 2 + Int.toNat (IntKind.wrap IntKind.i64 ((↑(List.length p + List.length A + List.length m - o) : Int) + (↑k : Int))) * 2) (by kernel_rfl) q2)
    refine WpOps.nil (blockK_norm (thenK_at (Wp.text ?_)))
    refine kp 14 (.int IntKind.i64 (↑k : Int)) ?_
    refine kp 15 (.int IntKind.i64 (IntKind.wrap .i64 ((↑k : Int) + 1))) ?_
    refine kp 10 (.int IntKind.i64 (IntKind.wrap .i64 ((↑k : Int) + 1))) ?_
    refine WpOps.nil (thenK_at ?_)
    exact ⟨k + 1, by omega, by omega, View.of [0] [rowB (p ++ (B.take (k + 1) ++ A.drop (k + 1)) ++ m ++ (A.take (k + 1) ++ B.drop (k + 1)) ++ q)] _ (by decide) rfl ⟨⟨_, by kernel_rfl, CellsOk.eq s2 (tcs_flat _)⟩, trivial⟩ ⟨⟨by kernel_rfl, rfl⟩, ⟨by kernel_rfl, rfl⟩, ⟨by kernel_rfl, rfl⟩, ⟨by kernel_rfl, rfl⟩, ⟨congrArg (Value.int .i64) (wr _ (by omega) (by omega)), rfl⟩, trivial⟩⟩
  · obtain rfl : k = A.length := by omega
    have d1 : decide ((A.length : Int) < A.length) = false := decide_eq_false (by omega)
    rw [List.take_of_length_le (Nat.le_refl _), List.drop_of_length_le (Nat.le_refl _), show B.take A.length = B by rw [hAB]; exact List.take_length, show B.drop A.length = [] by rw [hAB]; exact List.drop_length, List.append_nil, List.append_nil]
    refine Wp.seq (Wp.seq (Wp.text ?_))
    refine kp 11 (.int IntKind.i64 (↑(List.length A) : Int)) ?_
    refine kp 12 (.int IntKind.i64 (↑(List.length A) : Int)) ?_
    refine kp 13 (.bool false) ?_ (hop := fun _ => by_fact d1)
    refine WpOps.nil (thenK_at (off' (Wp.exit (thenK_exit (thenK_exit (blockK_hit ?_))))))
    refine endK_norm [] (Value.tuple #[]) (by kernel_rfl) (by kernel_rfl) ?_
    exact lentSame [rowB (p ++ B ++ m ++ A ++ q)] (pre1 ⟨by kernel_rfl, okCs_flat (tcs_flat _)⟩) (.w (.un rfl rfl))
end Go.Proofs.Ytdkmdpklojeepaa.D
