/- symMerge: one trip among many. -/
import Derived.Test.YtdkmdpklojeepaaFwLem
import Derived.Test.YtdkmdpklojeepaaFwCons
import Derived.Test.YtdkmdpklojeepaaS09c
namespace Go.Proofs.Ytdkmdpklojeepaa.D
open Go.Fw Go.RowKit

theorem tcs_at {L : List Tr} {g : Nat} {t : Tr} (h : L[g]? = some t) : cellsAt (tcs L) (g * 2) 2 = some [.int .i64 t.1, .string t.2] := by
  obtain ⟨hg, rfl⟩ := List.getElem?_eq_some_iff.1 h
  have h1 := tcs_slice (L.take g) L[g] (L.drop (g + 1))
  rw [show L.take g ++ L[g] :: L.drop (g + 1) = L by rw [← List.drop_eq_getElem_cons hg, List.take_append_drop], List.length_take, Nat.min_eq_left (by omega)] at h1
  exact h1
theorem at_in (P Z Q : List Tr) {t : Nat} (h : t < Z.length) : (P ++ Z ++ Q)[P.length + t]? = Z[t]? := by
  rw [List.append_assoc, List.getElem?_append_right (by omega), Nat.add_sub_cancel_left, List.getElem?_append_left h]
theorem u64_wrap (z : Int) (h0 : 0 ≤ z) (h1 : z ≤ 9223372036854775807) : IntKind.u64.wrap z = z := by
  rw [IntKind.wrap]
  simp only [IntKind.bits, IntKind.signed, Bool.false_and, Bool.false_eq_true, if_false]
  omega
theorem half_eq (a b : Nat) (h : a + b ≤ 9000000000) : IntKind.i64.wrap ((IntKind.u64.wrap (IntKind.i64.wrap ((a : Int) + (b : Int)))).fdiv (2 ^ 1)) = (((a + b) / 2 : Nat) : Int) := by
  rw [wr ((a : Int) + (b : Int)) (by omega) (by omega), u64_wrap _ (by omega) (by omega)]
  have e : ((a : Int) + (b : Int)).fdiv (2 ^ 1) = (((a + b) / 2 : Nat) : Int) := by
    rw [Int.fdiv_eq_ediv_of_nonneg _ (by decide)]
    omega
  rw [e, wr _ (by omega) (by omega)]
theorem srt_get {l : List Tr} (h : Srt l) {a b : Nat} (ha : a < l.length) (hb : b < l.length) (hab : a ≤ b) : l[a].1 ≤ l[b].1 := by
  rcases Nat.lt_or_eq_of_le hab with hlt | rfl
  · exact List.pairwise_iff_getElem.1 h a b ha hb hlt
  · exact Int.le_refl _
theorem f63 : E.funcs 63 = some Try.f63 := by kernel_rfl
set_option maxHeartbeats 8000000 in
theorem sym63_one (n c o : Nat) (p : List Tr) (x : Tr) (Y q : List Tr) (hY : 0 < Y.length) (hS : Srt Y) (hin : InT (x :: Y)) (ho : o ≤ p.length) (hn : p.length + 1 + Y.length ≤ o + n) (hn2 : n ≤ 1000000) : Lent E 63 [.slice (some ⟨0, o * 2, none⟩) n c, .int .i64 (p.length - o : Nat), .int .i64 (p.length + 1 - o : Nat), .int .i64 (p.length + 1 + Y.length - o : Nat), .func (.func 43) #[] #[]] [rowB (p ++ [x] ++ Y ++ q)] (.tuple #[]) [rowB (p ++ ssort (x :: Y) ++ q)] := by
  refine Lent.of f63 rfl (of_decide_eq_true (by kernel_rfl)) rfl rfl (Nat.le_refl _) (by kernel_rfl) ?_ rfl ?_
  · simp only [rowB, List.all_cons, List.all_nil, okCs_flat (tcs_flat _), Bool.and_true]
  have d0 : (IntKind.i64.wrap (((p.length + 1 - o : Nat) : Int) - ((p.length - o : Nat) : Int)) == 1) = true := by
    rw [wr _ (by omega) (by omega)]
    exact beq_iff_eq.2 (by omega)
  have hx := hin x (by simp)
  refine Wp.seq (Wp.seq (Wp.text ?_))
  refine kp 25 (.int IntKind.i64 (↑(List.length p + 1 - o) : Int)) ?_
  refine kp 26 (.int IntKind.i64 (↑(List.length p - o) : Int)) ?_
  refine kp 27 (.int IntKind.i64 (IntKind.wrap .i64 ((↑(List.length p + 1 - o) : Int) - (↑(List.length p - o) : Int)))) ?_
  refine kp 28 (.bool true) ?_ (hop := fun _ => by_fact d0)
  refine WpOps.nil (thenK_at (on' (Wp.seq (Wp.text ?_))))
  refine kp 29 (.int IntKind.i64 (↑(List.length p + 1 - o) : Int)) ?_
  refine kp 10 (.int IntKind.i64 (↑(List.length p + 1 - o) : Int)) ?_
  refine WpOps.nil (thenK_at (Wp.seq (Wp.text ?_)))
  refine kp 30 (.int IntKind.i64 (↑(List.length p + 1 + List.length Y - o) : Int)) ?_
  refine kp 11 (.int IntKind.i64 (↑(List.length p + 1 + List.length Y - o) : Int)) ?_
  refine WpOps.nil (thenK_at (Wp.seq (Wp.block ?_)))
  refine Wp.loop (G := Nat × Nat) (fun g => layj [(0, .slice (some ⟨0, o * 2, none⟩) n c), (1, .int .i64 (p.length - o : Nat)), (4, .func (.func 43) #[] #[]), (10, .int .i64 (p.length + 1 + g.1 - o : Nat)), (11, .int .i64 (p.length + 1 + g.2 - o : Nat))]) (fun _ => heapOf [rowB (p ++ [x] ++ Y ++ q)]) (fun g => g.2 - g.1) (fun g => g.1 ≤ g.2 ∧ g.2 ≤ Y.length ∧ (∀ t (h : t < Y.length), t < g.1 → Y[t].1 < x.1) ∧ (∀ t (h : t < Y.length), g.2 ≤ t → x.1 ≤ Y[t].1)) (0, Y.length)
    (View.of [0] [rowB (p ++ [x] ++ Y ++ q)] _ (by decide) rfl ⟨⟨_, rfl, CellsOk.eq rfl (tcs_flat _)⟩, trivial⟩ ⟨⟨by kernel_rfl, rfl⟩, ⟨by kernel_rfl, rfl⟩, ⟨by kernel_rfl, rfl⟩, ⟨by kernel_rfl, rfl⟩, ⟨by kernel_rfl, rfl⟩, trivial⟩) ⟨Nat.zero_le _, Nat.le_refl _, fun t h h2 => absurd h2 (Nat.not_lt_zero _), fun t h h2 => by omega⟩ ?_
  rintro ⟨i, j⟩ ⟨h1, h2, h3, h4⟩
  dsimp only at h1 h2 h3 h4 ⊢
  unfold rowB
  by_cases hlt : i < j
  · have d1 : decide (((p.length + 1 + i - o : Nat) : Int) < ((p.length + 1 + j - o : Nat) : Int)) = true := decide_eq_true (by omega)
    have hh := half_eq (p.length + 1 + i - o) (p.length + 1 + j - o) (by omega)
    rw [show (p.length + 1 + i - o + (p.length + 1 + j - o)) / 2 = p.length + 1 + (i + j) / 2 - o by omega] at hh
    have ht1 : i ≤ (i + j) / 2 := by omega
    have ht2 : (i + j) / 2 < j := by omega
    generalize (i + j) / 2 = t at hh ht1 ht2
    have htY : t < Y.length := by omega
    have g1 : 0 ≤ IntKind.i64.wrap ((IntKind.u64.wrap (IntKind.i64.wrap (((p.length + 1 + i - o : Nat) : Int) + ((p.length + 1 + j - o : Nat) : Int)))).fdiv (2 ^ 1)) ∧ IntKind.i64.wrap ((IntKind.u64.wrap (IntKind.i64.wrap (((p.length + 1 + i - o : Nat) : Int) + ((p.length + 1 + j - o : Nat) : Int)))).fdiv (2 ^ 1)) < n := by rw [hh]; omega
    have g2 : 0 ≤ ((p.length - o : Nat) : Int) ∧ ((p.length - o : Nat) : Int) < n := by omega
    have c1 := tcs_at (show (p ++ [x] ++ Y ++ q)[p.length + 1 + t]? = some Y[t] by rw [show p.length + 1 + t = (p ++ [x]).length + t by simp, at_in _ _ _ htY, List.getElem?_eq_getElem htY])
    rw [show (p.length + 1 + t) * 2 = o * 2 + (IntKind.i64.wrap ((IntKind.u64.wrap (IntKind.i64.wrap (((p.length + 1 + i - o : Nat) : Int) + ((p.length + 1 + j - o : Nat) : Int)))).fdiv (2 ^ 1))).toNat * 2 by rw [hh, Int.toNat_natCast]; omega] at c1
    have c2 := tcs_at (show (p ++ [x] ++ Y ++ q)[p.length]? = some x by simp)
    rw [show p.length * 2 = o * 2 + (((p.length - o : Nat) : Int)).toNat * 2 by rw [Int.toNat_natCast]; omega] at c2
    have hy := hin Y[t] (by simp)
    have cm := cmp43 Y[t] x hy hx
    unfold tc at cm
    by_cases hxy : Y[t].1 < x.1
    · have d3 : decide (Y[t].1 - x.1 < 0) = true := decide_eq_true (by omega)
      have w : IntKind.i64.wrap (IntKind.i64.wrap ((IntKind.u64.wrap (IntKind.i64.wrap (((p.length + 1 + i - o : Nat) : Int) + ((p.length + 1 + j - o : Nat) : Int)))).fdiv (2 ^ 1)) + 1) = ((p.length + 1 + (t + 1) - o : Nat) : Int) := by rw [hh, wr _ (by omega) (by omega)]; omega
      refine Wp.seq (Wp.seq (Wp.text ?_))
      refine kp 31 (.int IntKind.i64 (↑(List.length p + 1 + i - o) : Int)) ?_
      refine kp 32 (.int IntKind.i64 (↑(List.length p + 1 + j - o) : Int)) ?_
      refine kp 33 (.bool true) ?_ (hop := fun _ => by_fact d1)
      refine WpOps.nil (thenK_at (on' (Wp.skip (thenK_at (Wp.block (Wp.seq (Wp.text ?_)))))))
      refine kp 34 (.int IntKind.i64 (↑(List.length p + 1 + i - o) : Int)) ?_
      refine kp 35 (.int IntKind.i64 (↑(List.length p + 1 + j - o) : Int)) ?_
      refine kp 36 (.int IntKind.i64 (IntKind.wrap .i64 ((↑(List.length p + 1 + i - o) : Int) + (↑(List.length p + 1 + j - o) : Int)))) ?_
      refine kp 37 (.int IntKind.u64 (IntKind.wrap .u64 (IntKind.wrap .i64 ((↑(List.length p + 1 + i - o) : Int) + (↑(List.length p + 1 + j - o) : Int))))) ?_
      refine kp 38 (.int IntKind.u64 (Int.fdiv (IntKind.wrap .u64 (IntKind.wrap .i64 ((↑(List.length p + 1 + i - o) : Int) + (↑(List.length p + 1 + j - o) : Int)))) (2 ^ 1))) ?_
      refine kp 39 (.int IntKind.i64 (IntKind.wrap .i64 (Int.fdiv (IntKind.wrap .u64 (IntKind.wrap .i64 ((↑(List.length p + 1 + i - o) : Int) + (↑(List.length p + 1 + j - o) : Int)))) (2 ^ 1)))) ?_
      refine kp 12 (.int IntKind.i64 (IntKind.wrap .i64 (Int.fdiv (IntKind.wrap .u64 (IntKind.wrap .i64 ((↑(List.length p + 1 + i - o) : Int) + (↑(List.length p + 1 + j - o) : Int)))) (2 ^ 1)))) ?_
      refine WpOps.nil (thenK_at (Wp.seq ?_))
      refine Wp.region (by kernel_rfl) ?_
      refine kp 40 (.func (Fn.func 43) #[] #[]) ?_
      refine kp 41 (.slice (some (Addr.mk 0 (o * 2) none)) n c) ?_
      refine kp 42 (.int IntKind.i64 (IntKind.wrap .i64 (Int.fdiv (IntKind.wrap .u64 (IntKind.wrap .i64 ((↑(List.length p + 1 + i - o) : Int) + (↑(List.length p + 1 + j - o) : Int)))) (2 ^ 1)))) ?_
      refine kp 43 (.pointer (some (Addr.mk 0 (o * 2 + Int.toNat (IntKind.wrap .i64 (Int.fdiv (IntKind.wrap .u64 (IntKind.wrap .i64 ((↑(List.length p + 1 + i - o) : Int) + (↑(List.length p + 1 + j - o) : Int)))) (2 ^ 1))) * 2) none))) ?_ (hop := fun _ => o_indexAddr (a := IntKind.wrap IntKind.i64 (Int.fdiv (IntKind.wrap IntKind.u64 (IntKind.wrap IntKind.i64 ((↑(List.length p + 1 + i - o) : Int) + (↑(List.length p + 1 + j - o) : Int)))) (2 ^ 1))) (bl := 0) (off := o * 2) (size := 2) 73 (n) g1)
      refine kp 44 (.agg #[Value.int .i64 (Prod.fst Y[t]), Value.string (Prod.snd Y[t])]) ?_ (hop := fun _ => o_loadA (0) (o * 2 + Int.toNat (IntKind.wrap IntKind.i64 (Int.fdiv (IntKind.wrap IntKind.u64 (IntKind.wrap IntKind.i64 ((↑(List.length p + 1 + i - o) : Int) + (↑(List.length p + 1 + j - o) : Int)))) (2 ^ 1))) * 2) c1)
      refine kp 45 (.slice (some (Addr.mk 0 (o * 2) none)) n c) ?_
      refine kp 46 (.int IntKind.i64 (↑(List.length p - o) : Int)) ?_
      refine kp 47 (.pointer (some (Addr.mk 0 (o * 2 + Int.toNat (↑(List.length p - o) : Int) * 2) none))) ?_ (hop := fun _ => o_indexAddr (a := (↑(List.length p - o) : Int)) (bl := 0) (off := o * 2) (size := 2) 73 (n) g2)
      refine kp 48 (.agg #[Value.int .i64 (Prod.fst x), Value.string (Prod.snd x)]) ?_ (hop := fun _ => o_loadA (0) (o * 2 + Int.toNat (↑(List.length p - o) : Int) * 2) c2)
      refine fr 49 43 [Value.agg #[Value.int .i64 (Prod.fst Y[t]), Value.string (Prod.snd Y[t])], Value.agg #[Value.int .i64 (Prod.fst x), Value.string (Prod.snd x)]] ?_
      refine WpFun.of (cm) ?_
      refine kp 50 (.bool true) ?_ (hop := fun _ => by_fact d3)
      refine WpOps.nil (thenK_at (on' (Wp.text ?_)))
      refine kp 51 (.int IntKind.i64 (IntKind.wrap .i64 (Int.fdiv (IntKind.wrap .u64 (IntKind.wrap .i64 ((↑(List.length p + 1 + i - o) : Int) + (↑(List.length p + 1 + j - o) : Int)))) (2 ^ 1)))) ?_
      refine kp 52 (.int IntKind.i64 (IntKind.wrap .i64 (IntKind.wrap .i64 (Int.fdiv (IntKind.wrap .u64 (IntKind.wrap .i64 ((↑(List.length p + 1 + i - o) : Int) + (↑(List.length p + 1 + j - o) : Int)))) (2 ^ 1)) + 1))) ?_
      refine kp 10 (.int IntKind.i64 (IntKind.wrap .i64 (IntKind.wrap .i64 (Int.fdiv (IntKind.wrap .u64 (IntKind.wrap .i64 ((↑(List.length p + 1 + i - o) : Int) + (↑(List.length p + 1 + j - o) : Int)))) (2 ^ 1)) + 1))) ?_
      refine WpOps.nil (blockK_norm (thenK_at ?_))
      refine ⟨(t + 1, j), by dsimp only; omega, ⟨by dsimp only; omega, h2, fun s hs hs2 => ?_, h4⟩, View.of [0] [rowB (p ++ [x] ++ Y ++ q)] _ (by decide) rfl ⟨⟨_, by kernel_rfl, CellsOk.eq rfl (tcs_flat _)⟩, trivial⟩ ⟨⟨by kernel_rfl, rfl⟩, ⟨by kernel_rfl, rfl⟩, ⟨by kernel_rfl, rfl⟩, ⟨congrArg (Value.int .i64) w, rfl⟩, ⟨by kernel_rfl, rfl⟩, trivial⟩⟩
      have := srt_get hS hs htY (show s ≤ t by dsimp only at hs2; omega)
      omega
    · have d3 : decide (Y[t].1 - x.1 < 0) = false := decide_eq_false (by omega)
      refine Wp.seq (Wp.seq (Wp.text ?_))
      refine kp 31 (.int IntKind.i64 (↑(List.length p + 1 + i - o) : Int)) ?_
      refine kp 32 (.int IntKind.i64 (↑(List.length p + 1 + j - o) : Int)) ?_
      refine kp 33 (.bool true) ?_ (hop := fun _ => by_fact d1)
      refine WpOps.nil (thenK_at (on' (Wp.skip (thenK_at (Wp.block (Wp.seq (Wp.text ?_)))))))
      refine kp 34 (.int IntKind.i64 (↑(List.length p + 1 + i - o) : Int)) ?_
      refine kp 35 (.int IntKind.i64 (↑(List.length p + 1 + j - o) : Int)) ?_
      refine kp 36 (.int IntKind.i64 (IntKind.wrap .i64 ((↑(List.length p + 1 + i - o) : Int) + (↑(List.length p + 1 + j - o) : Int)))) ?_
      refine kp 37 (.int IntKind.u64 (IntKind.wrap .u64 (IntKind.wrap .i64 ((↑(List.length p + 1 + i - o) : Int) + (↑(List.length p + 1 + j - o) : Int))))) ?_
      refine kp 38 (.int IntKind.u64 (Int.fdiv (IntKind.wrap .u64 (IntKind.wrap .i64 ((↑(List.length p + 1 + i - o) : Int) + (↑(List.length p + 1 + j - o) : Int)))) (2 ^ 1))) ?_
      refine kp 39 (.int IntKind.i64 (IntKind.wrap .i64 (Int.fdiv (IntKind.wrap .u64 (IntKind.wrap .i64 ((↑(List.length p + 1 + i - o) : Int) + (↑(List.length p + 1 + j - o) : Int)))) (2 ^ 1)))) ?_
      refine kp 12 (.int IntKind.i64 (IntKind.wrap .i64 (Int.fdiv (IntKind.wrap .u64 (IntKind.wrap .i64 ((↑(List.length p + 1 + i - o) : Int) + (↑(List.length p + 1 + j - o) : Int)))) (2 ^ 1)))) ?_
      refine WpOps.nil (thenK_at (Wp.seq ?_))
      refine Wp.region (by kernel_rfl) ?_
      refine kp 40 (.func (Fn.func 43) #[] #[]) ?_
      refine kp 41 (.slice (some (Addr.mk 0 (o * 2) none)) n c) ?_
      refine kp 42 (.int IntKind.i64 (IntKind.wrap .i64 (Int.fdiv (IntKind.wrap .u64 (IntKind.wrap .i64 ((↑(List.length p + 1 + i - o) : Int) + (↑(List.length p + 1 + j - o) : Int)))) (2 ^ 1)))) ?_
      refine kp 43 (.pointer (some (Addr.mk 0 (o * 2 + Int.toNat (IntKind.wrap .i64 (Int.fdiv (IntKind.wrap .u64 (IntKind.wrap .i64 ((↑(List.length p + 1 + i - o) : Int) + (↑(List.length p + 1 + j - o) : Int)))) (2 ^ 1))) * 2) none))) ?_ (hop := fun _ => o_indexAddr (a := IntKind.wrap IntKind.i64 (Int.fdiv (IntKind.wrap IntKind.u64 (IntKind.wrap IntKind.i64 ((↑(List.length p + 1 + i - o) : Int) + (↑(List.length p + 1 + j - o) : Int)))) (2 ^ 1))) (bl := 0) (off := o * 2) (size := 2) 73 (n) g1)
      refine kp 44 (.agg #[Value.int .i64 (Prod.fst Y[t]), Value.string (Prod.snd Y[t])]) ?_ (hop := fun _ => o_loadA (0) (o * 2 + Int.toNat (IntKind.wrap IntKind.i64 (Int.fdiv (IntKind.wrap IntKind.u64 (IntKind.wrap IntKind.i64 ((↑(List.length p + 1 + i - o) : Int) + (↑(List.length p + 1 + j - o) : Int)))) (2 ^ 1))) * 2) c1)
      refine kp 45 (.slice (some (Addr.mk 0 (o * 2) none)) n c) ?_
      refine kp 46 (.int IntKind.i64 (↑(List.length p - o) : Int)) ?_
      refine kp 47 (.pointer (some (Addr.mk 0 (o * 2 + Int.toNat (↑(List.length p - o) : Int) * 2) none))) ?_ (hop := fun _ => o_indexAddr (a := (↑(List.length p - o) : Int)) (bl := 0) (off := o * 2) (size := 2) 73 (n) g2)
      refine kp 48 (.agg #[Value.int .i64 (Prod.fst x), Value.string (Prod.snd x)]) ?_ (hop := fun _ => o_loadA (0) (o * 2 + Int.toNat (↑(List.length p - o) : Int) * 2) c2)
      refine fr 49 43 [Value.agg #[Value.int .i64 (Prod.fst Y[t]), Value.string (Prod.snd Y[t])], Value.agg #[Value.int .i64 (Prod.fst x), Value.string (Prod.snd x)]] ?_
      refine WpFun.of (cm) ?_
      refine kp 50 (.bool false) ?_ (hop := fun _ => by_fact d3)
      refine WpOps.nil (thenK_at (off' (Wp.text ?_)))
      refine kp 53 (.int IntKind.i64 (IntKind.wrap .i64 (Int.fdiv (IntKind.wrap .u64 (IntKind.wrap .i64 ((↑(List.length p + 1 + i - o) : Int) + (↑(List.length p + 1 + j - o) : Int)))) (2 ^ 1)))) ?_
      refine kp 11 (.int IntKind.i64 (IntKind.wrap .i64 (Int.fdiv (IntKind.wrap .u64 (IntKind.wrap .i64 ((↑(List.length p + 1 + i - o) : Int) + (↑(List.length p + 1 + j - o) : Int)))) (2 ^ 1)))) ?_
      refine WpOps.nil (blockK_norm (thenK_at ?_))
      refine ⟨(i, t), by dsimp only; omega, ⟨ht1, by dsimp only; omega, h3, fun s hs hs2 => ?_⟩, View.of [0] [rowB (p ++ [x] ++ Y ++ q)] _ (by decide) rfl ⟨⟨_, by kernel_rfl, CellsOk.eq rfl (tcs_flat _)⟩, trivial⟩ ⟨⟨by kernel_rfl, rfl⟩, ⟨by kernel_rfl, rfl⟩, ⟨by kernel_rfl, rfl⟩, ⟨by kernel_rfl, rfl⟩, ⟨congrArg (Value.int .i64) hh, rfl⟩, trivial⟩⟩
      have := srt_get hS htY hs hs2
      omega
  · obtain rfl : i = j := by omega
    have d1 : decide (((p.length + 1 + i - o : Nat) : Int) < ((p.length + 1 + i - o : Nat) : Int)) = false := decide_eq_false (by omega)
    have w9 : IntKind.i64.wrap (((p.length + 1 + i - o : Nat) : Int) - 1) = ((p.length + i - o : Nat) : Int) := by rw [wr _ (by omega) (by omega)]; omega
    have hsrt : ssort (x :: Y) = Y.take i ++ x :: Y.drop i := by
      refine (ssort_is ?_ ?_).symm
      · have hS2 := hS
        rw [← List.take_append_drop i Y] at hS2
        obtain ⟨s1, s2, s3⟩ := srt_app.1 hS2
        refine srt_app.2 ⟨s1, List.pairwise_cons.2 ⟨fun y hy => ?_, s2⟩, fun a ha b hb => ?_⟩
        · obtain ⟨k, hk, rfl⟩ := List.getElem_of_mem hy
          rw [List.getElem_drop]
          rw [List.length_drop] at hk
          exact h4 _ _ (by omega)
        · rcases List.mem_cons.1 hb with rfl | hb
          · obtain ⟨k, hk, rfl⟩ := List.getElem_of_mem ha
            rw [List.getElem_take]
            rw [List.length_take] at hk
            exact Int.le_of_lt (h3 _ _ (by omega))
          · exact s3 a ha b hb
      · have hp := (flt_pass (x := x) (l := Y.take i) fun y hy => by
          obtain ⟨k, hk, rfl⟩ := List.getElem_of_mem hy
          rw [List.getElem_take]
          rw [List.length_take] at hk
          have := h3 k (by omega) (by omega)
          omega).symm.app (Flt.refl (Y.drop i))
        have e1 : x :: Y.take i ++ Y.drop i = x :: Y := by rw [List.cons_append, List.take_append_drop]
        have e2 : Y.take i ++ [x] ++ Y.drop i = Y.take i ++ x :: Y.drop i := by simp
        rw [e1, e2] at hp
        exact hp
    rw [hsrt]
    have hti : (Y.take i).length = i := by rw [List.length_take]; omega
    refine Wp.seq (Wp.seq (Wp.text ?_))
    refine kp 31 (.int IntKind.i64 (↑(List.length p + 1 + i - o) : Int)) ?_
    refine kp 32 (.int IntKind.i64 (↑(List.length p + 1 + i - o) : Int)) ?_
    refine kp 33 (.bool false) ?_ (hop := fun _ => by_fact d1)
    refine WpOps.nil (thenK_at (off' (Wp.exit (thenK_exit (thenK_exit (blockK_hit (thenK_at (Wp.seq (Wp.seq (Wp.text ?_))))))))))
    refine kp 54 (.int IntKind.i64 (↑(List.length p - o) : Int)) ?_
    refine kp 13 (.int IntKind.i64 (↑(List.length p - o) : Int)) ?_
    refine WpOps.nil (thenK_at (Wp.block ?_))
    refine Wp.loop (G := Nat) (fun r => layj [(0, .slice (some ⟨0, o * 2, none⟩) n c), (10, .int .i64 (p.length + 1 + i - o : Nat)), (13, .int .i64 (p.length + r - o : Nat))]) (fun r => heapOf [rowB (p ++ (Y.take i).take r ++ x :: ((Y.take i).drop r ++ Y.drop i ++ q))]) (fun r => i - r) (fun r => r ≤ i) 0
      (View.of [0] [rowB (p ++ (Y.take i).take 0 ++ x :: ((Y.take i).drop 0 ++ Y.drop i ++ q))] _ (by decide) rfl ⟨⟨tcs (p ++ [x] ++ Y ++ q), rfl, CellsOk.eq (by simp [rowB]) (tcs_flat _)⟩, trivial⟩ ⟨⟨by kernel_rfl, rfl⟩, ⟨by kernel_rfl, rfl⟩, ⟨by kernel_rfl, rfl⟩, trivial⟩) (Nat.zero_le _) ?_
    intro r hr
    unfold rowB
    by_cases hrl : r < i
    · have d4 : decide (((p.length + r - o : Nat) : Int) < IntKind.i64.wrap (((p.length + 1 + i - o : Nat) : Int) - 1)) = true := decide_eq_true (by rw [w9]; omega)
      obtain ⟨w, Y2, hw⟩ : ∃ w Y2, (Y.take i).drop r = w :: Y2 := ⟨_, _, List.drop_eq_getElem_cons (by omega)⟩
      have hl2 : ((Y.take i).take r).length = r := by rw [List.length_take]; omega
      rw [hw]
      rw [show p ++ (Y.take i).take r ++ x :: (w :: Y2 ++ Y.drop i ++ q) = (p ++ (Y.take i).take r ++ x :: ([] ++ w :: (Y2 ++ Y.drop i ++ q))) by simp]
      have hr1 : (Y.take i).take (r + 1) = (Y.take i).take r ++ [w] := by
        rw [List.take_add_one, List.getElem?_eq_getElem (by omega)]
        have := List.drop_eq_getElem_cons (l := Y.take i) (i := r) (by omega)
        rw [hw] at this
        rw [(List.cons.inj this).1]
        rfl
      have hr2 : (Y.take i).drop (r + 1) = Y2 := by rw [← List.drop_drop, hw]; rfl
      have w5 : IntKind.i64.wrap (((p.length + r - o : Nat) : Int) + 1) = ((p.length + (r + 1) - o : Nat) : Int) := by rw [wr _ (by omega) (by omega)]; omega
      have g1 : 0 ≤ ((p.length + r - o : Nat) : Int) ∧ ((p.length + r - o : Nat) : Int) < n := by omega
      have g2 : 0 ≤ IntKind.i64.wrap (((p.length + r - o : Nat) : Int) + 1) ∧ IntKind.i64.wrap (((p.length + r - o : Nat) : Int) + 1) < n := by rw [w5]; omega
      have e1 : (p ++ (Y.take i).take r).length * 2 = o * 2 + (((p.length + r - o : Nat) : Int)).toNat * 2 := by rw [List.length_append, hl2, Int.toNat_natCast]; omega
      have e2 : ((p ++ (Y.take i).take r).length + 1 + ([] : List Tr).length) * 2 = o * 2 + (IntKind.i64.wrap (((p.length + r - o : Nat) : Int) + 1)).toNat * 2 := by rw [w5, List.length_append, hl2, Int.toNat_natCast, List.length_nil]; omega
      have c1 := sw_lo (p ++ (Y.take i).take r) x [] w (Y2 ++ Y.drop i ++ q)
      have c2 := sw_hi (p ++ (Y.take i).take r) x [] w (Y2 ++ Y.drop i ++ q)
      have s1 := sw_lh (p ++ (Y.take i).take r) x [] w (Y2 ++ Y.drop i ++ q)
      rw [e1] at c1
      rw [e2] at c2
      rw [e1, e2] at s1
      have hLl : (tcs (p ++ (Y.take i).take r ++ x :: ([] ++ w :: (Y2 ++ Y.drop i ++ q)))).length = ((p ++ (Y.take i).take r).length + 2 + ([] : List Tr).length + (Y2 ++ Y.drop i ++ q).length) * 2 := sw_len _ _ _ _ _
      rw [List.length_append, hl2, List.length_nil] at hLl
      have q1 : true = true ∧ o * 2 + (((p.length + r - o : Nat) : Int)).toNat * 2 + [Value.int .i64 w.1, Value.string w.2].length ≤ (tcs (p ++ (Y.take i).take r ++ x :: ([] ++ w :: (Y2 ++ Y.drop i ++ q)))).length := by
        refine ⟨rfl, ?_⟩
        rw [hLl, Int.toNat_natCast]
        simp only [List.length_cons, List.length_nil]
        omega
      have q2 : true = true ∧ o * 2 + (IntKind.i64.wrap (((p.length + r - o : Nat) : Int) + 1)).toNat * 2 + [Value.int .i64 x.1, Value.string x.2].length ≤ (((tcs (p ++ (Y.take i).take r ++ x :: ([] ++ w :: (Y2 ++ Y.drop i ++ q)))).set (o * 2 + (((p.length + r - o : Nat) : Int)).toNat * 2) (.int .i64 w.1)).set (o * 2 + (((p.length + r - o : Nat) : Int)).toNat * 2 + 1) (.string w.2)).length := by
        refine ⟨rfl, ?_⟩
        rw [List.length_set, List.length_set, hLl, w5, Int.toNat_natCast]
        simp only [List.length_cons, List.length_nil]
        omega
      refine Wp.seq (Wp.seq (Wp.text ?_))
      refine kp 55 (.int IntKind.i64 (↑(List.length p + r - o) : Int)) ?_
      refine kp 56 (.int IntKind.i64 (↑(List.length p + 1 + i - o) : Int)) ?_
      refine kp 57 (.int IntKind.i64 (IntKind.wrap .i64 ((↑(List.length p + 1 + i - o) : Int) - 1))) ?_
      refine kp 58 (.bool true) ?_ (hop := fun _ => by_fact d4)
      refine WpOps.nil (thenK_at (on' (Wp.skip (thenK_at (Wp.seq (Wp.block ?_))))))
      refine Wp.region (by kernel_rfl) ?_
      refine kp 61 (.slice (some (Addr.mk 0 (o * 2) none)) n c) ?_
      refine kp 62 (.int IntKind.i64 (↑(List.length p + r - o) : Int)) ?_
      refine kp 63 (.slice (some (Addr.mk 0 (o * 2) none)) n c) ?_
      refine kp 64 (.int IntKind.i64 (↑(List.length p + r - o) : Int)) ?_
      refine kp 65 (.int IntKind.i64 (IntKind.wrap .i64 ((↑(List.length p + r - o) : Int) + 1))) ?_
      refine kp 66 (.slice (some (Addr.mk 0 (o * 2) none)) n c) ?_
      refine kp 67 (.int IntKind.i64 (↑(List.length p + r - o) : Int)) ?_
      refine kp 68 (.int IntKind.i64 (IntKind.wrap .i64 ((↑(List.length p + r - o) : Int) + 1))) ?_
      refine kp 69 (.pointer (some (Addr.mk 0 (o * 2 + Int.toNat (IntKind.wrap .i64 ((↑(List.length p + r - o) : Int) + 1)) * 2) none))) ?_ (hop := fun _ => o_indexAddr (a := IntKind.wrap IntKind.i64 ((↑(List.length p + r - o) : Int) + 1)) (bl := 0) (off := o * 2) (size := 2) 73 (n) g2)
      refine kp 70 (.agg #[Value.int .i64 (Prod.fst w), Value.string (Prod.snd w)]) ?_ (hop := fun _ => o_loadA (0) (o * 2 + Int.toNat (IntKind.wrap IntKind.i64 ((↑(List.length p + r - o) : Int) + 1)) * 2) c2)
      refine kp 71 (.slice (some (Addr.mk 0 (o * 2) none)) n c) ?_
      refine kp 72 (.int IntKind.i64 (↑(List.length p + r - o) : Int)) ?_
      refine kp 73 (.pointer (some (Addr.mk 0 (o * 2 + Int.toNat (↑(List.length p + r - o) : Int) * 2) none))) ?_ (hop := fun _ => o_indexAddr (a := (↑(List.length p + r - o) : Int)) (bl := 0) (off := o * 2) (size := 2) 73 (n) g1)
      refine kp 74 (.agg #[Value.int .i64 (Prod.fst x), Value.string (Prod.snd x)]) ?_ (hop := fun _ => o_loadA (0) (o * 2 + Int.toNat (↑(List.length p + r - o) : Int) * 2) c1)
      refine kp 75 (.pointer (some (Addr.mk 0 (o * 2 + Int.toNat (↑(List.length p + r - o) : Int) * 2) none))) ?_ (hop := fun _ => o_indexAddr (a := (↑(List.length p + r - o) : Int)) (bl := 0) (off := o * 2) (size := 2) 73 (n) g1)
      refine ld (.tuple #[]) (0) (Blk.mk 73 true (List.set (List.set (tcs (p ++ List.take r (List.take i Y) ++ x :: ([] ++ w :: (Y2 ++ List.drop i Y ++ q)))) (o * 2 + Int.toNat (↑(List.length p + r - o) : Int) * 2) (Value.int .i64 (Prod.fst w))) (o * 2 + Int.toNat (↑(List.length p + r - o) : Int) * 2 + 1) (Value.string (Prod.snd w)))) ?_ (hop := fun _ => o_storeH (v := Value.agg #[Value.int IntKind.i64 (Prod.fst w), Value.string (Prod.snd w)]) (xs := [Value.int IntKind.i64 (Prod.fst w), Value.string (Prod.snd w)]) (cells := tcs (p ++ List.take r (List.take i Y) ++ x :: ([] ++ w :: (Y2 ++ List.drop i Y ++ q)))) (el := 73) (0) (o * 2 + Int.toNat (↑(List.length p + r - o) : Int) * 2) (by kernel_rfl) q1)
      refine kp 76 (.pointer (some (Addr.mk 0 (o * 2 + Int.toNat (IntKind.wrap .i64 ((↑(List.length p + r - o) : Int) + 1)) * 2) none))) ?_ (hop := fun _ => o_indexAddr (a := IntKind.wrap IntKind.i64 ((↑(List.length p + r - o) : Int) + 1)) (bl := 0) (off := o * 2) (size := 2) 73 (n) g2)
      refine ld (.tuple #[]) (0) (Blk.mk 73 true (List.set (List.set (List.set (List.set (tcs (p ++ List.take r (List.take i Y) ++ x :: ([] ++ w :: (Y2 ++ List.drop i Y ++ q)))) (o * 2 + Int.toNat (↑(List.length p + r - o) : Int) * 2) (Value.int .i64 (Prod.fst w))) (o * 2 + Int.toNat (↑(List.length p + r - o) : Int) * 2 + 1) (Value.string (Prod.snd w))) (o * 2 + Int.toNat (IntKind.wrap .i64 ((↑(List.length p + r - o) : Int) + 1)) * 2) (Value.int .i64 (Prod.fst x))) (o * 2 + Int.toNat (IntKind.wrap .i64 ((↑(List.length p + r - o) : Int) + 1)) * 2 + 1) (Value.string (Prod.snd x)))) ?_ (hop := fun _ => o_storeH (v := Value.agg #[Value.int IntKind.i64 (Prod.fst x), Value.string (Prod.snd x)]) (xs := [Value.int IntKind.i64 (Prod.fst x), Value.string (Prod.snd x)]) (cells := List.set (List.set (tcs (p ++ List.take r (List.take i Y) ++ x :: ([] ++ w :: (Y2 ++ List.drop i Y ++ q)))) (o * 2 + Int.toNat (↑(List.length p + r - o) : Int) * 2) (Value.int IntKind.i64 (Prod.fst w))) (o * 2 + Int.toNat (↑(List.length p + r - o) : Int) * 2 + 1) (Value.string (Prod.snd w))) (el := 73) (0) (o * 2 + Int.toNat (IntKind.wrap IntKind.i64 ((↑(List.length p + r - o) : Int) + 1)) * 2) (by kernel_rfl) q2)
      refine WpOps.nil (blockK_norm (thenK_at (Wp.text ?_)))
      refine kp 59 (.int IntKind.i64 (↑(List.length p + r - o) : Int)) ?_
      refine kp 60 (.int IntKind.i64 (IntKind.wrap .i64 ((↑(List.length p + r - o) : Int) + 1))) ?_
      refine kp 13 (.int IntKind.i64 (IntKind.wrap .i64 ((↑(List.length p + r - o) : Int) + 1))) ?_
      refine WpOps.nil (thenK_at ?_)
      refine ⟨r + 1, by omega, by omega, ?_⟩
      rw [hr1, hr2]
      exact View.of [0] [rowB (p ++ ((Y.take i).take r ++ [w]) ++ x :: (Y2 ++ Y.drop i ++ q))] _ (by decide) rfl ⟨⟨_, by kernel_rfl, CellsOk.eq (s1.trans (by simp [rowB])) (tcs_flat _)⟩, trivial⟩ ⟨⟨by kernel_rfl, rfl⟩, ⟨by kernel_rfl, rfl⟩, ⟨congrArg (Value.int .i64) w5, rfl⟩, trivial⟩
    · obtain rfl : r = i := by omega
      have d4 : decide (((p.length + r - o : Nat) : Int) < IntKind.i64.wrap (((p.length + 1 + r - o : Nat) : Int) - 1)) = false := decide_eq_false (by rw [w9]; omega)
      rw [List.take_of_length_le (show (Y.take r).length ≤ r by omega), List.drop_of_length_le (show (Y.take r).length ≤ r by omega), List.nil_append]
      refine Wp.seq (Wp.seq (Wp.text ?_))
      refine kp 55 (.int IntKind.i64 (↑(List.length p + r - o) : Int)) ?_
      refine kp 56 (.int IntKind.i64 (↑(List.length p + 1 + r - o) : Int)) ?_
      refine kp 57 (.int IntKind.i64 (IntKind.wrap .i64 ((↑(List.length p + 1 + r - o) : Int) - 1))) ?_
      refine kp 58 (.bool false) ?_ (hop := fun _ => by_fact d4)
      refine WpOps.nil (thenK_at (off' (Wp.exit (thenK_exit (thenK_exit (blockK_hit (thenK_at (Wp.ret (thenK_ret ?_)))))))))
      refine endK_retn [] (Value.tuple #[]) (by kernel_rfl) (by kernel_rfl) ?_
      exact lentSame [rowB (p ++ (Y.take r ++ x :: Y.drop r) ++ q)] (pre1 ⟨(by kernel_rfl : _ = some (rowB (p ++ Y.take r ++ x :: (Y.drop r ++ q)))).trans (by simp), okCs_flat (tcs_flat _)⟩) (.w (.un rfl rfl))
end Go.Proofs.Ytdkmdpklojeepaa.D
