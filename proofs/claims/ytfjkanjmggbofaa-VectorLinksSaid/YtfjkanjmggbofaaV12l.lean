/- Settle, of both. -/
import Derived.Test.YtfjkanjmggbofaaFwLem
import Derived.Test.YtfjkanjmggbofaaFwCons
import Derived.Test.YtfjkanjmggbofaaV12k
namespace Go.Proofs.Ytfjkanjmggbofaa.D
open Go.Fw Go.RowKit

/-- Rounds. -/
def it (N : Nat) (c : Nat → Nat → Int) (poison : Bool) (f : Nat → Nat → Rt) : Nat → Nat → Nat → Rt
  | 0 => f
  | k + 1 => roundF N c poison (it N c poison f k)
/-- Where it settles: the number of rounds, or most. -/
def stop (N : Nat) (c : Nat → Nat → Int) (poison : Bool) (f : Nat → Nat → Rt) (most : Nat) : Nat := match (List.range most).find? (fun k => eqT N (it N c poison f (k + 1)) (it N c poison f k)) with
  | some k => k
  | none => most
theorem upto' {i : Nat} {P : Nat → Bool} (h : ∀ j, j < i → P j = false) (hi : P i = false) : ∀ j, j < i + 1 → P j = false := fun j hj => by
  rcases Nat.lt_or_ge j i with h1 | h1
  · exact h j h1
  · obtain rfl : j = i := by omega
    exact hi
theorem eqR_symm (a b : Rt) : eqR a b = eqR b a := by
  unfold eqR
  rw [Bool.eq_iff_iff]
  simp
  constructor <;> rintro ⟨h1, h2⟩ <;> exact ⟨h1.symm, h2.symm⟩
theorem eqT_symm (N : Nat) (f g : Nat → Nat → Rt) : eqT N f g = eqT N g f := by
  unfold eqT eqRow
  congr 1
  funext i
  congr 1
  funext j
  exact eqR_symm _ _
theorem stop_at {N : Nat} {c : Nat → Nat → Int} {poison : Bool} {f : Nat → Nat → Rt} {most k : Nat} (hk : k < most) (hp : ∀ j, j < k → eqT N (it N c poison f (j + 1)) (it N c poison f j) = false) (h : eqT N (it N c poison f (k + 1)) (it N c poison f k) = true) : stop N c poison f most = k := by
  unfold stop
  have : (List.range most).find? (fun k => eqT N (it N c poison f (k + 1)) (it N c poison f k)) = some k := by
    rw [List.find?_eq_some_iff_getElem]
    refine ⟨h, k, by simpa using hk, by simp, fun j hj => ?_⟩
    simp [hp j hj]
  rw [this]
theorem stop_most {N : Nat} {c : Nat → Nat → Int} {poison : Bool} {f : Nat → Nat → Rt} {most : Nat} (hp : ∀ j, j < most → eqT N (it N c poison f (j + 1)) (it N c poison f j) = false) : stop N c poison f most = most := by
  unfold stop
  have : (List.range most).find? (fun k => eqT N (it N c poison f (k + 1)) (it N c poison f k)) = none := by
    rw [List.find?_eq_none]
    intro j hj
    simp [hp j (List.mem_range.1 hj)]
  rw [this]
def okMost (ok : Bool) (most : Int) : Bool := ok && decide (0 ≤ most) && decide (most ≤ 1000)
theorem okMost_nest (ok : Bool) (most : Int) : (bif (bif !ok then true else decide (most < 0)) then true else decide (most > 1000)) = !okMost ok most := by
  unfold okMost
  cases ok
  · rfl
  by_cases h1 : most < 0
  · simp [h1, show ¬ 0 ≤ most by omega]
  by_cases h2 : most > 1000
  · simp [h1, h2, show ¬ most ≤ 1000 by omega]
  · simp [h1, h2, show 0 ≤ most by omega, show most ≤ 1000 by omega]
theorem okMost_ok {most : Nat} (hm : most ≤ 1000) : okMost true most = true := by
  unfold okMost
  simp
  omega
theorem f12 : E.funcs 12 = some Try.f12 := by kernel_rfl
theorem settle12_bad (N : Int) (x : Nat) (ls : List Lk) (xt : Nat) (T : List (Nat × List Rt)) (poison : Bool) (most : Int) (ok : Bool) (c1 : Fun E 40 [netV N x ls, tabF 45 47 xt T] (.bool ok)) (hb : okMost ok most = false) : Fun E 12 [netV N x ls, tabF 45 47 xt T, .bool poison, .int .i64 most] (.tuple #[FS 45 0 2 #[], .int .i64 0, .int .i64 1]) := by
  refine Fun.ofN f12 rfl (of_decide_eq_true (by kernel_rfl)) (by kernel_rfl) ?_
  unfold netV at c1 ⊢
  unfold lks at c1 ⊢
  unfold tabF at c1 ⊢
  refine Wp.seq (Wp.text ?_)
  refine md 4 (.pointer (some ⟨0, 0, none⟩)) (Blk.mk 24 true [Value.int .i64 N, Value.iface 48 (Value.iface (List.length ls) (Value.iface x (Value.agg (List.toArray (lcs ls)))))]) ?_
  refine kp 8 (.slice none 0 0) ?_
  refine kp 9 (.int IntKind.i64 0) ?_
  refine kp 10 (.int IntKind.i64 0) ?_
  refine WpOps.nil (thenK_at (Wp.seq (Wp.seq (Wp.text ?_))))
  refine kp 13 (.agg #[Value.int .i64 N, Value.iface 48 (Value.iface (List.length ls) (Value.iface x (Value.agg (List.toArray (lcs ls)))))]) ?_
  refine kp 14 (.iface 45 (Value.iface (List.length T) (Value.iface xt (Value.agg (List.toArray (List.map (fun p => rowF 47 (Prod.fst p) (Prod.snd p)) T)))))) ?_
  refine fr 15 40 [Value.agg #[Value.int .i64 N, Value.iface 48 (Value.iface (List.length ls) (Value.iface x (Value.agg (List.toArray (lcs ls)))))], Value.iface 45 (Value.iface (List.length T) (Value.iface xt (Value.agg (List.toArray (List.map (fun p => rowF 47 (Prod.fst p) (Prod.snd p)) T)))))] ?_
  refine WpFun.of (c1) ?_
  refine kp 16 (.bool !ok) ?_
  refine kp 17 (.bool !ok) ?_
  refine WpOps.fork 3 (!ok) [18, 19, 20] 20 (true) (decide (most < 0)) (by kernel_rfl) (fun g20 => ?_) (fun g20 => ?_) (fun f_20 b20 hb20 => ?_)
  · refine um 18 ?_ (hw := wants_tf g20)
    refine um 19 ?_ (hw := wants_tf g20)
    refine kp 20 (.bool true) ?_ (hop := fun _ => o_pickT g20)
    refine WpOps.nil ?_
    exact ⟨rfl, (.upd rfl (.upd rfl (.upd rfl .refl))), (by kernel_rfl)⟩
  · refine kp 18 (.int IntKind.i64 most) ?_ (hw := wants_ff g20)
    refine kp 19 (.bool (decide (most < 0))) ?_ (hw := wants_ff g20)
    refine kp 20 (.bool (decide (most < 0))) ?_ (hop := fun _ => o_pickF g20)
    refine WpOps.nil ?_
    exact ⟨rfl, (.upd rfl (.upd rfl (.upd rfl .refl))), (by kernel_rfl)⟩
  refine kp 21 (.bool b20) ?_
  refine WpOps.fork 3 (b20) [22, 23, 24] 24 (true) (decide (most > 1000)) (by kernel_rfl) (fun g24 => ?_) (fun g24 => ?_) (fun f_24 b24 hb24 => ?_)
  · refine um 22 ?_ (hw := wants_tf g24)
    refine um 23 ?_ (hw := wants_tf g24)
    refine kp 24 (.bool true) ?_ (hop := fun _ => o_pickT g24)
    refine WpOps.nil ?_
    exact ⟨rfl, (.upd rfl (.upd rfl (.upd rfl .refl))), (by kernel_rfl)⟩
  · refine kp 22 (.int IntKind.i64 most) ?_ (hw := wants_ff g24)
    refine kp 23 (.bool (decide (most > 1000))) ?_ (hw := wants_ff g24)
    refine kp 24 (.bool (decide (most > 1000))) ?_ (hop := fun _ => o_pickF g24)
    refine WpOps.nil ?_
    exact ⟨rfl, (.upd rfl (.upd rfl (.upd rfl .refl))), (by kernel_rfl)⟩
  refine WpOps.nil (thenK_at ?_)
  obtain rfl : b24 = true := by
    subst hb20
    rw [hb24, okMost_nest, hb]
    rfl
  refine on' (Wp.seq (Wp.text ?_))
  refine kp 8 (.slice none 0 0) ?_
  refine kp 9 (.int IntKind.i64 0) ?_
  refine kp 10 (.int IntKind.i64 1) ?_
  refine WpOps.nil (thenK_at (Wp.ret (thenK_ret ?_)))
  refine endK_retn [Value.slice none 0 0, Value.int IntKind.i64 0, Value.int IntKind.i64 1] (Value.tuple #[Value.slice none 0 0, Value.int IntKind.i64 0, Value.int IntKind.i64 1]) (by kernel_rfl) (by kernel_rfl) ?_
  obtain ⟨ti, ht⟩ := E45
  exact ⟨_, by kernel_rfl, .tuple (.cons (.c (.inr ⟨rfl, 45, ti, ht, rfl⟩)) (.cons (.c (.inl rfl)) (.cons (.c (.inl rfl)) .nil)))⟩
set_option maxHeartbeats 4000000 in
theorem settle12_ok (N x : Nat) (ls : List Lk) (f : Nat → Nat → Rt) (poison : Bool) (most : Nat) (hm : most ≤ 1000) (hN : 1 ≤ N ∧ N ≤ 20) (ht : Fun E 40 [netV N x ls, tabM 45 47 N f] (.bool true))
    (hr : ∀ k, Fun E 42 [netV N x ls, tabM 45 47 N (it N (cAt ls) poison f k), .bool poison] (tabM 45 47 N (it N (cAt ls) poison f (k + 1)))) :
    Fun E 12 [netV N x ls, tabM 45 47 N f, .bool poison, .int .i64 most] (.tuple #[tabM 45 47 N (it N (cAt ls) poison f (stop N (cAt ls) poison f most)), .int .i64 (stop N (cAt ls) poison f most), .int .i64 0]) := by
  have hu : iceV E Heap.none (.tuple #[tabM 45 47 N (it N (cAt ls) poison f (stop N (cAt ls) poison f most)), .int .i64 (stop N (cAt ls) poison f most), .int .i64 0]) = some (.tuple #[tabM 45 47 N (it N (cAt ls) poison f (stop N (cAt ls) poison f most)), .int .i64 (stop N (cAt ls) poison f most), .int .i64 0]) := by
    rw [tabM_eq]
    rfl
  have c1 := ownF41 N f hN
  refine Fun.of f12 rfl (of_decide_eq_true (by kernel_rfl)) hu ?_
  rw [tabM_eq] at c1 ht ⊢
  unfold netV at hr ht ⊢
  unfold lks at hr ht ⊢
  unfold matF at c1 ht ⊢
  have d2 : decide ((most : Int) > 1000) = false := decide_eq_false (by omega)
  refine Wp.seq (Wp.text ?_)
  refine md 4 (.pointer (some ⟨0, 0, none⟩)) (Blk.mk 24 true [Value.int .i64 (↑N : Int), Value.iface 48 (Value.iface (List.length ls) (Value.iface x (Value.agg (List.toArray (lcs ls)))))]) ?_
  refine kp 8 (.slice none 0 0) ?_
  refine kp 9 (.int IntKind.i64 0) ?_
  refine kp 10 (.int IntKind.i64 0) ?_
  refine WpOps.nil (thenK_at (Wp.seq (Wp.seq (Wp.text ?_))))
  refine kp 13 (.agg #[Value.int .i64 (↑N : Int), Value.iface 48 (Value.iface (List.length ls) (Value.iface x (Value.agg (List.toArray (lcs ls)))))]) ?_
  refine kp 14 (.iface 45 (Value.iface N (Value.iface 0 (Value.agg (List.toArray (List.map (fun r => FS 47 N 0 (List.toArray r)) (rowsM N f))))))) ?_
  refine fr 15 40 [Value.agg #[Value.int .i64 (↑N : Int), Value.iface 48 (Value.iface (List.length ls) (Value.iface x (Value.agg (List.toArray (lcs ls)))))], Value.iface 45 (Value.iface N (Value.iface 0 (Value.agg (List.toArray (List.map (fun r => FS 47 N 0 (List.toArray r)) (rowsM N f))))))] ?_
  refine WpFun.of (ht) ?_
  refine kp 16 (.bool false) ?_
  refine kp 17 (.bool false) ?_
  refine kp 18 (.int IntKind.i64 (↑most : Int)) ?_
  refine kp 19 (.bool (decide ((↑most : Int) < 0))) ?_
  refine kp 20 (.bool (decide ((↑most : Int) < 0))) ?_
  refine kp 21 (.bool (decide ((↑most : Int) < 0))) ?_
  refine kp 22 (.int IntKind.i64 (↑most : Int)) ?_
  refine kp 23 (.bool false) ?_ (hop := fun _ => by_fact d2)
  refine kp 24 (.bool false) ?_
  refine WpOps.nil (thenK_at (off' (Wp.skip (thenK_at (Wp.seq (Wp.text ?_))))))
  refine kp 25 (.iface 45 (Value.iface N (Value.iface 0 (Value.agg (List.toArray (List.map (fun r => FS 47 N 0 (List.toArray r)) (rowsM N f))))))) ?_
  refine cl 26 41 [Value.iface 45 (Value.iface N (Value.iface 0 (Value.agg (List.toArray (List.map (fun r => FS 47 N 0 (List.toArray r)) (rowsM N f))))))] ?_
  refine WpCall.consume [0] (c1) (by kernel_rfl) (by kernel_rfl) ?_
  refine kp 1 (.iface 45 (Value.iface N (Value.iface 0 (Value.agg (List.toArray (List.map (fun r => FS 47 N 0 (List.toArray r)) (rowsM N f))))))) ?_
  refine WpOps.nil (thenK_at (Wp.seq (Wp.seq (Wp.text ?_))))
  refine kp 27 (.int IntKind.i64 (↑most : Int)) ?_
  refine kp 28 (.int IntKind.i64 0) ?_
  refine WpOps.nil (thenK_at (Wp.block ?_))
  refine Wp.loop (G := Nat) (fun k => layj [(1, matF 45 47 N (rowsM N (it N (cAt ls) poison f k))), (2, .bool poison), (3, .int .i64 most), (4, .pointer (some ⟨0, 0, none⟩)), (27, .int .i64 most), (28, .int .i64 k)]) (fun _ => heapOf [nv N x ls]) (fun k => most - k) (fun k => k ≤ most ∧ ∀ j, j < k → eqT N (it N (cAt ls) poison f (j + 1)) (it N (cAt ls) poison f j) = false) 0
    (View.of [0] [nv N x ls] _ (by decide) rfl ⟨⟨[.int .i64 N, lks x ls], by kernel_rfl, by kernel_rfl, by kernel_rfl⟩, trivial⟩ ⟨⟨by kernel_rfl, rfl⟩, ⟨by kernel_rfl, rfl⟩, ⟨by kernel_rfl, rfl⟩, ⟨by kernel_rfl, rfl⟩, ⟨by kernel_rfl, rfl⟩, ⟨by kernel_rfl, rfl⟩, trivial⟩) ⟨Nat.zero_le _, fun j hj => absurd hj (Nat.not_lt_zero _)⟩ ?_
  rintro k ⟨hk, hp⟩
  by_cases hlt : k < most
  · have d1 : decide ((k : Int) < most) = true := decide_eq_true (by omega)
    have c2 := hr k
    have c3 := equal43 N (it N (cAt ls) poison f (k + 1)) (it N (cAt ls) poison f k) hN
    rw [tabM_eq, tabM_eq] at c2 c3
    unfold matF at c2 c3 ⊢
    unfold nv lks
    refine Wp.seq (Wp.text ?_)
    refine kp 29 (.bool true) ?_ (hop := fun _ => by_fact d1)
    refine WpOps.nil (thenK_at (Wp.seq (on' (Wp.skip (thenK_at (Wp.seq (Wp.block (Wp.seq (Wp.text ?_)))))))))
    refine kp 30 (.int IntKind.i64 (↑k : Int)) ?_
    refine kp 11 (.int IntKind.i64 (↑k : Int)) ?_
    refine WpOps.nil (thenK_at (Wp.seq (Wp.text ?_)))
    refine kp 31 (.agg #[Value.int .i64 (↑N : Int), Value.iface 48 (Value.iface (List.length ls) (Value.iface x (Value.agg (List.toArray (lcs ls)))))]) ?_
    refine kp 32 (.iface 45 (Value.iface N (Value.iface 0 (Value.agg (List.toArray (List.map (fun r => FS 47 N 0 (List.toArray r)) (rowsM N (it N (cAt ls) poison f k)))))))) ?_
    refine kp 33 (.bool poison) ?_
    refine cl 34 42 [Value.agg #[Value.int .i64 (↑N : Int), Value.iface 48 (Value.iface (List.length ls) (Value.iface x (Value.agg (List.toArray (lcs ls)))))], Value.iface 45 (Value.iface N (Value.iface 0 (Value.agg (List.toArray (List.map (fun r => FS 47 N 0 (List.toArray r)) (rowsM N (it N (cAt ls) poison f k))))))), Value.bool poison] ?_
    refine WpCall.consume [0] (c2) (by kernel_rfl) (by kernel_rfl) ?_
    refine kp 12 (.iface 45 (Value.iface N (Value.iface 0 (Value.agg (List.toArray (List.map (fun r => FS 47 N 0 (List.toArray r)) (rowsM N (it N (cAt ls) poison f (k + 1))))))))) ?_
    refine WpOps.nil (thenK_at (Wp.seq (Wp.seq (Wp.text ?_))))
    refine kp 35 (.iface 45 (Value.iface N (Value.iface 0 (Value.agg (List.toArray (List.map (fun r => FS 47 N 0 (List.toArray r)) (rowsM N (it N (cAt ls) poison f (k + 1))))))))) ?_
    refine kp 36 (.iface 45 (Value.iface N (Value.iface 0 (Value.agg (List.toArray (List.map (fun r => FS 47 N 0 (List.toArray r)) (rowsM N (it N (cAt ls) poison f k)))))))) ?_
    refine cl 37 43 [Value.iface 45 (Value.iface N (Value.iface 0 (Value.agg (List.toArray (List.map (fun r => FS 47 N 0 (List.toArray r)) (rowsM N (it N (cAt ls) poison f (k + 1)))))))), Value.iface 45 (Value.iface N (Value.iface 0 (Value.agg (List.toArray (List.map (fun r => FS 47 N 0 (List.toArray r)) (rowsM N (it N (cAt ls) poison f k))))))), Value.func (Fn.func 44) #[] #[]] ?_
    refine WpCall.anyH c3 (by kernel_rfl) ?_
    refine WpOps.nil (thenK_at ?_)
    refine Wp.split (eqT N (it N (cAt ls) poison f (k + 1)) (it N (cAt ls) poison f k)) (by kernel_rfl) (fun hx => ?_) (fun hx => ?_)
    · have hs : stop N (cAt ls) poison f most = k := stop_at hlt hp hx
      refine Wp.seq (Wp.text ?_)
      refine kp 38 (.iface 45 (Value.iface N (Value.iface 0 (Value.agg (List.toArray (List.map (fun r => FS 47 N 0 (List.toArray r)) (rowsM N (it N (cAt ls) poison f k)))))))) ?_
      refine kp 39 (.int IntKind.i64 (↑k : Int)) ?_
      refine kp 8 (.iface 45 (Value.iface N (Value.iface 0 (Value.agg (List.toArray (List.map (fun r => FS 47 N 0 (List.toArray r)) (rowsM N (it N (cAt ls) poison f k)))))))) ?_
      refine kp 9 (.int IntKind.i64 (↑k : Int)) ?_
      refine kp 10 (.int IntKind.i64 0) ?_
      refine WpOps.nil (thenK_at (Wp.ret (thenK_ret (blockK_ret (thenK_ret (thenK_ret (blockK_ret (thenK_ret ?_))))))))
      refine endK_retn [Value.iface 45 (Value.iface N (Value.iface 0 (Value.agg (List.toArray (List.map (fun r => FS 47 N 0 (List.toArray r)) (rowsM N (it N (cAt ls) poison f k))))))), Value.int IntKind.i64 (↑k : Int), Value.int IntKind.i64 0] (Value.tuple #[Value.iface 45 (Value.iface N (Value.iface 0 (Value.agg (List.toArray (List.map (fun r => FS 47 N 0 (List.toArray r)) (rowsM N (it N (cAt ls) poison f k))))))), Value.int IntKind.i64 (↑k : Int), Value.int IntKind.i64 0]) (by kernel_rfl) (by kernel_rfl) ?_
      rw [hs, tabM_eq]
      rfl
    · refine Wp.skip (thenK_at (Wp.text ?_))
      refine kp 40 (.iface 45 (Value.iface N (Value.iface 0 (Value.agg (List.toArray (List.map (fun r => FS 47 N 0 (List.toArray r)) (rowsM N (it N (cAt ls) poison f (k + 1))))))))) ?_
      refine kp 1 (.iface 45 (Value.iface N (Value.iface 0 (Value.agg (List.toArray (List.map (fun r => FS 47 N 0 (List.toArray r)) (rowsM N (it N (cAt ls) poison f (k + 1))))))))) ?_
      refine WpOps.nil (blockK_norm (thenK_at (Wp.text ?_)))
      refine kp 41 (.int IntKind.i64 (IntKind.wrap .i64 ((↑k : Int) + 1))) ?_
      refine kp 28 (.int IntKind.i64 (IntKind.wrap .i64 ((↑k : Int) + 1))) ?_
      refine WpOps.nil (thenK_at ?_)
      exact ⟨k + 1, by omega, ⟨by omega, upto' hp hx⟩, View.of [0] [nv N x ls] _ (by decide) rfl ⟨⟨[.int .i64 N, lks x ls], by kernel_rfl, by kernel_rfl, by kernel_rfl⟩, trivial⟩ ⟨⟨by kernel_rfl, rfl⟩, ⟨by kernel_rfl, rfl⟩, ⟨by kernel_rfl, rfl⟩, ⟨by kernel_rfl, rfl⟩, ⟨by kernel_rfl, rfl⟩, ⟨congrArg (Value.int .i64) (wr _ (by omega) (by omega)), rfl⟩, trivial⟩⟩
  · obtain rfl : k = most := by omega
    have d1 : decide ((k : Int) < k) = false := decide_eq_false (by omega)
    have hs : stop N (cAt ls) poison f k = k := stop_most hp
    unfold nv lks matF
    refine Wp.seq (Wp.text ?_)
    refine kp 29 (.bool false) ?_ (hop := fun _ => by_fact d1)
    refine WpOps.nil (thenK_at (Wp.seq (off' (Wp.exit (thenK_exit (thenK_exit (blockK_hit (thenK_at (Wp.seq (Wp.text ?_))))))))))
    refine kp 42 (.iface 45 (Value.iface N (Value.iface 0 (Value.agg (List.toArray (List.map (fun r => FS 47 N 0 (List.toArray r)) (rowsM N (it N (cAt ls) poison f k)))))))) ?_
    refine kp 43 (.int IntKind.i64 (↑k : Int)) ?_
    refine kp 8 (.iface 45 (Value.iface N (Value.iface 0 (Value.agg (List.toArray (List.map (fun r => FS 47 N 0 (List.toArray r)) (rowsM N (it N (cAt ls) poison f k)))))))) ?_
    refine kp 9 (.int IntKind.i64 (↑k : Int)) ?_
    refine kp 10 (.int IntKind.i64 0) ?_
    refine WpOps.nil (thenK_at (Wp.ret ?_))
    refine endK_retn [Value.iface 45 (Value.iface N (Value.iface 0 (Value.agg (List.toArray (List.map (fun r => FS 47 N 0 (List.toArray r)) (rowsM N (it N (cAt ls) poison f k))))))), Value.int IntKind.i64 (↑k : Int), Value.int IntKind.i64 0] (Value.tuple #[Value.iface 45 (Value.iface N (Value.iface 0 (Value.agg (List.toArray (List.map (fun r => FS 47 N 0 (List.toArray r)) (rowsM N (it N (cAt ls) poison f k))))))), Value.int IntKind.i64 (↑k : Int), Value.int IntKind.i64 0]) (by kernel_rfl) (by kernel_rfl) ?_
    rw [hs, tabM_eq]
    rfl
theorem f13 : E.funcs 13 = some Try.f13 := by kernel_rfl
theorem settle13_bad (N : Int) (x : Nat) (ls : List Lk) (xt : Nat) (T : List (Nat × List Rt)) (poison : Bool) (most : Int) (ok : Bool) (c1 : Fun E 45 [netV N x ls, tabF 92 93 xt T] (.bool ok)) (hb : okMost ok most = false) : Fun E 13 [netV N x ls, tabF 92 93 xt T, .bool poison, .int .i64 most] (.tuple #[FS 92 0 2 #[], .int .i64 0, .int .i64 1]) := by
  refine Fun.ofN f13 rfl (of_decide_eq_true (by kernel_rfl)) (by kernel_rfl) ?_
  unfold netV at c1 ⊢
  unfold lks at c1 ⊢
  unfold tabF at c1 ⊢
  refine Wp.seq (Wp.text ?_)
  refine md 4 (.pointer (some ⟨0, 0, none⟩)) (Blk.mk 34 true [Value.int .i64 N, Value.iface 48 (Value.iface (List.length ls) (Value.iface x (Value.agg (List.toArray (lcs ls)))))]) ?_
  refine kp 8 (.slice none 0 0) ?_
  refine kp 9 (.int IntKind.i64 0) ?_
  refine kp 10 (.int IntKind.i64 0) ?_
  refine WpOps.nil (thenK_at (Wp.seq (Wp.seq (Wp.text ?_))))
  refine kp 14 (.agg #[Value.int .i64 N, Value.iface 48 (Value.iface (List.length ls) (Value.iface x (Value.agg (List.toArray (lcs ls)))))]) ?_
  refine kp 15 (.iface 92 (Value.iface (List.length T) (Value.iface xt (Value.agg (List.toArray (List.map (fun p => rowF 93 (Prod.fst p) (Prod.snd p)) T)))))) ?_
  refine fr 16 45 [Value.agg #[Value.int .i64 N, Value.iface 48 (Value.iface (List.length ls) (Value.iface x (Value.agg (List.toArray (lcs ls)))))], Value.iface 92 (Value.iface (List.length T) (Value.iface xt (Value.agg (List.toArray (List.map (fun p => rowF 93 (Prod.fst p) (Prod.snd p)) T)))))] ?_
  refine WpFun.of (c1) ?_
  refine kp 17 (.bool !ok) ?_
  refine kp 18 (.bool !ok) ?_
  refine WpOps.fork 3 (!ok) [19, 20, 21] 21 (true) (decide (most < 0)) (by kernel_rfl) (fun g21 => ?_) (fun g21 => ?_) (fun f_21 b21 hb21 => ?_)
  · refine um 19 ?_ (hw := wants_tf g21)
    refine um 20 ?_ (hw := wants_tf g21)
    refine kp 21 (.bool true) ?_ (hop := fun _ => o_pickT g21)
    refine WpOps.nil ?_
    exact ⟨rfl, (.upd rfl (.upd rfl (.upd rfl .refl))), (by kernel_rfl)⟩
  · refine kp 19 (.int IntKind.i64 most) ?_ (hw := wants_ff g21)
    refine kp 20 (.bool (decide (most < 0))) ?_ (hw := wants_ff g21)
    refine kp 21 (.bool (decide (most < 0))) ?_ (hop := fun _ => o_pickF g21)
    refine WpOps.nil ?_
    exact ⟨rfl, (.upd rfl (.upd rfl (.upd rfl .refl))), (by kernel_rfl)⟩
  refine kp 22 (.bool b21) ?_
  refine WpOps.fork 3 (b21) [23, 24, 25] 25 (true) (decide (most > 1000)) (by kernel_rfl) (fun g25 => ?_) (fun g25 => ?_) (fun f_25 b25 hb25 => ?_)
  · refine um 23 ?_ (hw := wants_tf g25)
    refine um 24 ?_ (hw := wants_tf g25)
    refine kp 25 (.bool true) ?_ (hop := fun _ => o_pickT g25)
    refine WpOps.nil ?_
    exact ⟨rfl, (.upd rfl (.upd rfl (.upd rfl .refl))), (by kernel_rfl)⟩
  · refine kp 23 (.int IntKind.i64 most) ?_ (hw := wants_ff g25)
    refine kp 24 (.bool (decide (most > 1000))) ?_ (hw := wants_ff g25)
    refine kp 25 (.bool (decide (most > 1000))) ?_ (hop := fun _ => o_pickF g25)
    refine WpOps.nil ?_
    exact ⟨rfl, (.upd rfl (.upd rfl (.upd rfl .refl))), (by kernel_rfl)⟩
  refine WpOps.nil (thenK_at ?_)
  obtain rfl : b25 = true := by
    subst hb21
    rw [hb25, okMost_nest, hb]
    rfl
  refine on' (Wp.seq (Wp.text ?_))
  refine kp 8 (.slice none 0 0) ?_
  refine kp 9 (.int IntKind.i64 0) ?_
  refine kp 10 (.int IntKind.i64 1) ?_
  refine WpOps.nil (thenK_at (Wp.ret (thenK_ret ?_)))
  refine endK_retn [Value.slice none 0 0, Value.int IntKind.i64 0, Value.int IntKind.i64 1] (Value.tuple #[Value.slice none 0 0, Value.int IntKind.i64 0, Value.int IntKind.i64 1]) (by kernel_rfl) (by kernel_rfl) ?_
  obtain ⟨ti, ht⟩ := E92
  exact ⟨_, by kernel_rfl, .tuple (.cons (.c (.inr ⟨rfl, 92, ti, ht, rfl⟩)) (.cons (.c (.inl rfl)) (.cons (.c (.inl rfl)) .nil)))⟩
set_option maxHeartbeats 4000000 in
theorem settle13_ok (N x : Nat) (ls : List Lk) (f : Nat → Nat → Rt) (poison : Bool) (most : Nat) (hm : most ≤ 1000) (hN : 1 ≤ N ∧ N ≤ 20) (ht : Fun E 45 [netV N x ls, tabM 92 93 N f] (.bool true))
    (hr : ∀ k, Fun E 47 [netV N x ls, tabM 92 93 N (it N (cF ls) poison f k), .bool poison] (tabM 92 93 N (it N (cF ls) poison f (k + 1)))) :
    Fun E 13 [netV N x ls, tabM 92 93 N f, .bool poison, .int .i64 most] (.tuple #[tabM 92 93 N (it N (cF ls) poison f (stop N (cF ls) poison f most)), .int .i64 (stop N (cF ls) poison f most), .int .i64 0]) := by
  have hu : iceV E Heap.none (.tuple #[tabM 92 93 N (it N (cF ls) poison f (stop N (cF ls) poison f most)), .int .i64 (stop N (cF ls) poison f most), .int .i64 0]) = some (.tuple #[tabM 92 93 N (it N (cF ls) poison f (stop N (cF ls) poison f most)), .int .i64 (stop N (cF ls) poison f most), .int .i64 0]) := by
    rw [tabM_eq]
    rfl
  have c1 := copied46 N f hN
  refine Fun.of f13 rfl (of_decide_eq_true (by kernel_rfl)) hu ?_
  rw [tabM_eq] at c1 ht ⊢
  unfold netV at hr ht ⊢
  unfold lks at hr ht ⊢
  unfold matF at c1 ht ⊢
  have d2 : decide ((most : Int) > 1000) = false := decide_eq_false (by omega)
  refine Wp.seq (Wp.text ?_)
  refine md 4 (.pointer (some ⟨0, 0, none⟩)) (Blk.mk 34 true [Value.int .i64 (↑N : Int), Value.iface 48 (Value.iface (List.length ls) (Value.iface x (Value.agg (List.toArray (lcs ls)))))]) ?_
  refine kp 8 (.slice none 0 0) ?_
  refine kp 9 (.int IntKind.i64 0) ?_
  refine kp 10 (.int IntKind.i64 0) ?_
  refine WpOps.nil (thenK_at (Wp.seq (Wp.seq (Wp.text ?_))))
  refine kp 14 (.agg #[Value.int .i64 (↑N : Int), Value.iface 48 (Value.iface (List.length ls) (Value.iface x (Value.agg (List.toArray (lcs ls)))))]) ?_
  refine kp 15 (.iface 92 (Value.iface N (Value.iface 0 (Value.agg (List.toArray (List.map (fun r => FS 93 N 0 (List.toArray r)) (rowsM N f))))))) ?_
  refine fr 16 45 [Value.agg #[Value.int .i64 (↑N : Int), Value.iface 48 (Value.iface (List.length ls) (Value.iface x (Value.agg (List.toArray (lcs ls)))))], Value.iface 92 (Value.iface N (Value.iface 0 (Value.agg (List.toArray (List.map (fun r => FS 93 N 0 (List.toArray r)) (rowsM N f))))))] ?_
  refine WpFun.of (ht) ?_
  refine kp 17 (.bool false) ?_
  refine kp 18 (.bool false) ?_
  refine kp 19 (.int IntKind.i64 (↑most : Int)) ?_
  refine kp 20 (.bool (decide ((↑most : Int) < 0))) ?_
  refine kp 21 (.bool (decide ((↑most : Int) < 0))) ?_
  refine kp 22 (.bool (decide ((↑most : Int) < 0))) ?_
  refine kp 23 (.int IntKind.i64 (↑most : Int)) ?_
  refine kp 24 (.bool false) ?_ (hop := fun _ => by_fact d2)
  refine kp 25 (.bool false) ?_
  refine WpOps.nil (thenK_at (off' (Wp.skip (thenK_at (Wp.seq (Wp.text ?_))))))
  refine kp 26 (.iface 92 (Value.iface N (Value.iface 0 (Value.agg (List.toArray (List.map (fun r => FS 93 N 0 (List.toArray r)) (rowsM N f))))))) ?_
  refine fr 27 46 [Value.iface 92 (Value.iface N (Value.iface 0 (Value.agg (List.toArray (List.map (fun r => FS 93 N 0 (List.toArray r)) (rowsM N f))))))] ?_
  refine WpFun.of (c1) ?_
  refine kp 11 (.iface 92 (Value.iface N (Value.iface 0 (Value.agg (List.toArray (List.map (fun r => FS 93 N 0 (List.toArray r)) (rowsM N f))))))) ?_
  refine WpOps.nil (thenK_at (Wp.seq (Wp.seq (Wp.text ?_))))
  refine kp 12 (.int IntKind.i64 0) ?_
  refine WpOps.nil (thenK_at (Wp.block ?_))
  refine Wp.loop (G := Nat) (fun k => layj [(2, .bool poison), (3, .int .i64 most), (4, .pointer (some ⟨0, 0, none⟩)), (11, matF 92 93 N (rowsM N (it N (cF ls) poison f k))), (12, .int .i64 k)]) (fun _ => heapOf [nrf N x ls]) (fun k => most - k) (fun k => k ≤ most ∧ ∀ j, j < k → eqT N (it N (cF ls) poison f (j + 1)) (it N (cF ls) poison f j) = false) 0
    (View.of [0] [nrf N x ls] _ (by decide) rfl ⟨⟨[.int .i64 N, lks x ls], by kernel_rfl, by kernel_rfl, by kernel_rfl⟩, trivial⟩ ⟨⟨by kernel_rfl, rfl⟩, ⟨by kernel_rfl, rfl⟩, ⟨by kernel_rfl, rfl⟩, ⟨by kernel_rfl, rfl⟩, ⟨by kernel_rfl, rfl⟩, trivial⟩) ⟨Nat.zero_le _, fun j hj => absurd hj (Nat.not_lt_zero _)⟩ ?_
  rintro k ⟨hk, hp⟩
  by_cases hlt : k < most
  · have d1 : decide ((k : Int) < most) = true := decide_eq_true (by omega)
    have c2 := hr k
    have c3 := same20 N (it N (cF ls) poison f k) (it N (cF ls) poison f (k + 1)) hN
    rw [tabM_eq, tabM_eq] at c2 c3
    unfold matF at c2 c3 ⊢
    unfold nrf lks
    refine Wp.seq (Wp.seq (Wp.text ?_))
    refine kp 28 (.int IntKind.i64 (↑k : Int)) ?_
    refine kp 29 (.int IntKind.i64 (↑most : Int)) ?_
    refine kp 30 (.bool true) ?_ (hop := fun _ => by_fact d1)
    refine WpOps.nil (thenK_at (on' (Wp.skip (thenK_at (Wp.seq (Wp.block (Wp.seq (Wp.text ?_))))))))
    refine kp 33 (.agg #[Value.int .i64 (↑N : Int), Value.iface 48 (Value.iface (List.length ls) (Value.iface x (Value.agg (List.toArray (lcs ls)))))]) ?_
    refine kp 34 (.iface 92 (Value.iface N (Value.iface 0 (Value.agg (List.toArray (List.map (fun r => FS 93 N 0 (List.toArray r)) (rowsM N (it N (cF ls) poison f k)))))))) ?_
    refine kp 35 (.bool poison) ?_
    refine fr 36 47 [Value.agg #[Value.int .i64 (↑N : Int), Value.iface 48 (Value.iface (List.length ls) (Value.iface x (Value.agg (List.toArray (lcs ls)))))], Value.iface 92 (Value.iface N (Value.iface 0 (Value.agg (List.toArray (List.map (fun r => FS 93 N 0 (List.toArray r)) (rowsM N (it N (cF ls) poison f k))))))), Value.bool poison] ?_
    refine WpFun.of (c2) ?_
    refine kp 13 (.iface 92 (Value.iface N (Value.iface 0 (Value.agg (List.toArray (List.map (fun r => FS 93 N 0 (List.toArray r)) (rowsM N (it N (cF ls) poison f (k + 1))))))))) ?_
    refine WpOps.nil (thenK_at (Wp.seq (Wp.seq (Wp.text ?_))))
    refine kp 37 (.iface 92 (Value.iface N (Value.iface 0 (Value.agg (List.toArray (List.map (fun r => FS 93 N 0 (List.toArray r)) (rowsM N (it N (cF ls) poison f k)))))))) ?_
    refine kp 38 (.iface 92 (Value.iface N (Value.iface 0 (Value.agg (List.toArray (List.map (fun r => FS 93 N 0 (List.toArray r)) (rowsM N (it N (cF ls) poison f (k + 1))))))))) ?_
    refine fr 39 20 [Value.iface 92 (Value.iface N (Value.iface 0 (Value.agg (List.toArray (List.map (fun r => FS 93 N 0 (List.toArray r)) (rowsM N (it N (cF ls) poison f k))))))), Value.iface 92 (Value.iface N (Value.iface 0 (Value.agg (List.toArray (List.map (fun r => FS 93 N 0 (List.toArray r)) (rowsM N (it N (cF ls) poison f (k + 1))))))))] ?_
    refine WpFun.of (c3) ?_
    refine WpOps.nil (thenK_at ?_)
    refine Wp.split (eqT N (it N (cF ls) poison f k) (it N (cF ls) poison f (k + 1))) (by kernel_rfl) (fun hx => ?_) (fun hx => ?_)
    · have hs : stop N (cF ls) poison f most = k := stop_at hlt hp ((eqT_symm _ _ _).trans hx)
      refine Wp.seq (Wp.text ?_)
      refine kp 40 (.iface 92 (Value.iface N (Value.iface 0 (Value.agg (List.toArray (List.map (fun r => FS 93 N 0 (List.toArray r)) (rowsM N (it N (cF ls) poison f k)))))))) ?_
      refine kp 41 (.int IntKind.i64 (↑k : Int)) ?_
      refine kp 8 (.iface 92 (Value.iface N (Value.iface 0 (Value.agg (List.toArray (List.map (fun r => FS 93 N 0 (List.toArray r)) (rowsM N (it N (cF ls) poison f k)))))))) ?_
      refine kp 9 (.int IntKind.i64 (↑k : Int)) ?_
      refine kp 10 (.int IntKind.i64 0) ?_
      refine WpOps.nil (thenK_at (Wp.ret (thenK_ret (blockK_ret (thenK_ret (thenK_ret (blockK_ret (thenK_ret ?_))))))))
      refine endK_retn [Value.iface 92 (Value.iface N (Value.iface 0 (Value.agg (List.toArray (List.map (fun r => FS 93 N 0 (List.toArray r)) (rowsM N (it N (cF ls) poison f k))))))), Value.int IntKind.i64 (↑k : Int), Value.int IntKind.i64 0] (Value.tuple #[Value.iface 92 (Value.iface N (Value.iface 0 (Value.agg (List.toArray (List.map (fun r => FS 93 N 0 (List.toArray r)) (rowsM N (it N (cF ls) poison f k))))))), Value.int IntKind.i64 (↑k : Int), Value.int IntKind.i64 0]) (by kernel_rfl) (by kernel_rfl) ?_
      rw [hs, tabM_eq]
      rfl
    · refine Wp.skip (thenK_at (Wp.text ?_))
      refine kp 42 (.iface 92 (Value.iface N (Value.iface 0 (Value.agg (List.toArray (List.map (fun r => FS 93 N 0 (List.toArray r)) (rowsM N (it N (cF ls) poison f (k + 1))))))))) ?_
      refine kp 11 (.iface 92 (Value.iface N (Value.iface 0 (Value.agg (List.toArray (List.map (fun r => FS 93 N 0 (List.toArray r)) (rowsM N (it N (cF ls) poison f (k + 1))))))))) ?_
      refine WpOps.nil (blockK_norm (thenK_at (Wp.text ?_)))
      refine kp 31 (.int IntKind.i64 (↑k : Int)) ?_
      refine kp 32 (.int IntKind.i64 (IntKind.wrap .i64 ((↑k : Int) + 1))) ?_
      refine kp 12 (.int IntKind.i64 (IntKind.wrap .i64 ((↑k : Int) + 1))) ?_
      refine WpOps.nil (thenK_at ?_)
      exact ⟨k + 1, by omega, ⟨by omega, upto' hp ((eqT_symm _ _ _).trans hx)⟩, View.of [0] [nrf N x ls] _ (by decide) rfl ⟨⟨[.int .i64 N, lks x ls], by kernel_rfl, by kernel_rfl, by kernel_rfl⟩, trivial⟩ ⟨⟨by kernel_rfl, rfl⟩, ⟨by kernel_rfl, rfl⟩, ⟨by kernel_rfl, rfl⟩, ⟨by kernel_rfl, rfl⟩, ⟨congrArg (Value.int .i64) (wr _ (by omega) (by omega)), rfl⟩, trivial⟩⟩
  · obtain rfl : k = most := by omega
    have d1 : decide ((k : Int) < k) = false := decide_eq_false (by omega)
    have hs : stop N (cF ls) poison f k = k := stop_most hp
    unfold nrf lks matF
    refine Wp.seq (Wp.seq (Wp.text ?_))
    refine kp 28 (.int IntKind.i64 (↑k : Int)) ?_
    refine kp 29 (.int IntKind.i64 (↑k : Int)) ?_
    refine kp 30 (.bool false) ?_ (hop := fun _ => by_fact d1)
    refine WpOps.nil (thenK_at (off' (Wp.exit (thenK_exit (thenK_exit (blockK_hit (thenK_at (Wp.seq (Wp.text ?_)))))))))
    refine kp 43 (.iface 92 (Value.iface N (Value.iface 0 (Value.agg (List.toArray (List.map (fun r => FS 93 N 0 (List.toArray r)) (rowsM N (it N (cF ls) poison f k)))))))) ?_
    refine kp 44 (.int IntKind.i64 (↑k : Int)) ?_
    refine kp 8 (.iface 92 (Value.iface N (Value.iface 0 (Value.agg (List.toArray (List.map (fun r => FS 93 N 0 (List.toArray r)) (rowsM N (it N (cF ls) poison f k)))))))) ?_
    refine kp 9 (.int IntKind.i64 (↑k : Int)) ?_
    refine kp 10 (.int IntKind.i64 0) ?_
    refine WpOps.nil (thenK_at (Wp.ret ?_))
    refine endK_retn [Value.iface 92 (Value.iface N (Value.iface 0 (Value.agg (List.toArray (List.map (fun r => FS 93 N 0 (List.toArray r)) (rowsM N (it N (cF ls) poison f k))))))), Value.int IntKind.i64 (↑k : Int), Value.int IntKind.i64 0] (Value.tuple #[Value.iface 92 (Value.iface N (Value.iface 0 (Value.agg (List.toArray (List.map (fun r => FS 93 N 0 (List.toArray r)) (rowsM N (it N (cF ls) poison f k))))))), Value.int IntKind.i64 (↑k : Int), Value.int IntKind.i64 0]) (by kernel_rfl) (by kernel_rfl) ?_
    rw [hs, tabM_eq]
    rfl
end Go.Proofs.Ytfjkanjmggbofaa.D
