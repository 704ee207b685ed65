/- Path and Loops, of both; lists of numbers compared. -/
import Derived.Test.YtfjkanjmggbofaaFwLem
import Derived.Test.YtfjkanjmggbofaaFwCons
import Derived.Test.YtfjkanjmggbofaaV12q
namespace Go.Proofs.Ytfjkanjmggbofaa.D
open Go.Fw Go.RowKit

theorem f30 : E.funcs 30 = some Try.f30 := by kernel_rfl
/-- Two lists of m numbers. -/
theorem ints30 (m : Nat) (h h' : Nat → Int) (hm : m ≤ 1000) : Fun E 30 [FS 3 m 0 ((List.range m).map fun j => Value.int .i64 (h j)).toArray, FS 3 m 0 ((List.range m).map fun j => Value.int .i64 (h' j)).toArray] (.bool (allR m fun j => h j == h' j)) := by
  refine Fun.of f30 rfl (of_decide_eq_true (by kernel_rfl)) rfl ?_
  have d0 : ((m : Int) != (m : Int)) = false := by simp
  refine Wp.seq (Wp.text ?_)
  refine kp 4 (.bool false) ?_
  refine WpOps.nil (thenK_at (Wp.seq (Wp.seq (Wp.text ?_))))
  refine kp 6 (.iface 3 (Value.iface m (Value.iface 0 (Value.agg (List.toArray (List.map (fun j => Value.int .i64 (h j)) (List.range m))))))) ?_
  refine kp 7 (.int IntKind.i64 (↑m : Int)) ?_
  refine kp 8 (.iface 3 (Value.iface m (Value.iface 0 (Value.agg (List.toArray (List.map (fun j => Value.int .i64 (h' j)) (List.range m))))))) ?_
  refine kp 9 (.int IntKind.i64 (↑m : Int)) ?_
  refine kp 10 (.bool false) ?_ (hop := fun _ => by_fact d0)
  refine WpOps.nil (thenK_at (off' (Wp.skip (thenK_at (Wp.seq (Wp.seq (Wp.text ?_)))))))
  refine kp 5 (.int IntKind.i64 0) ?_
  refine WpOps.nil (thenK_at (Wp.block ?_))
  refine Wp.loop (G := Nat) (fun j => layj [(0, FS 3 m 0 ((List.range m).map fun j => Value.int .i64 (h j)).toArray), (1, FS 3 m 0 ((List.range m).map fun j => Value.int .i64 (h' j)).toArray), (5, .int .i64 j)]) (fun _ => heapOf []) (fun j => m - j) (fun j => j ≤ m ∧ ∀ k, k < j → (h k == h' k) = true) 0
    (View.of [] [] _ (by decide) rfl trivial ⟨⟨by kernel_rfl, rfl⟩, ⟨by kernel_rfl, rfl⟩, ⟨by kernel_rfl, rfl⟩, trivial⟩) ⟨Nat.zero_le _, fun i hi => absurd hi (Nat.not_lt_zero _)⟩ ?_
  rintro j ⟨hj, hq⟩
  by_cases hlt : j < m
  · have d1 : decide ((j : Int) < m) = true := decide_eq_true (by omega)
    have g1 : 0 ≤ (j : Int) ∧ (j : Int) < m := by omega
    have v1 := matC_cell (c := fun _ => h) (i := 0) hlt
    have v2 := matC_cell (c := fun _ => h') (i := 0) hlt
    dsimp only at v1 v2
    refine Wp.seq (Wp.seq (Wp.text ?_))
    refine kp 11 (.int IntKind.i64 (↑j : Int)) ?_
    refine kp 12 (.iface 3 (Value.iface m (Value.iface 0 (Value.agg (List.toArray (List.map (fun j => Value.int .i64 (h j)) (List.range m))))))) ?_
    refine kp 13 (.int IntKind.i64 (↑m : Int)) ?_
    refine kp 14 (.bool true) ?_ (hop := fun _ => by_fact d1)
    refine WpOps.nil (thenK_at (on' (Wp.skip (thenK_at (Wp.seq (Wp.block (Wp.seq ?_)))))))
    refine Wp.region (by kernel_rfl) ?_
    refine kp 17 (.iface 3 (Value.iface m (Value.iface 0 (Value.agg (List.toArray (List.map (fun j => Value.int .i64 (h j)) (List.range m))))))) ?_
    refine kp 18 (.int IntKind.i64 (↑j : Int)) ?_
    refine kp 19 (.iface 3 (Value.iface (Int.toNat (↑j : Int) * 1) (Value.agg (List.toArray (List.map (fun j => Value.int .i64 (h j)) (List.range m)))))) ?_ (hop := fun _ => o_indexI (e := 3) (size := 1) (a := (↑j : Int)) g1)
    refine kp 20 (.int IntKind.i64 (h j)) ?_ (hop := fun _ => o_loadI1 (Int.toNat (↑j : Int) * 1) v1)
    refine kp 21 (.iface 3 (Value.iface m (Value.iface 0 (Value.agg (List.toArray (List.map (fun j => Value.int .i64 (h' j)) (List.range m))))))) ?_
    refine kp 22 (.int IntKind.i64 (↑j : Int)) ?_
    refine kp 23 (.iface 3 (Value.iface (Int.toNat (↑j : Int) * 1) (Value.agg (List.toArray (List.map (fun j => Value.int .i64 (h' j)) (List.range m)))))) ?_ (hop := fun _ => o_indexI (e := 3) (size := 1) (a := (↑j : Int)) g1)
    refine kp 24 (.int IntKind.i64 (h' j)) ?_ (hop := fun _ => o_loadI1 (Int.toNat (↑j : Int) * 1) v2)
    refine kp 25 (.bool (h j != h' j)) ?_
    refine WpOps.nil (thenK_at ?_)
    refine Wp.split (h j != h' j) (by kernel_rfl) (fun hx => ?_) (fun hx => ?_)
    · refine Wp.seq (Wp.text ?_)
      refine kp 4 (.bool false) ?_
      refine WpOps.nil (thenK_at (Wp.ret (blockK_ret (thenK_ret (thenK_ret (blockK_ret (thenK_ret ?_)))))))
      refine endK_retn [Value.bool false] (Value.bool false) (by kernel_rfl) (by kernel_rfl) ?_
      have : (allR m fun j => h j == h' j) = false := allR_false hlt (by simpa using hx)
      rw [this]
      rfl
    · refine Wp.skip (blockK_norm (thenK_at (Wp.text ?_)))
      refine kp 15 (.int IntKind.i64 (↑j : Int)) ?_
      refine kp 16 (.int IntKind.i64 (IntKind.wrap .i64 ((↑j : Int) + 1))) ?_
      refine kp 5 (.int IntKind.i64 (IntKind.wrap .i64 ((↑j : Int) + 1))) ?_
      refine WpOps.nil (thenK_at ?_)
      exact ⟨j + 1, by omega, ⟨by omega, upto hq (by simpa using hx)⟩, View.of [] [] _ (by decide) rfl trivial ⟨⟨by kernel_rfl, rfl⟩, ⟨by kernel_rfl, rfl⟩, ⟨congrArg (Value.int .i64) (wr _ (by omega) (by omega)), rfl⟩, trivial⟩⟩
  · obtain rfl : j = m := by omega
    have d1 : decide ((j : Int) < j) = false := decide_eq_false (by omega)
    refine Wp.seq (Wp.seq (Wp.text ?_))
    refine kp 11 (.int IntKind.i64 (↑j : Int)) ?_
    refine kp 12 (.iface 3 (Value.iface j (Value.iface 0 (Value.agg (List.toArray (List.map (fun j => Value.int .i64 (h j)) (List.range j))))))) ?_
    refine kp 13 (.int IntKind.i64 (↑j : Int)) ?_
    refine kp 14 (.bool false) ?_ (hop := fun _ => by_fact d1)
    refine WpOps.nil (thenK_at (off' (Wp.exit (thenK_exit (thenK_exit (blockK_hit (thenK_at (Wp.seq (Wp.text ?_)))))))))
    refine kp 4 (.bool true) ?_
    refine WpOps.nil (thenK_at (Wp.ret ?_))
    refine endK_retn [Value.bool true] (Value.bool true) (by kernel_rfl) (by kernel_rfl) ?_
    have : (allR j fun j => h j == h' j) = true := allR_true hq
    rw [this]
    rfl
theorem ints30n : Fun E 30 [FS 3 0 2 #[], FS 3 0 2 #[]] (.bool true) := Fun.closed 50 (.bool true) (by kernel_rfl)
theorem E3 : ∃ ti, E.types 3 = some ti := by
  have : (E.types 3).map TI.size = some 1 := by kernel_rfl
  obtain ⟨ti, h, _⟩ := Option.map_eq_some_iff.1 this
  exact ⟨ti, h⟩
def okPath (ok a b : Bool) : Bool := ok && a && b
theorem okPath_nest (ok a b : Bool) : (bif (bif !ok then true else !a) then true else !b) = !okPath ok a b := by
  cases ok <;> cases a <;> cases b <;> rfl
theorem how_zero (n : Nat) (c : Nat → Nat → Int) (f : Nat → Nat → Rt) (to st : Nat) : (howP n c f to st == 0) = (nd f to st (stopP n c f to st) == to) := by
  unfold howP
  by_cases h : nd f to st (stopP n c f to st) = to
  · simp [h]
  · rw [if_neg h]
    have : (nd f to st (stopP n c f to st) == to) = false := by simpa using h
    rw [this]
    split <;> rfl
/-- It goes round. -/
def goes (n : Nat) (c : Nat → Nat → Int) (f : Nat → Nat → Rt) (st to : Nat) : Bool := !(nd f to st (stopP n c f to st) == to) && !decide (stopP n c f to st < n)
theorem how_two (n : Nat) (c : Nat → Nat → Int) (f : Nat → Nat → Rt) (to st : Nat) : (howP n c f to st == 2) = goes n c f st to := by
  unfold howP goes
  by_cases h : nd f to st (stopP n c f to st) = to
  · simp [h]
  · rw [if_neg h]
    have : (nd f to st (stopP n c f to st) == to) = false := by simpa using h
    rw [this]
    by_cases h2 : stopP n c f to st < n
    · rw [if_pos h2]
      simp [h2]
    · rw [if_neg h2]
      simp [h2]
def cntRow (n : Nat) (c : Nat → Nat → Int) (f : Nat → Nat → Rt) (i : Nat) : Nat → Nat
  | 0 => 0
  | j + 1 => cntRow n c f i j + (if goes n c f i j = true then 1 else 0)
def cntAll (n : Nat) (c : Nat → Nat → Int) (f : Nat → Nat → Rt) : Nat → Nat
  | 0 => 0
  | i + 1 => cntAll n c f i + cntRow n c f i n
theorem cntRow_le (n : Nat) (c : Nat → Nat → Int) (f : Nat → Nat → Rt) (i : Nat) : ∀ j, cntRow n c f i j ≤ j
  | 0 => Nat.le_refl _
  | j + 1 => by
    have ih := cntRow_le n c f i j
    unfold cntRow
    split <;> omega
theorem cntAll_le (n : Nat) (c : Nat → Nat → Int) (f : Nat → Nat → Rt) (hn : n ≤ 20) : ∀ i, cntAll n c f i ≤ 20 * i
  | 0 => Nat.le_refl _
  | i + 1 => by
    have ih := cntAll_le n c f hn i
    have h := cntRow_le n c f i n
    unfold cntAll
    omega
theorem cntAll_succ (n : Nat) (c : Nat → Nat → Int) (f : Nat → Nat → Rt) (i : Nat) : cntAll n c f (i + 1) = cntAll n c f i + cntRow n c f i n := rfl
theorem cntRow_t {n : Nat} {c : Nat → Nat → Int} {f : Nat → Nat → Rt} {i j : Nat} (h : goes n c f i j = true) : cntRow n c f i (j + 1) = cntRow n c f i j + 1 := by
  show _ + (if goes n c f i j = true then 1 else 0) = _
  rw [if_pos h]
theorem cntRow_f {n : Nat} {c : Nat → Nat → Int} {f : Nat → Nat → Rt} {i j : Nat} (h : goes n c f i j = false) : cntRow n c f i (j + 1) = cntRow n c f i j := by
  show _ + (if goes n c f i j = true then 1 else 0) = _
  rw [if_neg (by rw [h]; decide)]
  rfl
theorem f28 : E.funcs 28 = some Try.f28 := by kernel_rfl
theorem path28_bad (N : Int) (x : Nat) (ls : List Lk) (xt : Nat) (T : List (Nat × List Rt)) (st to : Int) (ok : Bool) (c1 : Fun E 40 [netV N x ls, tabF 45 47 xt T] (.bool ok)) (hb : okPath ok (nodeB N st) (nodeB N to) = false) : Fun E 28 [netV N x ls, tabF 45 47 xt T, .int .i64 st, .int .i64 to] (.tuple #[FS 3 0 2 #[], .bool false, .int .i64 1]) := by
  refine Fun.ofN f28 rfl (of_decide_eq_true (by kernel_rfl)) (by kernel_rfl) ?_
  have c2 := node53 N x ls st
  have c3 := node53 N x ls to
  unfold netV at c1 c2 c3 ⊢
  unfold lks at c1 c2 c3 ⊢
  unfold tabF at c1 ⊢
  refine Wp.seq (Wp.text ?_)
  refine md 4 (.pointer (some ⟨0, 0, none⟩)) (Blk.mk 24 true [Value.int .i64 N, Value.iface 48 (Value.iface (List.length ls) (Value.iface x (Value.agg (List.toArray (lcs ls)))))]) ?_
  refine kp 8 (.slice none 0 0) ?_
  refine kp 9 (.bool false) ?_
  refine kp 10 (.int IntKind.i64 0) ?_
  refine WpOps.nil (thenK_at (Wp.seq (Wp.seq (Wp.text ?_))))
  refine kp 14 (.agg #[Value.int .i64 N, Value.iface 48 (Value.iface (List.length ls) (Value.iface x (Value.agg (List.toArray (lcs ls)))))]) ?_
  refine kp 15 (.iface 45 (Value.iface (List.length T) (Value.iface xt (Value.agg (List.toArray (List.map (fun p => rowF 47 (Prod.fst p) (Prod.snd p)) T)))))) ?_
  refine fr 16 40 [Value.agg #[Value.int .i64 N, Value.iface 48 (Value.iface (List.length ls) (Value.iface x (Value.agg (List.toArray (lcs ls)))))], Value.iface 45 (Value.iface (List.length T) (Value.iface xt (Value.agg (List.toArray (List.map (fun p => rowF 47 (Prod.fst p) (Prod.snd p)) T)))))] ?_
  refine WpFun.of (c1) ?_
  refine kp 17 (.bool !ok) ?_
  refine kp 18 (.bool !ok) ?_
  refine WpOps.fork 5 (!ok) [19, 20, 21, 22, 23] 23 (true) (!nodeB N st) (by kernel_rfl) (fun g23 => ?_) (fun g23 => ?_) (fun f_23 b23 hb23 => ?_)
  · refine um 19 ?_ (hw := wants_tf g23)
    refine um 20 ?_ (hw := wants_tf g23)
    refine um 21 ?_ (hw := wants_tf g23)
    refine um 22 ?_ (hw := wants_tf g23)
    refine kp 23 (.bool true) ?_ (hop := fun _ => o_pickT g23)
    refine WpOps.nil ?_
    exact ⟨rfl, (.upd rfl (.upd rfl (.upd rfl (.upd rfl (.upd rfl .refl))))), (by kernel_rfl)⟩
  · refine kp 19 (.agg #[Value.int .i64 N, Value.iface 48 (Value.iface (List.length ls) (Value.iface x (Value.agg (List.toArray (lcs ls)))))]) ?_ (hw := wants_ff g23)
    refine kp 20 (.int IntKind.i64 st) ?_ (hw := wants_ff g23)
    refine fr 21 53 [Value.agg #[Value.int .i64 N, Value.iface 48 (Value.iface (List.length ls) (Value.iface x (Value.agg (List.toArray (lcs ls)))))], Value.int .i64 st] ?_ (hw := wants_ff g23)
    refine WpFun.of (c2) ?_
    refine kp 22 (.bool !nodeB N st) ?_ (hw := wants_ff g23)
    refine kp 23 (.bool !nodeB N st) ?_ (hop := fun _ => o_pickF g23)
    refine WpOps.nil ?_
    exact ⟨rfl, (.upd rfl (.upd rfl (.upd rfl (.upd rfl (.upd rfl .refl))))), (by kernel_rfl)⟩
  refine kp 24 (.bool b23) ?_
  refine WpOps.fork 5 (b23) [25, 26, 27, 28, 29] 29 (true) (!nodeB N to) (by kernel_rfl) (fun g29 => ?_) (fun g29 => ?_) (fun f_29 b29 hb29 => ?_)
  · refine um 25 ?_ (hw := wants_tf g29)
    refine um 26 ?_ (hw := wants_tf g29)
    refine um 27 ?_ (hw := wants_tf g29)
    refine um 28 ?_ (hw := wants_tf g29)
    refine kp 29 (.bool true) ?_ (hop := fun _ => o_pickT g29)
    refine WpOps.nil ?_
    exact ⟨rfl, (.upd rfl (.upd rfl (.upd rfl (.upd rfl (.upd rfl .refl))))), (by kernel_rfl)⟩
  · refine kp 25 (.agg #[Value.int .i64 N, Value.iface 48 (Value.iface (List.length ls) (Value.iface x (Value.agg (List.toArray (lcs ls)))))]) ?_ (hw := wants_ff g29)
    refine kp 26 (.int IntKind.i64 to) ?_ (hw := wants_ff g29)
    refine fr 27 53 [Value.agg #[Value.int .i64 N, Value.iface 48 (Value.iface (List.length ls) (Value.iface x (Value.agg (List.toArray (lcs ls)))))], Value.int .i64 to] ?_ (hw := wants_ff g29)
    refine WpFun.of (c3) ?_
    refine kp 28 (.bool !nodeB N to) ?_ (hw := wants_ff g29)
    refine kp 29 (.bool !nodeB N to) ?_ (hop := fun _ => o_pickF g29)
    refine WpOps.nil ?_
    exact ⟨rfl, (.upd rfl (.upd rfl (.upd rfl (.upd rfl (.upd rfl .refl))))), (by kernel_rfl)⟩
  refine WpOps.nil (thenK_at ?_)
  obtain rfl : b29 = true := by
    subst hb23
    rw [hb29, okPath_nest, hb]
    rfl
  refine on' (Wp.seq (Wp.text ?_))
  refine kp 8 (.slice none 0 0) ?_
  refine kp 9 (.bool false) ?_
  refine kp 10 (.int IntKind.i64 1) ?_
  refine WpOps.nil (thenK_at (Wp.ret (thenK_ret ?_)))
  refine endK_retn [Value.slice none 0 0, Value.bool false, Value.int IntKind.i64 1] (Value.tuple #[Value.slice none 0 0, Value.bool false, Value.int IntKind.i64 1]) (by kernel_rfl) (by kernel_rfl) ?_
  obtain ⟨ti, ht⟩ := E3
  exact ⟨_, by kernel_rfl, .tuple (.cons (.c (.inr ⟨rfl, 3, ti, ht, rfl⟩)) (.cons (.c (.inl rfl)) (.cons (.c (.inl rfl)) .nil)))⟩
theorem path28_ok (n x : Nat) (ls : List Lk) (f : Nat → Nat → Rt) (st to : Nat) (hfr : st < n) (hto : to < n) (ht : Fun E 40 [netV n x ls, tabM 45 47 n f] (.bool true)) (c1 : Fun E 54 [netV n x ls, tabM 45 47 n f, .int .i64 st, .int .i64 to] (.tuple #[pathF f to st (stopP n (cF ls) f to st), .bool (nd f to st (stopP n (cF ls) f to st) == to), .bool (decide (stopP n (cF ls) f to st < n) && !(nd f to st (stopP n (cF ls) f to st) == to))])) :
    Fun E 28 [netV n x ls, tabM 45 47 n f, .int .i64 st, .int .i64 to] (.tuple #[pathF f to st (stopP n (cF ls) f to st), .bool (nd f to st (stopP n (cF ls) f to st) == to), .int .i64 0]) := by
  refine Fun.of f28 rfl (of_decide_eq_true (by kernel_rfl)) rfl ?_
  have c2 := node53 n x ls st
  have c3 := node53 n x ls to
  have h1 : nodeB n st = true := by unfold nodeB; simp; omega
  have h2 : nodeB n to = true := by unfold nodeB; simp; omega
  rw [h1] at c2
  rw [h2] at c3
  unfold pathF at c1 ⊢
  
  generalize stopP n (cF ls) f to st = s at *
  
  rw [tabM_eq] at *
  unfold netV at *
  unfold lks matF at *
  refine Wp.seq (Wp.text ?_)
  refine md 4 (.pointer (some ⟨0, 0, none⟩)) (Blk.mk 24 true [Value.int .i64 (↑n : Int), Value.iface 48 (Value.iface (List.length ls) (Value.iface x (Value.agg (List.toArray (lcs ls)))))]) ?_
  refine kp 8 (.slice none 0 0) ?_
  refine kp 9 (.bool false) ?_
  refine kp 10 (.int IntKind.i64 0) ?_
  refine WpOps.nil (thenK_at (Wp.seq (Wp.seq (Wp.text ?_))))
  refine kp 14 (.agg #[Value.int .i64 (↑n : Int), Value.iface 48 (Value.iface (List.length ls) (Value.iface x (Value.agg (List.toArray (lcs ls)))))]) ?_
  refine kp 15 (.iface 45 (Value.iface n (Value.iface 0 (Value.agg (List.toArray (List.map (fun r => FS 47 n 0 (List.toArray r)) (rowsM n f))))))) ?_
  refine fr 16 40 [Value.agg #[Value.int .i64 (↑n : Int), Value.iface 48 (Value.iface (List.length ls) (Value.iface x (Value.agg (List.toArray (lcs ls)))))], Value.iface 45 (Value.iface n (Value.iface 0 (Value.agg (List.toArray (List.map (fun r => FS 47 n 0 (List.toArray r)) (rowsM n f))))))] ?_
  refine WpFun.of (ht) ?_
  refine kp 17 (.bool false) ?_
  refine kp 18 (.bool false) ?_
  refine kp 19 (.agg #[Value.int .i64 (↑n : Int), Value.iface 48 (Value.iface (List.length ls) (Value.iface x (Value.agg (List.toArray (lcs ls)))))]) ?_
  refine kp 20 (.int IntKind.i64 (↑st : Int)) ?_
  refine fr 21 53 [Value.agg #[Value.int .i64 (↑n : Int), Value.iface 48 (Value.iface (List.length ls) (Value.iface x (Value.agg (List.toArray (lcs ls)))))], Value.int .i64 (↑st : Int)] ?_
  refine WpFun.of (c2) ?_
  refine kp 22 (.bool false) ?_
  refine kp 23 (.bool false) ?_
  refine kp 24 (.bool false) ?_
  refine kp 25 (.agg #[Value.int .i64 (↑n : Int), Value.iface 48 (Value.iface (List.length ls) (Value.iface x (Value.agg (List.toArray (lcs ls)))))]) ?_
  refine kp 26 (.int IntKind.i64 (↑to : Int)) ?_
  refine fr 27 53 [Value.agg #[Value.int .i64 (↑n : Int), Value.iface 48 (Value.iface (List.length ls) (Value.iface x (Value.agg (List.toArray (lcs ls)))))], Value.int .i64 (↑to : Int)] ?_
  refine WpFun.of (c3) ?_
  refine kp 28 (.bool false) ?_
  refine kp 29 (.bool false) ?_
  refine WpOps.nil (thenK_at (off' (Wp.skip (thenK_at (Wp.seq (Wp.text ?_))))))
  refine kp 31 (.agg #[Value.int .i64 (↑n : Int), Value.iface 48 (Value.iface (List.length ls) (Value.iface x (Value.agg (List.toArray (lcs ls)))))]) ?_
  refine kp 32 (.iface 45 (Value.iface n (Value.iface 0 (Value.agg (List.toArray (List.map (fun r => FS 47 n 0 (List.toArray r)) (rowsM n f))))))) ?_
  refine kp 33 (.int IntKind.i64 (↑st : Int)) ?_
  refine kp 34 (.int IntKind.i64 (↑to : Int)) ?_
  refine fr 35 54 [Value.agg #[Value.int .i64 (↑n : Int), Value.iface 48 (Value.iface (List.length ls) (Value.iface x (Value.agg (List.toArray (lcs ls)))))], Value.iface 45 (Value.iface n (Value.iface 0 (Value.agg (List.toArray (List.map (fun r => FS 47 n 0 (List.toArray r)) (rowsM n f)))))), Value.int .i64 (↑st : Int), Value.int .i64 (↑to : Int)] ?_
  refine WpFun.of (c1) ?_
  refine kp 30 (.tuple #[FS 3 (s + 1) 0 (List.toArray (pathL f to st s)), Value.bool (nd f to st s == to), Value.bool (decide (s < n) && !nd f to st s == to)]) ?_
  refine kp 36 (.iface 3 (Value.iface (s + 1) (Value.iface 0 (Value.agg (List.toArray (pathL f to st s)))))) ?_
  refine kp 37 (.bool (nd f to st s == to)) ?_
  refine kp 38 (.bool (decide (s < n) && !nd f to st s == to)) ?_
  refine kp 11 (.iface 3 (Value.iface (s + 1) (Value.iface 0 (Value.agg (List.toArray (pathL f to st s)))))) ?_
  refine kp 12 (.bool (nd f to st s == to)) ?_
  refine kp 13 (.bool (decide (s < n) && !nd f to st s == to)) ?_
  refine WpOps.nil (thenK_at (Wp.seq (Wp.text ?_)))
  refine kp 39 (.iface 3 (Value.iface (s + 1) (Value.iface 0 (Value.agg (List.toArray (pathL f to st s)))))) ?_
  refine kp 40 (.bool (nd f to st s == to)) ?_
  refine kp 8 (.iface 3 (Value.iface (s + 1) (Value.iface 0 (Value.agg (List.toArray (pathL f to st s)))))) ?_
  refine kp 9 (.bool (nd f to st s == to)) ?_
  refine kp 10 (.int IntKind.i64 0) ?_
  refine WpOps.nil (thenK_at (Wp.ret ?_))
  refine endK_retn [Value.iface 3 (Value.iface (s + 1) (Value.iface 0 (Value.agg (List.toArray (pathL f to st s))))), Value.bool (nd f to st s == to), Value.int IntKind.i64 0] (Value.tuple #[Value.iface 3 (Value.iface (s + 1) (Value.iface 0 (Value.agg (List.toArray (pathL f to st s))))), Value.bool (nd f to st s == to), Value.int IntKind.i64 0]) (by kernel_rfl) (by kernel_rfl) ?_
  rfl
theorem f29 : E.funcs 29 = some Try.f29 := by kernel_rfl
theorem path29_bad (N : Int) (x : Nat) (ls : List Lk) (xt : Nat) (T : List (Nat × List Rt)) (st to : Int) (ok : Bool) (c1 : Fun E 45 [netV N x ls, tabF 92 93 xt T] (.bool ok)) (hb : okPath ok (nodeB N st) (nodeB N to) = false) : Fun E 29 [netV N x ls, tabF 92 93 xt T, .int .i64 st, .int .i64 to] (.tuple #[FS 3 0 2 #[], .bool false, .int .i64 1]) := by
  refine Fun.ofN f29 rfl (of_decide_eq_true (by kernel_rfl)) (by kernel_rfl) ?_
  have c2 := node55 N x ls st
  have c3 := node55 N x ls to
  unfold netV at c1 c2 c3 ⊢
  unfold lks at c1 c2 c3 ⊢
  unfold tabF at c1 ⊢
  refine Wp.seq (Wp.text ?_)
  refine md 4 (.pointer (some ⟨0, 0, none⟩)) (Blk.mk 34 true [Value.int .i64 N, Value.iface 48 (Value.iface (List.length ls) (Value.iface x (Value.agg (List.toArray (lcs ls)))))]) ?_
  refine kp 8 (.slice none 0 0) ?_
  refine kp 9 (.bool false) ?_
  refine kp 10 (.int IntKind.i64 0) ?_
  refine WpOps.nil (thenK_at (Wp.seq (Wp.seq (Wp.text ?_))))
  refine kp 13 (.agg #[Value.int .i64 N, Value.iface 48 (Value.iface (List.length ls) (Value.iface x (Value.agg (List.toArray (lcs ls)))))]) ?_
  refine kp 14 (.iface 92 (Value.iface (List.length T) (Value.iface xt (Value.agg (List.toArray (List.map (fun p => rowF 93 (Prod.fst p) (Prod.snd p)) T)))))) ?_
  refine fr 15 45 [Value.agg #[Value.int .i64 N, Value.iface 48 (Value.iface (List.length ls) (Value.iface x (Value.agg (List.toArray (lcs ls)))))], Value.iface 92 (Value.iface (List.length T) (Value.iface xt (Value.agg (List.toArray (List.map (fun p => rowF 93 (Prod.fst p) (Prod.snd p)) T)))))] ?_
  refine WpFun.of (c1) ?_
  refine kp 16 (.bool !ok) ?_
  refine kp 17 (.bool !ok) ?_
  refine WpOps.fork 5 (!ok) [18, 19, 20, 21, 22] 22 (true) (!nodeB N st) (by kernel_rfl) (fun g22 => ?_) (fun g22 => ?_) (fun f_22 b22 hb22 => ?_)
  · refine um 18 ?_ (hw := wants_tf g22)
    refine um 19 ?_ (hw := wants_tf g22)
    refine um 20 ?_ (hw := wants_tf g22)
    refine um 21 ?_ (hw := wants_tf g22)
    refine kp 22 (.bool true) ?_ (hop := fun _ => o_pickT g22)
    refine WpOps.nil ?_
    exact ⟨rfl, (.upd rfl (.upd rfl (.upd rfl (.upd rfl (.upd rfl .refl))))), (by kernel_rfl)⟩
  · refine kp 18 (.agg #[Value.int .i64 N, Value.iface 48 (Value.iface (List.length ls) (Value.iface x (Value.agg (List.toArray (lcs ls)))))]) ?_ (hw := wants_ff g22)
    refine kp 19 (.int IntKind.i64 st) ?_ (hw := wants_ff g22)
    refine fr 20 55 [Value.agg #[Value.int .i64 N, Value.iface 48 (Value.iface (List.length ls) (Value.iface x (Value.agg (List.toArray (lcs ls)))))], Value.int .i64 st] ?_ (hw := wants_ff g22)
    refine WpFun.of (c2) ?_
    refine kp 21 (.bool !nodeB N st) ?_ (hw := wants_ff g22)
    refine kp 22 (.bool !nodeB N st) ?_ (hop := fun _ => o_pickF g22)
    refine WpOps.nil ?_
    exact ⟨rfl, (.upd rfl (.upd rfl (.upd rfl (.upd rfl (.upd rfl .refl))))), (by kernel_rfl)⟩
  refine kp 23 (.bool b22) ?_
  refine WpOps.fork 5 (b22) [24, 25, 26, 27, 28] 28 (true) (!nodeB N to) (by kernel_rfl) (fun g28 => ?_) (fun g28 => ?_) (fun f_28 b28 hb28 => ?_)
  · refine um 24 ?_ (hw := wants_tf g28)
    refine um 25 ?_ (hw := wants_tf g28)
    refine um 26 ?_ (hw := wants_tf g28)
    refine um 27 ?_ (hw := wants_tf g28)
    refine kp 28 (.bool true) ?_ (hop := fun _ => o_pickT g28)
    refine WpOps.nil ?_
    exact ⟨rfl, (.upd rfl (.upd rfl (.upd rfl (.upd rfl (.upd rfl .refl))))), (by kernel_rfl)⟩
  · refine kp 24 (.agg #[Value.int .i64 N, Value.iface 48 (Value.iface (List.length ls) (Value.iface x (Value.agg (List.toArray (lcs ls)))))]) ?_ (hw := wants_ff g28)
    refine kp 25 (.int IntKind.i64 to) ?_ (hw := wants_ff g28)
    refine fr 26 55 [Value.agg #[Value.int .i64 N, Value.iface 48 (Value.iface (List.length ls) (Value.iface x (Value.agg (List.toArray (lcs ls)))))], Value.int .i64 to] ?_ (hw := wants_ff g28)
    refine WpFun.of (c3) ?_
    refine kp 27 (.bool !nodeB N to) ?_ (hw := wants_ff g28)
    refine kp 28 (.bool !nodeB N to) ?_ (hop := fun _ => o_pickF g28)
    refine WpOps.nil ?_
    exact ⟨rfl, (.upd rfl (.upd rfl (.upd rfl (.upd rfl (.upd rfl .refl))))), (by kernel_rfl)⟩
  refine WpOps.nil (thenK_at ?_)
  obtain rfl : b28 = true := by
    subst hb22
    rw [hb28, okPath_nest, hb]
    rfl
  refine on' (Wp.seq (Wp.text ?_))
  refine kp 8 (.slice none 0 0) ?_
  refine kp 9 (.bool false) ?_
  refine kp 10 (.int IntKind.i64 1) ?_
  refine WpOps.nil (thenK_at (Wp.ret (thenK_ret ?_)))
  refine endK_retn [Value.slice none 0 0, Value.bool false, Value.int IntKind.i64 1] (Value.tuple #[Value.slice none 0 0, Value.bool false, Value.int IntKind.i64 1]) (by kernel_rfl) (by kernel_rfl) ?_
  obtain ⟨ti, ht⟩ := E3
  exact ⟨_, by kernel_rfl, .tuple (.cons (.c (.inr ⟨rfl, 3, ti, ht, rfl⟩)) (.cons (.c (.inl rfl)) (.cons (.c (.inl rfl)) .nil)))⟩
theorem path29_ok (n x : Nat) (ls : List Lk) (f : Nat → Nat → Rt) (st to : Nat) (hfr : st < n) (hto : to < n) (ht : Fun E 45 [netV n x ls, tabM 92 93 n f] (.bool true)) (c1 : Fun E 56 [netV n x ls, tabM 92 93 n f, .int .i64 st, .int .i64 to] (.tuple #[pathF f to st (stopP n (cF ls) f to st), .int .i64 (howP n (cF ls) f to st)])) :
    Fun E 29 [netV n x ls, tabM 92 93 n f, .int .i64 st, .int .i64 to] (.tuple #[pathF f to st (stopP n (cF ls) f to st), .bool (nd f to st (stopP n (cF ls) f to st) == to), .int .i64 0]) := by
  refine Fun.of f29 rfl (of_decide_eq_true (by kernel_rfl)) rfl ?_
  have c2 := node55 n x ls st
  have c3 := node55 n x ls to
  have h1 : nodeB n st = true := by unfold nodeB; simp; omega
  have h2 : nodeB n to = true := by unfold nodeB; simp; omega
  rw [h1] at c2
  rw [h2] at c3
  unfold pathF at c1 ⊢
  have hh := how_zero n (cF ls) f to st
  generalize stopP n (cF ls) f to st = s at *
  generalize howP n (cF ls) f to st = w at *
  rw [tabM_eq] at *
  unfold netV at *
  unfold lks matF at *
  refine Wp.seq (Wp.text ?_)
  refine md 4 (.pointer (some ⟨0, 0, none⟩)) (Blk.mk 34 true [Value.int .i64 (↑n : Int), Value.iface 48 (Value.iface (List.length ls) (Value.iface x (Value.agg (List.toArray (lcs ls)))))]) ?_
  refine kp 8 (.slice none 0 0) ?_
  refine kp 9 (.bool false) ?_
  refine kp 10 (.int IntKind.i64 0) ?_
  refine WpOps.nil (thenK_at (Wp.seq (Wp.seq (Wp.text ?_))))
  refine kp 13 (.agg #[Value.int .i64 (↑n : Int), Value.iface 48 (Value.iface (List.length ls) (Value.iface x (Value.agg (List.toArray (lcs ls)))))]) ?_
  refine kp 14 (.iface 92 (Value.iface n (Value.iface 0 (Value.agg (List.toArray (List.map (fun r => FS 93 n 0 (List.toArray r)) (rowsM n f))))))) ?_
  refine fr 15 45 [Value.agg #[Value.int .i64 (↑n : Int), Value.iface 48 (Value.iface (List.length ls) (Value.iface x (Value.agg (List.toArray (lcs ls)))))], Value.iface 92 (Value.iface n (Value.iface 0 (Value.agg (List.toArray (List.map (fun r => FS 93 n 0 (List.toArray r)) (rowsM n f))))))] ?_
  refine WpFun.of (ht) ?_
  refine kp 16 (.bool false) ?_
  refine kp 17 (.bool false) ?_
  refine kp 18 (.agg #[Value.int .i64 (↑n : Int), Value.iface 48 (Value.iface (List.length ls) (Value.iface x (Value.agg (List.toArray (lcs ls)))))]) ?_
  refine kp 19 (.int IntKind.i64 (↑st : Int)) ?_
  refine fr 20 55 [Value.agg #[Value.int .i64 (↑n : Int), Value.iface 48 (Value.iface (List.length ls) (Value.iface x (Value.agg (List.toArray (lcs ls)))))], Value.int .i64 (↑st : Int)] ?_
  refine WpFun.of (c2) ?_
  refine kp 21 (.bool false) ?_
  refine kp 22 (.bool false) ?_
  refine kp 23 (.bool false) ?_
  refine kp 24 (.agg #[Value.int .i64 (↑n : Int), Value.iface 48 (Value.iface (List.length ls) (Value.iface x (Value.agg (List.toArray (lcs ls)))))]) ?_
  refine kp 25 (.int IntKind.i64 (↑to : Int)) ?_
  refine fr 26 55 [Value.agg #[Value.int .i64 (↑n : Int), Value.iface 48 (Value.iface (List.length ls) (Value.iface x (Value.agg (List.toArray (lcs ls)))))], Value.int .i64 (↑to : Int)] ?_
  refine WpFun.of (c3) ?_
  refine kp 27 (.bool false) ?_
  refine kp 28 (.bool false) ?_
  refine WpOps.nil (thenK_at (off' (Wp.skip (thenK_at (Wp.seq (Wp.text ?_))))))
  refine kp 30 (.agg #[Value.int .i64 (↑n : Int), Value.iface 48 (Value.iface (List.length ls) (Value.iface x (Value.agg (List.toArray (lcs ls)))))]) ?_
  refine kp 31 (.iface 92 (Value.iface n (Value.iface 0 (Value.agg (List.toArray (List.map (fun r => FS 93 n 0 (List.toArray r)) (rowsM n f))))))) ?_
  refine kp 32 (.int IntKind.i64 (↑st : Int)) ?_
  refine kp 33 (.int IntKind.i64 (↑to : Int)) ?_
  refine fr 34 56 [Value.agg #[Value.int .i64 (↑n : Int), Value.iface 48 (Value.iface (List.length ls) (Value.iface x (Value.agg (List.toArray (lcs ls)))))], Value.iface 92 (Value.iface n (Value.iface 0 (Value.agg (List.toArray (List.map (fun r => FS 93 n 0 (List.toArray r)) (rowsM n f)))))), Value.int .i64 (↑st : Int), Value.int .i64 (↑to : Int)] ?_
  refine WpFun.of (c1) ?_
  refine kp 29 (.tuple #[FS 3 (s + 1) 0 (List.toArray (pathL f to st s)), Value.int .i64 w]) ?_
  refine kp 35 (.iface 3 (Value.iface (s + 1) (Value.iface 0 (Value.agg (List.toArray (pathL f to st s)))))) ?_
  refine kp 36 (.int IntKind.i64 w) ?_
  refine kp 11 (.iface 3 (Value.iface (s + 1) (Value.iface 0 (Value.agg (List.toArray (pathL f to st s)))))) ?_
  refine kp 12 (.int IntKind.i64 w) ?_
  refine WpOps.nil (thenK_at (Wp.seq (Wp.text ?_)))
  refine kp 37 (.iface 3 (Value.iface (s + 1) (Value.iface 0 (Value.agg (List.toArray (pathL f to st s)))))) ?_
  refine kp 38 (.int IntKind.i64 w) ?_
  refine kp 39 (.bool (w == 0)) ?_
  refine kp 8 (.iface 3 (Value.iface (s + 1) (Value.iface 0 (Value.agg (List.toArray (pathL f to st s)))))) ?_
  refine kp 9 (.bool (w == 0)) ?_
  refine kp 10 (.int IntKind.i64 0) ?_
  refine WpOps.nil (thenK_at (Wp.ret ?_))
  refine endK_retn [Value.iface 3 (Value.iface (s + 1) (Value.iface 0 (Value.agg (List.toArray (pathL f to st s))))), Value.bool (w == 0), Value.int IntKind.i64 0] (Value.tuple #[Value.iface 3 (Value.iface (s + 1) (Value.iface 0 (Value.agg (List.toArray (pathL f to st s))))), Value.bool (w == 0), Value.int IntKind.i64 0]) (by kernel_rfl) (by kernel_rfl) ?_
  rw [hh]; rfl
theorem f31 : E.funcs 31 = some Try.f31 := by kernel_rfl
theorem loops31_bad (N : Int) (x : Nat) (ls : List Lk) (xt : Nat) (T : List (Nat × List Rt)) (c1 : Fun E 40 [netV N x ls, tabF 45 47 xt T] (.bool false)) : Fun E 31 [netV N x ls, tabF 45 47 xt T] (.tuple #[.int .i64 0, .int .i64 1]) := by
  refine Fun.of f31 rfl (of_decide_eq_true (by kernel_rfl)) rfl ?_
  unfold netV at c1 ⊢
  unfold lks at c1 ⊢
  unfold tabF at c1 ⊢
  refine Wp.seq (Wp.text ?_)
  refine md 2 (.pointer (some ⟨0, 0, none⟩)) (Blk.mk 24 true [Value.int .i64 N, Value.iface 48 (Value.iface (List.length ls) (Value.iface x (Value.agg (List.toArray (lcs ls)))))]) ?_
  refine kp 4 (.int IntKind.i64 0) ?_
  refine kp 5 (.int IntKind.i64 0) ?_
  refine WpOps.nil (thenK_at (Wp.seq (Wp.seq (Wp.text ?_))))
  refine kp 12 (.agg #[Value.int .i64 N, Value.iface 48 (Value.iface (List.length ls) (Value.iface x (Value.agg (List.toArray (lcs ls)))))]) ?_
  refine kp 13 (.iface 45 (Value.iface (List.length T) (Value.iface xt (Value.agg (List.toArray (List.map (fun p => rowF 47 (Prod.fst p) (Prod.snd p)) T)))))) ?_
  refine fr 14 40 [Value.agg #[Value.int .i64 N, Value.iface 48 (Value.iface (List.length ls) (Value.iface x (Value.agg (List.toArray (lcs ls)))))], Value.iface 45 (Value.iface (List.length T) (Value.iface xt (Value.agg (List.toArray (List.map (fun p => rowF 47 (Prod.fst p) (Prod.snd p)) T)))))] ?_
  refine WpFun.of (c1) ?_
  refine kp 15 (.bool true) ?_
  refine WpOps.nil (thenK_at (on' (Wp.seq (Wp.text ?_))))
  refine kp 4 (.int IntKind.i64 0) ?_
  refine kp 5 (.int IntKind.i64 1) ?_
  refine WpOps.nil (thenK_at (Wp.ret (thenK_ret ?_)))
  refine endK_retn [Value.int IntKind.i64 0, Value.int IntKind.i64 1] (Value.tuple #[Value.int IntKind.i64 0, Value.int IntKind.i64 1]) (by kernel_rfl) (by kernel_rfl) ?_
  rfl
set_option maxHeartbeats 4000000 in
theorem loops31_ok (n x : Nat) (ls : List Lk) (f : Nat → Nat → Rt) (c : Nat → Nat → Int) (hN : 1 ≤ n ∧ n ≤ 20) (ht : Fun E 40 [netV n x ls, tabM 45 47 n f] (.bool true)) (c1 : ∀ i j : Nat, i < n → j < n → Fun E 54 [netV n x ls, tabM 45 47 n f, .int .i64 i, .int .i64 j] (.tuple #[pathF f j i (stopP n c f j i), .bool (nd f j i (stopP n c f j i) == j), .bool (decide (stopP n c f j i < n) && !(nd f j i (stopP n c f j i) == j))])) :
    Fun E 31 [netV n x ls, tabM 45 47 n f] (.tuple #[.int .i64 (cntAll n c f n : Nat), .int .i64 0]) := by
  refine Fun.of f31 rfl (of_decide_eq_true (by kernel_rfl)) rfl ?_
  rw [tabM_eq] at *
  unfold netV at *
  unfold lks matF at *
  refine Wp.seq (Wp.text ?_)
  refine md 2 (.pointer (some ⟨0, 0, none⟩)) (Blk.mk 24 true [Value.int .i64 (↑n : Int), Value.iface 48 (Value.iface (List.length ls) (Value.iface x (Value.agg (List.toArray (lcs ls)))))]) ?_
  refine kp 4 (.int IntKind.i64 0) ?_
  refine kp 5 (.int IntKind.i64 0) ?_
  refine WpOps.nil (thenK_at (Wp.seq (Wp.seq (Wp.text ?_))))
  refine kp 12 (.agg #[Value.int .i64 (↑n : Int), Value.iface 48 (Value.iface (List.length ls) (Value.iface x (Value.agg (List.toArray (lcs ls)))))]) ?_
  refine kp 13 (.iface 45 (Value.iface n (Value.iface 0 (Value.agg (List.toArray (List.map (fun r => FS 47 n 0 (List.toArray r)) (rowsM n f))))))) ?_
  refine fr 14 40 [Value.agg #[Value.int .i64 (↑n : Int), Value.iface 48 (Value.iface (List.length ls) (Value.iface x (Value.agg (List.toArray (lcs ls)))))], Value.iface 45 (Value.iface n (Value.iface 0 (Value.agg (List.toArray (List.map (fun r => FS 47 n 0 (List.toArray r)) (rowsM n f))))))] ?_
  refine WpFun.of (ht) ?_
  refine kp 15 (.bool false) ?_
  refine WpOps.nil (thenK_at (off' (Wp.skip (thenK_at (Wp.seq (Wp.text ?_))))))
  refine kp 6 (.int IntKind.i64 0) ?_
  refine WpOps.nil (thenK_at (Wp.seq (Wp.seq (Wp.text ?_))))
  refine kp 16 (.pointer (some ⟨0, 0, none⟩)) ?_
  refine kp 17 (.int IntKind.i64 (↑n : Int)) ?_
  refine kp 18 (.int IntKind.i64 0) ?_
  refine WpOps.nil (thenK_at (Wp.block ?_))
  refine Wp.loop (G := Nat) (fun i => layj [(1, matF 45 47 n (rowsM n f)), (2, .pointer (some ⟨0, 0, none⟩)), (6, .int .i64 (cntAll n c f i : Nat)), (17, .int .i64 n), (18, .int .i64 i)]) (fun _ => heapOf [nv n x ls]) (fun i => n - i) (fun i => i ≤ n) 0
    (View.of [0] [nv n x ls] _ (by decide) rfl ⟨⟨[.int .i64 n, lks x ls], by kernel_rfl, by kernel_rfl, by kernel_rfl⟩, trivial⟩ ⟨⟨by kernel_rfl, rfl⟩, ⟨by kernel_rfl, rfl⟩, ⟨by kernel_rfl, rfl⟩, ⟨by kernel_rfl, rfl⟩, ⟨by kernel_rfl, rfl⟩, trivial⟩) (Nat.zero_le _) ?_
  intro i hi
  have hA := cntAll_le n c f hN.2 i
  unfold matF nv lks
  by_cases hlt : i < n
  · have d1 : decide ((i : Int) < n) = true := decide_eq_true (by omega)
    refine Wp.seq (Wp.text ?_)
    refine kp 19 (.bool true) ?_ (hop := fun _ => by_fact d1)
    refine WpOps.nil (thenK_at (Wp.seq (on' (Wp.skip (thenK_at (Wp.seq (Wp.block (Wp.seq (Wp.text ?_)))))))))
    refine kp 20 (.int IntKind.i64 (↑i : Int)) ?_
    refine kp 7 (.int IntKind.i64 (↑i : Int)) ?_
    refine WpOps.nil (thenK_at (Wp.seq (Wp.text ?_)))
    refine kp 21 (.pointer (some ⟨0, 0, none⟩)) ?_
    refine kp 22 (.int IntKind.i64 (↑n : Int)) ?_
    refine kp 23 (.int IntKind.i64 0) ?_
    refine WpOps.nil (thenK_at (Wp.block ?_))
    refine Wp.loop (G := Nat) (fun j => layj [(1, matF 45 47 n (rowsM n f)), (2, .pointer (some ⟨0, 0, none⟩)), (6, .int .i64 (cntAll n c f i + cntRow n c f i j : Nat)), (17, .int .i64 n), (18, .int .i64 i), (7, .int .i64 i), (22, .int .i64 n), (23, .int .i64 j)]) (fun _ => heapOf [nv n x ls]) (fun j => n - j) (fun j => j ≤ n) 0
      (View.of [0] [nv n x ls] _ (by decide) rfl ⟨⟨[.int .i64 n, lks x ls], by kernel_rfl, by kernel_rfl, by kernel_rfl⟩, trivial⟩ ⟨⟨by kernel_rfl, rfl⟩, ⟨by kernel_rfl, rfl⟩, ⟨by kernel_rfl, rfl⟩, ⟨by kernel_rfl, rfl⟩, ⟨by kernel_rfl, rfl⟩, ⟨by kernel_rfl, rfl⟩, ⟨by kernel_rfl, rfl⟩, ⟨by kernel_rfl, rfl⟩, trivial⟩) (Nat.zero_le _) ?_
    intro j hj
    have hR := cntRow_le n c f i j
    unfold matF nv lks
    by_cases hlt2 : j < n
    · have d2 : decide ((j : Int) < n) = true := decide_eq_true (by omega)
      have c3 := c1 i j hlt hlt2
      clear c1
      have hgo : goes n c f i j = (!(nd f j i (stopP n c f j i) == j) && !decide (stopP n c f j i < n)) := rfl
      generalize stopP n c f j i = s at c3 hgo
      unfold pathF at c3
      have hb' : (bif !(nd f j i s == j) then !(decide (s < n) && !(nd f j i s == j)) else false) = goes n c f i j := by
        rw [hgo]
        cases (nd f j i s == j) <;> cases decide (s < n) <;> rfl
      refine Wp.seq (Wp.text ?_)
      refine kp 24 (.bool true) ?_ (hop := fun _ => by_fact d2)
      refine WpOps.nil (thenK_at (Wp.seq (on' (Wp.skip (thenK_at (Wp.seq (Wp.block (Wp.seq (Wp.text ?_)))))))))
      refine kp 25 (.int IntKind.i64 (↑j : Int)) ?_
      refine kp 8 (.int IntKind.i64 (↑j : Int)) ?_
      refine WpOps.nil (thenK_at (Wp.seq (Wp.text ?_)))
      refine kp 27 (.agg #[Value.int .i64 (↑n : Int), Value.iface 48 (Value.iface (List.length ls) (Value.iface x (Value.agg (List.toArray (lcs ls)))))]) ?_
      refine kp 28 (.iface 45 (Value.iface n (Value.iface 0 (Value.agg (List.toArray (List.map (fun r => FS 47 n 0 (List.toArray r)) (rowsM n f))))))) ?_
      refine kp 29 (.int IntKind.i64 (↑i : Int)) ?_
      refine kp 30 (.int IntKind.i64 (↑j : Int)) ?_
      refine fr 31 54 [Value.agg #[Value.int .i64 (↑n : Int), Value.iface 48 (Value.iface (List.length ls) (Value.iface x (Value.agg (List.toArray (lcs ls)))))], Value.iface 45 (Value.iface n (Value.iface 0 (Value.agg (List.toArray (List.map (fun r => FS 47 n 0 (List.toArray r)) (rowsM n f)))))), Value.int .i64 (↑i : Int), Value.int .i64 (↑j : Int)] ?_
      refine WpFun.of (c3) ?_
      refine kp 26 (.tuple #[FS 3 (s + 1) 0 (List.toArray (pathL f j i s)), Value.bool (nd f j i s == j), Value.bool (decide (s < n) && !nd f j i s == j)]) ?_
      refine kp 32 (.iface 3 (Value.iface (s + 1) (Value.iface 0 (Value.agg (List.toArray (pathL f j i s)))))) ?_
      refine kp 33 (.bool (nd f j i s == j)) ?_
      refine kp 34 (.bool (decide (s < n) && !nd f j i s == j)) ?_
      refine kp 9 (.iface 3 (Value.iface (s + 1) (Value.iface 0 (Value.agg (List.toArray (pathL f j i s)))))) ?_
      refine kp 10 (.bool (nd f j i s == j)) ?_
      refine kp 11 (.bool (decide (s < n) && !nd f j i s == j)) ?_
      refine WpOps.nil (thenK_at (Wp.seq (Wp.text ?_)))
      refine kp 35 (.bool (nd f j i s == j)) ?_
      refine kp 36 (.bool !nd f j i s == j) ?_
      refine kp 37 (.bool !nd f j i s == j) ?_
      refine WpOps.fork 3 (!nd f j i s == j) [38, 39, 40] 40 (!(decide (s < n) && !nd f j i s == j)) (false) (by kernel_rfl) (fun g40 => ?_) (fun g40 => ?_) (fun f_40 b40 hb40 => ?_)
      · refine kp 38 (.bool (decide (s < n) && !nd f j i s == j)) ?_ (hw := wants_tt g40)
        refine kp 39 (.bool !(decide (s < n) && !nd f j i s == j)) ?_ (hw := wants_tt g40)
        refine kp 40 (.bool !(decide (s < n) && !nd f j i s == j)) ?_ (hop := fun _ => o_pickT g40)
        refine WpOps.nil ?_
        exact ⟨rfl, (.upd rfl (.upd rfl (.upd rfl .refl))), (by kernel_rfl)⟩
      · refine um 38 ?_ (hw := wants_ft g40)
        refine um 39 ?_ (hw := wants_ft g40)
        refine kp 40 (.bool false) ?_ (hop := fun _ => o_pickF g40)
        refine WpOps.nil ?_
        exact ⟨rfl, (.upd rfl (.upd rfl (.upd rfl .refl))), (by kernel_rfl)⟩
      refine WpOps.nil (thenK_at ?_)
      have hb40' := hb40.trans hb'
      refine Wp.split (b40) (by kernel_rfl) (fun hx => ?_) (fun hx => ?_)
      · have hx' : goes n c f i j = true := hb40'.symm.trans hx
        refine Wp.text ?_
        refine kp 41 (.int IntKind.i64 (↑(cntAll n c f i + cntRow n c f i j) : Int)) ?_
        refine kp 42 (.int IntKind.i64 (IntKind.wrap .i64 ((↑(cntAll n c f i + cntRow n c f i j) : Int) + 1))) ?_
        refine kp 6 (.int IntKind.i64 (IntKind.wrap .i64 ((↑(cntAll n c f i + cntRow n c f i j) : Int) + 1))) ?_
        refine WpOps.nil (blockK_norm (thenK_at (Wp.text ?_)))
        refine kp 43 (.int IntKind.i64 (IntKind.wrap .i64 ((↑j : Int) + 1))) ?_
        refine kp 23 (.int IntKind.i64 (IntKind.wrap .i64 ((↑j : Int) + 1))) ?_
        refine WpOps.nil (thenK_at ?_)
        exact ⟨j + 1, by omega, by omega, View.of [0] [nv n x ls] _ (by decide) rfl ⟨⟨[.int .i64 n, lks x ls], by kernel_rfl, by kernel_rfl, by kernel_rfl⟩, trivial⟩ ⟨⟨by kernel_rfl, rfl⟩, ⟨by kernel_rfl, rfl⟩, ⟨congrArg (Value.int .i64) ((wr _ (by omega) (by omega)).trans (by rw [cntRow_t hx']; omega)), rfl⟩, ⟨by kernel_rfl, rfl⟩, ⟨by kernel_rfl, rfl⟩, ⟨by kernel_rfl, rfl⟩, ⟨by kernel_rfl, rfl⟩, ⟨congrArg (Value.int .i64) (wr _ (by omega) (by omega)), rfl⟩, trivial⟩⟩
      · have hx' : goes n c f i j = false := hb40'.symm.trans hx
        refine Wp.skip (blockK_norm (thenK_at (Wp.text ?_)))
        refine kp 43 (.int IntKind.i64 (IntKind.wrap .i64 ((↑j : Int) + 1))) ?_
        refine kp 23 (.int IntKind.i64 (IntKind.wrap .i64 ((↑j : Int) + 1))) ?_
        refine WpOps.nil (thenK_at ?_)
        exact ⟨j + 1, by omega, by omega, View.of [0] [nv n x ls] _ (by decide) rfl ⟨⟨[.int .i64 n, lks x ls], by kernel_rfl, by kernel_rfl, by kernel_rfl⟩, trivial⟩ ⟨⟨by kernel_rfl, rfl⟩, ⟨by kernel_rfl, rfl⟩, ⟨congrArg (fun z : Nat => Value.int .i64 z) (by rw [cntRow_f hx']), rfl⟩, ⟨by kernel_rfl, rfl⟩, ⟨by kernel_rfl, rfl⟩, ⟨by kernel_rfl, rfl⟩, ⟨by kernel_rfl, rfl⟩, ⟨congrArg (Value.int .i64) (wr _ (by omega) (by omega)), rfl⟩, trivial⟩⟩
    · obtain rfl : n = j := by omega
      have d2 : decide ((n : Int) < n) = false := decide_eq_false (by omega)
      refine Wp.seq (Wp.text ?_)
      refine kp 24 (.bool false) ?_ (hop := fun _ => by_fact d2)
      refine WpOps.nil (thenK_at (Wp.seq (off' (Wp.exit (thenK_exit (thenK_exit (blockK_hit (blockK_norm (thenK_at (Wp.text ?_))))))))))
      refine kp 44 (.int IntKind.i64 (IntKind.wrap .i64 ((↑i : Int) + 1))) ?_
      refine kp 18 (.int IntKind.i64 (IntKind.wrap .i64 ((↑i : Int) + 1))) ?_
      refine WpOps.nil (thenK_at ?_)
      exact ⟨i + 1, by omega, by omega, View.of [0] [nv n x ls] _ (by decide) rfl ⟨⟨[.int .i64 n, lks x ls], by kernel_rfl, by kernel_rfl, by kernel_rfl⟩, trivial⟩ ⟨⟨by kernel_rfl, rfl⟩, ⟨by kernel_rfl, rfl⟩, ⟨congrArg (fun z : Nat => Value.int .i64 z) (by rw [cntAll_succ]), rfl⟩, ⟨by kernel_rfl, rfl⟩, ⟨congrArg (Value.int .i64) (wr _ (by omega) (by omega)), rfl⟩, trivial⟩⟩
  · obtain rfl : i = n := by omega
    have d1 : decide ((i : Int) < i) = false := decide_eq_false (by omega)
    refine Wp.seq (Wp.text ?_)
    refine kp 19 (.bool false) ?_ (hop := fun _ => by_fact d1)
    refine WpOps.nil (thenK_at (Wp.seq (off' (Wp.exit (thenK_exit (thenK_exit (blockK_hit (thenK_at (Wp.seq (Wp.text ?_))))))))))
    refine kp 45 (.int IntKind.i64 (↑(cntAll i c f i) : Int)) ?_
    refine kp 4 (.int IntKind.i64 (↑(cntAll i c f i) : Int)) ?_
    refine kp 5 (.int IntKind.i64 0) ?_
    refine WpOps.nil (thenK_at (Wp.ret ?_))
    refine endK_retn [Value.int IntKind.i64 (↑(cntAll i c f i) : Int), Value.int IntKind.i64 0] (Value.tuple #[Value.int IntKind.i64 (↑(cntAll i c f i) : Int), Value.int IntKind.i64 0]) (by kernel_rfl) (by kernel_rfl) ?_
    rfl
theorem f32 : E.funcs 32 = some Try.f32 := by kernel_rfl
theorem loops32_bad (N : Int) (x : Nat) (ls : List Lk) (xt : Nat) (T : List (Nat × List Rt)) (c1 : Fun E 45 [netV N x ls, tabF 92 93 xt T] (.bool false)) : Fun E 32 [netV N x ls, tabF 92 93 xt T] (.tuple #[.int .i64 0, .int .i64 1]) := by
  refine Fun.of f32 rfl (of_decide_eq_true (by kernel_rfl)) rfl ?_
  unfold netV at c1 ⊢
  unfold lks at c1 ⊢
  unfold tabF at c1 ⊢
  refine Wp.seq (Wp.text ?_)
  refine md 2 (.pointer (some ⟨0, 0, none⟩)) (Blk.mk 34 true [Value.int .i64 N, Value.iface 48 (Value.iface (List.length ls) (Value.iface x (Value.agg (List.toArray (lcs ls)))))]) ?_
  refine kp 4 (.int IntKind.i64 0) ?_
  refine kp 5 (.int IntKind.i64 0) ?_
  refine WpOps.nil (thenK_at (Wp.seq (Wp.seq (Wp.text ?_))))
  refine kp 11 (.agg #[Value.int .i64 N, Value.iface 48 (Value.iface (List.length ls) (Value.iface x (Value.agg (List.toArray (lcs ls)))))]) ?_
  refine kp 12 (.iface 92 (Value.iface (List.length T) (Value.iface xt (Value.agg (List.toArray (List.map (fun p => rowF 93 (Prod.fst p) (Prod.snd p)) T)))))) ?_
  refine fr 13 45 [Value.agg #[Value.int .i64 N, Value.iface 48 (Value.iface (List.length ls) (Value.iface x (Value.agg (List.toArray (lcs ls)))))], Value.iface 92 (Value.iface (List.length T) (Value.iface xt (Value.agg (List.toArray (List.map (fun p => rowF 93 (Prod.fst p) (Prod.snd p)) T)))))] ?_
  refine WpFun.of (c1) ?_
  refine kp 14 (.bool true) ?_
  refine WpOps.nil (thenK_at (on' (Wp.seq (Wp.text ?_))))
  refine kp 4 (.int IntKind.i64 0) ?_
  refine kp 5 (.int IntKind.i64 1) ?_
  refine WpOps.nil (thenK_at (Wp.ret (thenK_ret ?_)))
  refine endK_retn [Value.int IntKind.i64 0, Value.int IntKind.i64 1] (Value.tuple #[Value.int IntKind.i64 0, Value.int IntKind.i64 1]) (by kernel_rfl) (by kernel_rfl) ?_
  rfl
set_option maxHeartbeats 4000000 in
theorem loops32_ok (n x : Nat) (ls : List Lk) (f : Nat → Nat → Rt) (c : Nat → Nat → Int) (hN : 1 ≤ n ∧ n ≤ 20) (ht : Fun E 45 [netV n x ls, tabM 92 93 n f] (.bool true)) (c1 : ∀ i j : Nat, i < n → j < n → Fun E 56 [netV n x ls, tabM 92 93 n f, .int .i64 i, .int .i64 j] (.tuple #[pathF f j i (stopP n c f j i), .int .i64 (howP n c f j i)])) :
    Fun E 32 [netV n x ls, tabM 92 93 n f] (.tuple #[.int .i64 (cntAll n c f n : Nat), .int .i64 0]) := by
  refine Fun.of f32 rfl (of_decide_eq_true (by kernel_rfl)) rfl ?_
  rw [tabM_eq] at *
  unfold netV at *
  unfold lks matF at *
  refine Wp.seq (Wp.text ?_)
  refine md 2 (.pointer (some ⟨0, 0, none⟩)) (Blk.mk 34 true [Value.int .i64 (↑n : Int), Value.iface 48 (Value.iface (List.length ls) (Value.iface x (Value.agg (List.toArray (lcs ls)))))]) ?_
  refine kp 4 (.int IntKind.i64 0) ?_
  refine kp 5 (.int IntKind.i64 0) ?_
  refine WpOps.nil (thenK_at (Wp.seq (Wp.seq (Wp.text ?_))))
  refine kp 11 (.agg #[Value.int .i64 (↑n : Int), Value.iface 48 (Value.iface (List.length ls) (Value.iface x (Value.agg (List.toArray (lcs ls)))))]) ?_
  refine kp 12 (.iface 92 (Value.iface n (Value.iface 0 (Value.agg (List.toArray (List.map (fun r => FS 93 n 0 (List.toArray r)) (rowsM n f))))))) ?_
  refine fr 13 45 [Value.agg #[Value.int .i64 (↑n : Int), Value.iface 48 (Value.iface (List.length ls) (Value.iface x (Value.agg (List.toArray (lcs ls)))))], Value.iface 92 (Value.iface n (Value.iface 0 (Value.agg (List.toArray (List.map (fun r => FS 93 n 0 (List.toArray r)) (rowsM n f))))))] ?_
  refine WpFun.of (ht) ?_
  refine kp 14 (.bool false) ?_
  refine WpOps.nil (thenK_at (off' (Wp.skip (thenK_at (Wp.seq (Wp.text ?_))))))
  refine kp 6 (.int IntKind.i64 0) ?_
  refine WpOps.nil (thenK_at (Wp.seq (Wp.seq (Wp.text ?_))))
  refine kp 7 (.int IntKind.i64 0) ?_
  refine WpOps.nil (thenK_at (Wp.block ?_))
  refine Wp.loop (G := Nat) (fun i => layj [(1, matF 92 93 n (rowsM n f)), (2, .pointer (some ⟨0, 0, none⟩)), (6, .int .i64 (cntAll n c f i : Nat)), (7, .int .i64 i)]) (fun _ => heapOf [nrf n x ls]) (fun i => n - i) (fun i => i ≤ n) 0
    (View.of [0] [nrf n x ls] _ (by decide) rfl ⟨⟨[.int .i64 n, lks x ls], by kernel_rfl, by kernel_rfl, by kernel_rfl⟩, trivial⟩ ⟨⟨by kernel_rfl, rfl⟩, ⟨by kernel_rfl, rfl⟩, ⟨by kernel_rfl, rfl⟩, ⟨by kernel_rfl, rfl⟩, trivial⟩) (Nat.zero_le _) ?_
  intro i hi
  have hA := cntAll_le n c f hN.2 i
  unfold matF nrf lks
  by_cases hlt : i < n
  · have d1 : decide ((i : Int) < n) = true := decide_eq_true (by omega)
    refine Wp.seq (Wp.seq (Wp.text ?_))
    refine kp 15 (.int IntKind.i64 (↑i : Int)) ?_
    refine kp 16 (.pointer (some ⟨0, 0, none⟩)) ?_
    refine kp 17 (.int IntKind.i64 (↑n : Int)) ?_
    refine kp 18 (.bool true) ?_ (hop := fun _ => by_fact d1)
    refine WpOps.nil (thenK_at (on' (Wp.skip (thenK_at (Wp.seq (Wp.block (Wp.seq (Wp.text ?_))))))))
    refine kp 8 (.int IntKind.i64 0) ?_
    refine WpOps.nil (thenK_at (Wp.block ?_))
    refine Wp.loop (G := Nat) (fun j => layj [(1, matF 92 93 n (rowsM n f)), (2, .pointer (some ⟨0, 0, none⟩)), (6, .int .i64 (cntAll n c f i + cntRow n c f i j : Nat)), (7, .int .i64 i), (8, .int .i64 j)]) (fun _ => heapOf [nrf n x ls]) (fun j => n - j) (fun j => j ≤ n) 0
      (View.of [0] [nrf n x ls] _ (by decide) rfl ⟨⟨[.int .i64 n, lks x ls], by kernel_rfl, by kernel_rfl, by kernel_rfl⟩, trivial⟩ ⟨⟨by kernel_rfl, rfl⟩, ⟨by kernel_rfl, rfl⟩, ⟨by kernel_rfl, rfl⟩, ⟨by kernel_rfl, rfl⟩, ⟨by kernel_rfl, rfl⟩, trivial⟩) (Nat.zero_le _) ?_
    intro j hj
    have hR := cntRow_le n c f i j
    unfold matF nrf lks
    by_cases hlt2 : j < n
    · have d2 : decide ((j : Int) < n) = true := decide_eq_true (by omega)
      have c3 := c1 i j hlt hlt2
      clear c1
      have hgo := how_two n c f j i
      generalize stopP n c f j i = s at c3
      generalize howP n c f j i = w at c3 hgo
      unfold pathF at c3
      cases hx' : goes n c f i j with
      | true =>
        rw [hx'] at hgo
        refine Wp.seq (Wp.seq (Wp.text ?_))
        refine kp 21 (.int IntKind.i64 (↑j : Int)) ?_
        refine kp 22 (.pointer (some ⟨0, 0, none⟩)) ?_
        refine kp 23 (.int IntKind.i64 (↑n : Int)) ?_
        refine kp 24 (.bool true) ?_ (hop := fun _ => by_fact d2)
        refine WpOps.nil (thenK_at (on' (Wp.skip (thenK_at (Wp.seq (Wp.block (Wp.seq (Wp.text ?_))))))))
        refine kp 28 (.agg #[Value.int .i64 (↑n : Int), Value.iface 48 (Value.iface (List.length ls) (Value.iface x (Value.agg (List.toArray (lcs ls)))))]) ?_
        refine kp 29 (.iface 92 (Value.iface n (Value.iface 0 (Value.agg (List.toArray (List.map (fun r => FS 93 n 0 (List.toArray r)) (rowsM n f))))))) ?_
        refine kp 30 (.int IntKind.i64 (↑i : Int)) ?_
        refine kp 31 (.int IntKind.i64 (↑j : Int)) ?_
        refine fr 32 56 [Value.agg #[Value.int .i64 (↑n : Int), Value.iface 48 (Value.iface (List.length ls) (Value.iface x (Value.agg (List.toArray (lcs ls)))))], Value.iface 92 (Value.iface n (Value.iface 0 (Value.agg (List.toArray (List.map (fun r => FS 93 n 0 (List.toArray r)) (rowsM n f)))))), Value.int .i64 (↑i : Int), Value.int .i64 (↑j : Int)] ?_
        refine WpFun.of (c3) ?_
        refine kp 27 (.tuple #[FS 3 (s + 1) 0 (List.toArray (pathL f j i s)), Value.int .i64 w]) ?_
        refine kp 33 (.iface 3 (Value.iface (s + 1) (Value.iface 0 (Value.agg (List.toArray (pathL f j i s)))))) ?_
        refine kp 34 (.int IntKind.i64 w) ?_
        refine kp 9 (.iface 3 (Value.iface (s + 1) (Value.iface 0 (Value.agg (List.toArray (pathL f j i s)))))) ?_
        refine kp 10 (.int IntKind.i64 w) ?_
        refine WpOps.nil (thenK_at (Wp.seq (Wp.text ?_)))
        refine kp 35 (.int IntKind.i64 w) ?_
        refine kp 36 (.bool true) ?_ (hop := fun _ => by_fact hgo)
        refine WpOps.nil (thenK_at (on' (Wp.text ?_)))
        refine kp 37 (.int IntKind.i64 (↑(cntAll n c f i + cntRow n c f i j) : Int)) ?_
        refine kp 38 (.int IntKind.i64 (IntKind.wrap .i64 ((↑(cntAll n c f i + cntRow n c f i j) : Int) + 1))) ?_
        refine kp 6 (.int IntKind.i64 (IntKind.wrap .i64 ((↑(cntAll n c f i + cntRow n c f i j) : Int) + 1))) ?_
        refine WpOps.nil (blockK_norm (thenK_at (Wp.text ?_)))
        refine kp 25 (.int IntKind.i64 (↑j : Int)) ?_
        refine kp 26 (.int IntKind.i64 (IntKind.wrap .i64 ((↑j : Int) + 1))) ?_
        refine kp 8 (.int IntKind.i64 (IntKind.wrap .i64 ((↑j : Int) + 1))) ?_
        refine WpOps.nil (thenK_at ?_)
        exact ⟨j + 1, by omega, by omega, View.of [0] [nrf n x ls] _ (by decide) rfl ⟨⟨[.int .i64 n, lks x ls], by kernel_rfl, by kernel_rfl, by kernel_rfl⟩, trivial⟩ ⟨⟨by kernel_rfl, rfl⟩, ⟨by kernel_rfl, rfl⟩, ⟨congrArg (Value.int .i64) ((wr _ (by omega) (by omega)).trans (by rw [cntRow_t hx']; omega)), rfl⟩, ⟨by kernel_rfl, rfl⟩, ⟨congrArg (Value.int .i64) (wr _ (by omega) (by omega)), rfl⟩, trivial⟩⟩
      | false =>
        rw [hx'] at hgo
        refine Wp.seq (Wp.seq (Wp.text ?_))
        refine kp 21 (.int IntKind.i64 (↑j : Int)) ?_
        refine kp 22 (.pointer (some ⟨0, 0, none⟩)) ?_
        refine kp 23 (.int IntKind.i64 (↑n : Int)) ?_
        refine kp 24 (.bool true) ?_ (hop := fun _ => by_fact d2)
        refine WpOps.nil (thenK_at (on' (Wp.skip (thenK_at (Wp.seq (Wp.block (Wp.seq (Wp.text ?_))))))))
        refine kp 28 (.agg #[Value.int .i64 (↑n : Int), Value.iface 48 (Value.iface (List.length ls) (Value.iface x (Value.agg (List.toArray (lcs ls)))))]) ?_
        refine kp 29 (.iface 92 (Value.iface n (Value.iface 0 (Value.agg (List.toArray (List.map (fun r => FS 93 n 0 (List.toArray r)) (rowsM n f))))))) ?_
        refine kp 30 (.int IntKind.i64 (↑i : Int)) ?_
        refine kp 31 (.int IntKind.i64 (↑j : Int)) ?_
        refine fr 32 56 [Value.agg #[Value.int .i64 (↑n : Int), Value.iface 48 (Value.iface (List.length ls) (Value.iface x (Value.agg (List.toArray (lcs ls)))))], Value.iface 92 (Value.iface n (Value.iface 0 (Value.agg (List.toArray (List.map (fun r => FS 93 n 0 (List.toArray r)) (rowsM n f)))))), Value.int .i64 (↑i : Int), Value.int .i64 (↑j : Int)] ?_
        refine WpFun.of (c3) ?_
        refine kp 27 (.tuple #[FS 3 (s + 1) 0 (List.toArray (pathL f j i s)), Value.int .i64 w]) ?_
        refine kp 33 (.iface 3 (Value.iface (s + 1) (Value.iface 0 (Value.agg (List.toArray (pathL f j i s)))))) ?_
        refine kp 34 (.int IntKind.i64 w) ?_
        refine kp 9 (.iface 3 (Value.iface (s + 1) (Value.iface 0 (Value.agg (List.toArray (pathL f j i s)))))) ?_
        refine kp 10 (.int IntKind.i64 w) ?_
        refine WpOps.nil (thenK_at (Wp.seq (Wp.text ?_)))
        refine kp 35 (.int IntKind.i64 w) ?_
        refine kp 36 (.bool false) ?_ (hop := fun _ => by_fact hgo)
        refine WpOps.nil (thenK_at (off' (Wp.skip (blockK_norm (thenK_at (Wp.text ?_))))))
        refine kp 25 (.int IntKind.i64 (↑j : Int)) ?_
        refine kp 26 (.int IntKind.i64 (IntKind.wrap .i64 ((↑j : Int) + 1))) ?_
        refine kp 8 (.int IntKind.i64 (IntKind.wrap .i64 ((↑j : Int) + 1))) ?_
        refine WpOps.nil (thenK_at ?_)
        exact ⟨j + 1, by omega, by omega, View.of [0] [nrf n x ls] _ (by decide) rfl ⟨⟨[.int .i64 n, lks x ls], by kernel_rfl, by kernel_rfl, by kernel_rfl⟩, trivial⟩ ⟨⟨by kernel_rfl, rfl⟩, ⟨by kernel_rfl, rfl⟩, ⟨congrArg (fun z : Nat => Value.int .i64 z) (by rw [cntRow_f hx']), rfl⟩, ⟨by kernel_rfl, rfl⟩, ⟨congrArg (Value.int .i64) (wr _ (by omega) (by omega)), rfl⟩, trivial⟩⟩
    · obtain rfl : n = j := by omega
      have d2 : decide ((n : Int) < n) = false := decide_eq_false (by omega)
      refine Wp.seq (Wp.seq (Wp.text ?_))
      refine kp 21 (.int IntKind.i64 (↑n : Int)) ?_
      refine kp 22 (.pointer (some ⟨0, 0, none⟩)) ?_
      refine kp 23 (.int IntKind.i64 (↑n : Int)) ?_
      refine kp 24 (.bool false) ?_ (hop := fun _ => by_fact d2)
      refine WpOps.nil (thenK_at (off' (Wp.exit (thenK_exit (thenK_exit (blockK_hit (blockK_norm (thenK_at (Wp.text ?_)))))))))
      refine kp 19 (.int IntKind.i64 (↑i : Int)) ?_
      refine kp 20 (.int IntKind.i64 (IntKind.wrap .i64 ((↑i : Int) + 1))) ?_
      refine kp 7 (.int IntKind.i64 (IntKind.wrap .i64 ((↑i : Int) + 1))) ?_
      refine WpOps.nil (thenK_at ?_)
      exact ⟨i + 1, by omega, by omega, View.of [0] [nrf n x ls] _ (by decide) rfl ⟨⟨[.int .i64 n, lks x ls], by kernel_rfl, by kernel_rfl, by kernel_rfl⟩, trivial⟩ ⟨⟨by kernel_rfl, rfl⟩, ⟨by kernel_rfl, rfl⟩, ⟨congrArg (fun z : Nat => Value.int .i64 z) (by rw [cntAll_succ]), rfl⟩, ⟨congrArg (Value.int .i64) (wr _ (by omega) (by omega)), rfl⟩, trivial⟩⟩
  · obtain rfl : i = n := by omega
    have d1 : decide ((i : Int) < i) = false := decide_eq_false (by omega)
    refine Wp.seq (Wp.seq (Wp.text ?_))
    refine kp 15 (.int IntKind.i64 (↑i : Int)) ?_
    refine kp 16 (.pointer (some ⟨0, 0, none⟩)) ?_
    refine kp 17 (.int IntKind.i64 (↑i : Int)) ?_
    refine kp 18 (.bool false) ?_ (hop := fun _ => by_fact d1)
    refine WpOps.nil (thenK_at (off' (Wp.exit (thenK_exit (thenK_exit (blockK_hit (thenK_at (Wp.seq (Wp.text ?_)))))))))
    refine kp 39 (.int IntKind.i64 (↑(cntAll i c f i) : Int)) ?_
    refine kp 4 (.int IntKind.i64 (↑(cntAll i c f i) : Int)) ?_
    refine kp 5 (.int IntKind.i64 0) ?_
    refine WpOps.nil (thenK_at (Wp.ret ?_))
    refine endK_retn [Value.int IntKind.i64 (↑(cntAll i c f i) : Int), Value.int IntKind.i64 0] (Value.tuple #[Value.int IntKind.i64 (↑(cntAll i c f i) : Int), Value.int IntKind.i64 0]) (by kernel_rfl) (by kernel_rfl) ?_
    rfl
end Go.Proofs.Ytfjkanjmggbofaa.D
