/- Nodes, routes, the cost of a link, valid nets. -/
import Derived.Test.YtfjkanjmggbofaaFwLem
import Derived.Test.YtfjkanjmggbofaaV12a
namespace Go.Proofs.Ytfjkanjmggbofaa.D
open Go.Fw Go.RowKit

/-! ## all the numbers below n -/
def allR (n : Nat) (P : Nat → Bool) : Bool := (List.range n).all P
theorem allR_true {n : Nat} {P : Nat → Bool} (h : ∀ j, j < n → P j = true) : allR n P = true := List.all_eq_true.2 fun j hj => h j (List.mem_range.1 hj)
theorem allR_false {n i : Nat} {P : Nat → Bool} (hi : i < n) (h : P i = false) : allR n P = false := List.all_eq_false.2 ⟨i, List.mem_range.2 hi, by simp [h]⟩
theorem allR_at {n : Nat} {P : Nat → Bool} (h : allR n P = true) {j : Nat} (hj : j < n) : P j = true := List.all_eq_true.1 h j (List.mem_range.2 hj)
theorem upto {i : Nat} {P : Nat → Bool} (h : ∀ j, j < i → P j = true) (hi : P i = true) : ∀ j, j < i + 1 → P j = true := fun j hj => by
  rcases Nat.lt_or_ge j i with h1 | h1
  · exact h j h1
  · obtain rfl : j = i := by omega
    exact hi

/-! ## nodes -/
def nodeB (N v : Int) : Bool := bif decide (v ≥ 0) then decide (v < N) else false
theorem f53 : E.funcs 53 = some Try.f53 := by kernel_rfl
theorem node53 (N : Int) (x : Nat) (ls : List Lk) (v : Int) : Fun E 53 [netV N x ls, .int .i64 v] (.bool (nodeB N v)) := by
  refine Fun.of f53 rfl (of_decide_eq_true (by kernel_rfl)) rfl ?_
  unfold netV
  refine Wp.seq (Wp.text ?_)
  refine md 2 (.pointer (some ⟨0, 0, none⟩)) (Blk.mk 24 true [Value.int .i64 N, Value.iface 48 (Value.iface (List.length ls) (Value.iface x (Value.agg (List.toArray (lcs ls)))))]) ?_
  refine kp 4 (.bool false) ?_
  refine WpOps.nil (thenK_at (Wp.seq (Wp.text ?_)))
  refine kp 5 (.int IntKind.i64 v) ?_
  refine kp 6 (.bool (decide (v ≥ 0))) ?_
  refine kp 7 (.bool (decide (v ≥ 0))) ?_
  refine WpOps.fork 5 (decide (v ≥ 0)) [8, 9, 10, 11, 12] 12 (decide (v < N)) (false) (by kernel_rfl) (fun g12 => ?_) (fun g12 => ?_) (fun f_12 b12 hb12 => ?_)
  · refine kp 8 (.int IntKind.i64 v) ?_ (hw := wants_tt g12)
    refine kp 9 (.pointer (some ⟨0, 0, none⟩)) ?_ (hw := wants_tt g12)
    refine kp 10 (.int IntKind.i64 N) ?_ (hw := wants_tt g12)
    refine kp 11 (.bool (decide (v < N))) ?_ (hw := wants_tt g12)
    refine kp 12 (.bool (decide (v < N))) ?_ (hop := fun _ => o_pickT g12)
    refine WpOps.nil ?_
    exact ⟨rfl, (.upd rfl (.upd rfl (.upd rfl (.upd rfl (.upd rfl .refl))))), (by kernel_rfl)⟩
  · refine um 8 ?_ (hw := wants_ft g12)
    refine um 9 ?_ (hw := wants_ft g12)
    refine um 10 ?_ (hw := wants_ft g12)
    refine um 11 ?_ (hw := wants_ft g12)
    refine kp 12 (.bool false) ?_ (hop := fun _ => o_pickF g12)
    refine WpOps.nil ?_
    exact ⟨rfl, (.upd rfl (.upd rfl (.upd rfl (.upd rfl (.upd rfl .refl))))), (by kernel_rfl)⟩
  refine kp 4 (.bool b12) ?_
  refine WpOps.nil (thenK_at (Wp.ret ?_))
  refine endK_retn [Value.bool b12] (Value.bool b12) (by kernel_rfl) (by kernel_rfl) ?_
  rw [hb12]
  rfl
theorem f55 : E.funcs 55 = some Try.f55 := by kernel_rfl
theorem node55 (N : Int) (x : Nat) (ls : List Lk) (v : Int) : Fun E 55 [netV N x ls, .int .i64 v] (.bool (nodeB N v)) := by
  refine Fun.of f55 rfl (of_decide_eq_true (by kernel_rfl)) rfl ?_
  unfold netV
  refine Wp.seq (Wp.text ?_)
  refine md 2 (.pointer (some ⟨0, 0, none⟩)) (Blk.mk 34 true [Value.int .i64 N, Value.iface 48 (Value.iface (List.length ls) (Value.iface x (Value.agg (List.toArray (lcs ls)))))]) ?_
  refine kp 4 (.bool false) ?_
  refine WpOps.nil (thenK_at (Wp.seq (Wp.text ?_)))
  refine kp 5 (.int IntKind.i64 v) ?_
  refine kp 6 (.bool (decide (v ≥ 0))) ?_
  refine kp 7 (.bool (decide (v ≥ 0))) ?_
  refine WpOps.fork 5 (decide (v ≥ 0)) [8, 9, 10, 11, 12] 12 (decide (v < N)) (false) (by kernel_rfl) (fun g12 => ?_) (fun g12 => ?_) (fun f_12 b12 hb12 => ?_)
  · refine kp 8 (.int IntKind.i64 v) ?_ (hw := wants_tt g12)
    refine kp 9 (.pointer (some ⟨0, 0, none⟩)) ?_ (hw := wants_tt g12)
    refine kp 10 (.int IntKind.i64 N) ?_ (hw := wants_tt g12)
    refine kp 11 (.bool (decide (v < N))) ?_ (hw := wants_tt g12)
    refine kp 12 (.bool (decide (v < N))) ?_ (hop := fun _ => o_pickT g12)
    refine WpOps.nil ?_
    exact ⟨rfl, (.upd rfl (.upd rfl (.upd rfl (.upd rfl (.upd rfl .refl))))), (by kernel_rfl)⟩
  · refine um 8 ?_ (hw := wants_ft g12)
    refine um 9 ?_ (hw := wants_ft g12)
    refine um 10 ?_ (hw := wants_ft g12)
    refine um 11 ?_ (hw := wants_ft g12)
    refine kp 12 (.bool false) ?_ (hop := fun _ => o_pickF g12)
    refine WpOps.nil ?_
    exact ⟨rfl, (.upd rfl (.upd rfl (.upd rfl (.upd rfl (.upd rfl .refl))))), (by kernel_rfl)⟩
  refine kp 4 (.bool b12) ?_
  refine WpOps.nil (thenK_at (Wp.ret ?_))
  refine endK_retn [Value.bool b12] (Value.bool b12) (by kernel_rfl) (by kernel_rfl) ?_
  rw [hb12]
  rfl

/-! ## the cost of a link -/
def hit (a b : Int) (l : Lk) : Bool := bif l.1 == (if b < a then b else a) then l.2.1 == (if b > a then b else a) else false
def costF (ls : List Lk) (a b : Int) : Int := match ls.find? (hit a b) with
  | some l => l.2.2
  | none => 0
theorem f52 : E.funcs 52 = some Try.f52 := by kernel_rfl
theorem cost52 (N : Int) (x : Nat) (ls : List Lk) (a b : Int) (hz : ls.length ≤ 17592186044416) : Fun E 52 [netV N x ls, .int .i64 a, .int .i64 b] (.int .i64 (costF ls a b)) := by
  refine Fun.of f52 rfl (of_decide_eq_true (by kernel_rfl)) rfl ?_
  unfold netV
  refine Wp.seq (Wp.text ?_)
  refine md 3 (.pointer (some ⟨0, 0, none⟩)) (Blk.mk 34 true [Value.int .i64 N, Value.iface 48 (Value.iface (List.length ls) (Value.iface x (Value.agg (List.toArray (lcs ls)))))]) ?_
  refine kp 6 (.int IntKind.i64 0) ?_
  refine WpOps.nil (thenK_at (Wp.seq (Wp.seq (Wp.text ?_))))
  refine kp 7 (.int IntKind.i64 0) ?_
  refine WpOps.nil (thenK_at (Wp.block ?_))
  refine Wp.loop (G := Nat) (fun k => layj [(1, .int .i64 a), (2, .int .i64 b), (3, .pointer (some ⟨0, 0, none⟩)), (7, .int .i64 k)]) (fun _ => heapOf [⟨34, true, [.int .i64 N, lks x ls]⟩]) (fun k => ls.length - k) (fun k => k ≤ ls.length ∧ ∀ j, j < k → hit a b (ls.getD j (0, 0, 0)) = false) 0
    (View.of [0] [⟨34, true, [.int .i64 N, lks x ls]⟩] _ (by decide) rfl ⟨⟨[.int .i64 N, lks x ls], by kernel_rfl, by kernel_rfl, by kernel_rfl⟩, trivial⟩ ⟨⟨by kernel_rfl, rfl⟩, ⟨by kernel_rfl, rfl⟩, ⟨by kernel_rfl, rfl⟩, ⟨by kernel_rfl, rfl⟩, trivial⟩) ⟨Nat.zero_le _, fun j hj => absurd hj (Nat.not_lt_zero _)⟩ ?_
  rintro k ⟨hk, hp⟩
  by_cases hlt : k < ls.length
  · have d1 : decide ((k : Int) < ls.length) = true := decide_eq_true (by omega)
    have g1 : 0 ≤ (k : Int) ∧ (k : Int) < ls.length := by omega
    have v1 := lcs_cells ls k (0, 0, 0) hlt
    unfold lks lc at *
    refine Wp.seq (Wp.seq (Wp.text ?_))
    refine kp 9 (.int IntKind.i64 (↑k : Int)) ?_
    refine kp 10 (.pointer (some ⟨0, 1, none⟩)) ?_
    refine kp 11 (.iface 48 (Value.iface (List.length ls) (Value.iface x (Value.agg (List.toArray (lcs ls)))))) ?_
    refine kp 12 (.int IntKind.i64 (↑(List.length ls) : Int)) ?_
    refine kp 13 (.bool true) ?_ (hop := fun _ => by_fact d1)
    refine WpOps.nil (thenK_at (on' (Wp.skip (thenK_at (Wp.seq (Wp.block (Wp.seq (Wp.text ?_))))))))
    refine kp 16 (.pointer (some ⟨0, 1, none⟩)) ?_
    refine kp 17 (.iface 48 (Value.iface (List.length ls) (Value.iface x (Value.agg (List.toArray (lcs ls)))))) ?_
    refine kp 18 (.int IntKind.i64 (↑k : Int)) ?_
    refine kp 19 (.iface 48 (Value.iface (Int.toNat (↑k : Int) * 3) (Value.agg (List.toArray (lcs ls))))) ?_ (hop := fun _ => o_indexI (e := 48) (size := 3) (a := (↑k : Int)) g1)
    refine kp 20 (.agg #[Value.int .i64 (Prod.fst (List.getD ls k (0, 0, 0))), Value.int .i64 (Prod.fst (Prod.snd (List.getD ls k (0, 0, 0)))), Value.int .i64 (Prod.snd (Prod.snd (List.getD ls k (0, 0, 0))))]) ?_ (hop := fun _ => o_loadIA (Int.toNat (↑k : Int) * 3) v1)
    refine md 8 (.pointer (some ⟨1, 0, none⟩)) (Blk.mk 48 true [Value.int .i64 0, Value.int .i64 0, Value.int .i64 0]) ?_
    refine ld (.tuple #[]) (1) (Blk.mk 48 true [Value.int .i64 (Prod.fst (List.getD ls k (0, 0, 0))), Value.int .i64 (Prod.fst (Prod.snd (List.getD ls k (0, 0, 0)))), Value.int .i64 (Prod.snd (Prod.snd (List.getD ls k (0, 0, 0))))]) ?_
    refine WpOps.nil (thenK_at (Wp.seq (Wp.text ?_)))
    refine kp 21 (.pointer (some ⟨1, 0, none⟩)) ?_
    refine kp 22 (.int IntKind.i64 (Prod.fst (List.getD ls k (0, 0, 0)))) ?_
    refine kp 23 (.int IntKind.i64 a) ?_
    refine kp 24 (.int IntKind.i64 b) ?_
    refine kp 25 (.int IntKind.i64 (if b < a then b else a)) ?_
    refine kp 26 (.bool (Prod.fst (List.getD ls k (0, 0, 0)) == if b < a then b else a)) ?_
    refine kp 27 (.bool (Prod.fst (List.getD ls k (0, 0, 0)) == if b < a then b else a)) ?_
    refine WpOps.fork 7 (Prod.fst (List.getD ls k (0, 0, 0)) == if b < a then b else a) [28, 29, 30, 31, 32, 33, 34] 34 (Prod.fst (Prod.snd (List.getD ls k (0, 0, 0))) == if b > a then b else a) (false) (by kernel_rfl) (fun g34 => ?_) (fun g34 => ?_) (fun f_34 b34 hb34 => ?_)
    · refine kp 28 (.pointer (some ⟨1, 1, none⟩)) ?_ (hw := wants_tt g34)
      refine kp 29 (.int IntKind.i64 (Prod.fst (Prod.snd (List.getD ls k (0, 0, 0))))) ?_ (hw := wants_tt g34)
      refine kp 30 (.int IntKind.i64 a) ?_ (hw := wants_tt g34)
      refine kp 31 (.int IntKind.i64 b) ?_ (hw := wants_tt g34)
      refine kp 32 (.int IntKind.i64 (if b > a then b else a)) ?_ (hw := wants_tt g34)
      refine kp 33 (.bool (Prod.fst (Prod.snd (List.getD ls k (0, 0, 0))) == if b > a then b else a)) ?_ (hw := wants_tt g34)
      refine kp 34 (.bool (Prod.fst (Prod.snd (List.getD ls k (0, 0, 0))) == if b > a then b else a)) ?_ (hop := fun _ => o_pickT g34)
      refine WpOps.nil ?_
      exact ⟨rfl, (.upd rfl (.upd rfl (.upd rfl (.upd rfl (.upd rfl (.upd rfl (.upd rfl .refl))))))), (by kernel_rfl)⟩
    · refine um 28 ?_ (hw := wants_ft g34)
      refine um 29 ?_ (hw := wants_ft g34)
      refine um 30 ?_ (hw := wants_ft g34)
      refine um 31 ?_ (hw := wants_ft g34)
      refine um 32 ?_ (hw := wants_ft g34)
      refine um 33 ?_ (hw := wants_ft g34)
      refine kp 34 (.bool false) ?_ (hop := fun _ => o_pickF g34)
      refine WpOps.nil ?_
      exact ⟨rfl, (.upd rfl (.upd rfl (.upd rfl (.upd rfl (.upd rfl (.upd rfl (.upd rfl .refl))))))), (by kernel_rfl)⟩
    refine WpOps.nil (thenK_at ?_)
    have hb : b34 = hit a b (ls.getD k (0, 0, 0)) := hb34
    clear hb34
    have hget : ls[k]? = some (ls.getD k (0, 0, 0)) := by rw [List.getD_eq_getElem?_getD, List.getElem?_eq_getElem hlt]; rfl
    refine Wp.split (b34) (by kernel_rfl) (fun hx => ?_) (fun hx => ?_)
    · refine Wp.seq (Wp.text ?_)
      refine kp 35 (.pointer (some ⟨1, 2, none⟩)) ?_
      refine kp 36 (.int IntKind.i64 (Prod.snd (Prod.snd (List.getD ls k (0, 0, 0))))) ?_
      refine kp 6 (.int IntKind.i64 (Prod.snd (Prod.snd (List.getD ls k (0, 0, 0))))) ?_
      refine WpOps.nil (thenK_at (Wp.ret (blockK_ret (thenK_ret (thenK_ret (blockK_ret (thenK_ret ?_)))))))
      refine endK_retn [Value.int IntKind.i64 (Prod.snd (Prod.snd (List.getD ls k (0, 0, 0))))] (Value.int IntKind.i64 (Prod.snd (Prod.snd (List.getD ls k (0, 0, 0))))) (by kernel_rfl) (by kernel_rfl) ?_
      have hf : costF ls a b = (ls.getD k (0, 0, 0)).2.2 := by
        unfold costF
        have : ls.find? (hit a b) = some (ls.getD k (0, 0, 0)) := by
          rw [List.find?_eq_some_iff_getElem]
          refine ⟨by rw [← hb]; exact hx, k, hlt, ?_, fun j hj => ?_⟩
          · rw [List.getElem?_eq_getElem hlt] at hget
            exact Option.some.inj hget
          · have := hp j hj
            have e : ls[j] = ls.getD j (0, 0, 0) := by simp [List.getElem?_eq_getElem (show j < ls.length by omega)]
            rw [e, this]
            rfl
        rw [this]
      rw [hf]
      rfl
    · refine Wp.skip (blockK_norm (thenK_at (Wp.text ?_)))
      refine kp 14 (.int IntKind.i64 (↑k : Int)) ?_
      refine kp 15 (.int IntKind.i64 (IntKind.wrap .i64 ((↑k : Int) + 1))) ?_
      refine kp 7 (.int IntKind.i64 (IntKind.wrap .i64 ((↑k : Int) + 1))) ?_
      refine WpOps.nil (thenK_at ?_)
      refine ⟨k + 1, by omega, ⟨by omega, fun j hj => ?_⟩, View.of [0] [⟨34, true, [.int .i64 N, lks x ls]⟩] _ (by decide) rfl ⟨⟨[.int .i64 N, lks x ls], by kernel_rfl, by kernel_rfl, by kernel_rfl⟩, trivial⟩ ⟨⟨by kernel_rfl, rfl⟩, ⟨by kernel_rfl, rfl⟩, ⟨by kernel_rfl, rfl⟩, ⟨congrArg (Value.int .i64) (wr _ (by omega) (by omega)), rfl⟩, trivial⟩⟩
      rcases Nat.lt_or_ge j k with h | h
      · exact hp j h
      · obtain rfl : j = k := by omega
        rw [← hb]
        exact hx
  · obtain rfl : k = ls.length := by omega
    have d1 : decide ((ls.length : Int) < ls.length) = false := decide_eq_false (by omega)
    unfold lks
    refine Wp.seq (Wp.seq (Wp.text ?_))
    refine kp 9 (.int IntKind.i64 (↑(List.length ls) : Int)) ?_
    refine kp 10 (.pointer (some ⟨0, 1, none⟩)) ?_
    refine kp 11 (.iface 48 (Value.iface (List.length ls) (Value.iface x (Value.agg (List.toArray (lcs ls)))))) ?_
    refine kp 12 (.int IntKind.i64 (↑(List.length ls) : Int)) ?_
    refine kp 13 (.bool false) ?_ (hop := fun _ => by_fact d1)
    refine WpOps.nil (thenK_at (off' (Wp.exit (thenK_exit (thenK_exit (blockK_hit (thenK_at (Wp.seq (Wp.text ?_)))))))))
    refine kp 6 (.int IntKind.i64 0) ?_
    refine WpOps.nil (thenK_at (Wp.ret ?_))
    refine endK_retn [Value.int IntKind.i64 0] (Value.int IntKind.i64 0) (by kernel_rfl) (by kernel_rfl) ?_
    have hf : costF ls a b = 0 := by
      unfold costF
      have : ls.find? (hit a b) = none := by
        rw [List.find?_eq_none]
        intro l hl
        obtain ⟨j, hj, rfl⟩ := List.getElem_of_mem hl
        have := hp j hj
        have e : ls[j] = ls.getD j (0, 0, 0) := by simp [List.getElem?_eq_getElem hj]
        rw [e, this]
        decide
      rw [this]
    rw [hf]
    rfl

/-! ## valid nets -/
def okB (N : Int) (l : Lk) : Bool := decide (0 ≤ l.1) && decide (l.1 < l.2.1) && decide (l.2.1 < N) && decide (1 ≤ l.2.2) && decide (l.2.2 ≤ 15)
def sameE (l m : Lk) : Bool := l.1 == m.1 && l.2.1 == m.2.1
def lk (ls : List Lk) (k : Nat) : Lk := ls.getD k (0, 0, 0)
def linkB (N : Int) (ls : List Lk) (k : Nat) : Bool := okB N (lk ls k) && allR k (fun j => !sameE (lk ls j) (lk ls k))
def valid (N : Int) (ls : List Lk) : Bool := decide (1 ≤ N) && decide (N ≤ 20) && allR ls.length (linkB N ls)
def nr (N : Int) (x : Nat) (ls : List Lk) : Blk := ⟨34, true, [.int .i64 N, lks x ls]⟩
theorem bnot {x y : Bool} (h : x = !y) : y = !x := by subst h; simp
theorem okB_nest (N a b c : Int) : (bif (bif (bif (bif decide (a < 0) then true else decide (a ≥ b)) then true else decide (b ≥ N)) then true else decide (c < 1)) then true else decide (c > 15)) = !okB N (a, b, c) := by
  unfold okB
  by_cases h1 : a < 0
  · simp [h1, show ¬ 0 ≤ a by omega]
  by_cases h2 : a ≥ b
  · simp [h1, h2, show ¬ a < b by omega]
  by_cases h3 : b ≥ N
  · simp [h1, h2, h3, show ¬ b < N by omega]
  by_cases h4 : c < 1
  · simp [h1, h2, h3, h4, show ¬ 1 ≤ c by omega]
  by_cases h5 : c > 15
  · simp [h1, h2, h3, h4, h5, show ¬ c ≤ 15 by omega]
  · simp [h1, h2, h3, h4, h5, show 0 ≤ a by omega, show a < b by omega, show b < N by omega, show 1 ≤ c by omega, show c ≤ 15 by omega]
theorem range_nest (N : Int) : (bif decide (N < 1) then true else decide (N > 20)) = !(decide (1 ≤ N) && decide (N ≤ 20)) := by
  by_cases h1 : N < 1
  · simp [h1, show ¬ 1 ≤ N by omega]
  by_cases h2 : N > 20
  · simp [h1, h2, show ¬ N ≤ 20 by omega]
  · simp [h1, h2, show 1 ≤ N by omega, show N ≤ 20 by omega]
theorem lcs_at : ∀ (ls : List Lk) (i : Nat) (d : Lk), i < ls.length → (lcs ls).toArray.toList[(i : Int).toNat * 3 + 0]? = some (.int .i64 (ls.getD i d).1) ∧ (lcs ls).toArray.toList[(i : Int).toNat * 3 + 1]? = some (.int .i64 (ls.getD i d).2.1) ∧ (lcs ls).toArray.toList[(i : Int).toNat * 3 + 2]? = some (.int .i64 (ls.getD i d).2.2) := fun ls i d h => by
  have h1 := lcs_slice ls i d h
  have key : ∀ r, r < 3 → (lcs ls).toArray.toList[(i : Int).toNat * 3 + r]? = (lc (ls.getD i d))[r]? := fun r hr => by
    rw [← h1, List.getElem?_take, if_pos hr, List.getElem?_drop, List.toList_toArray, Int.toNat_natCast]
  exact ⟨key 0 (by decide), key 1 (by decide), key 2 (by decide)⟩
theorem valid_no {N : Int} {ls : List Lk} (h : (decide (1 ≤ N) && decide (N ≤ 20)) = false) : valid N ls = false := by
  unfold valid
  rw [h]
  rfl
theorem valid_bad {N : Int} {ls : List Lk} {k : Nat} (hk : k < ls.length) (h : linkB N ls k = false) : valid N ls = false := by
  unfold valid
  rw [allR_false hk h, Bool.and_false]
theorem f26 : E.funcs 26 = some Try.f26 := by kernel_rfl
set_option maxHeartbeats 4000000 in
theorem valid26 (N : Int) (x : Nat) (ls : List Lk) (hz : ls.length ≤ 17592186044416) : Fun E 26 [netV N x ls] (.bool (valid N ls)) := by
  refine Fun.of f26 rfl (of_decide_eq_true (by kernel_rfl)) rfl ?_
  unfold netV
  refine Wp.seq (Wp.text ?_)
  refine md 1 (.pointer (some ⟨0, 0, none⟩)) (Blk.mk 34 true [Value.int .i64 N, Value.iface 48 (Value.iface (List.length ls) (Value.iface x (Value.agg (List.toArray (lcs ls)))))]) ?_
  refine kp 2 (.bool false) ?_
  refine WpOps.nil (thenK_at (Wp.seq (Wp.seq (Wp.text ?_))))
  refine kp 6 (.pointer (some ⟨0, 0, none⟩)) ?_
  refine kp 7 (.int IntKind.i64 N) ?_
  refine kp 8 (.bool (decide (N < 1))) ?_
  refine kp 9 (.bool (decide (N < 1))) ?_
  refine WpOps.fork 4 (decide (N < 1)) [10, 11, 12, 13] 13 (true) (decide (N > 20)) (by kernel_rfl) (fun g13 => ?_) (fun g13 => ?_) (fun f_13 b13 hb13 => ?_)
  · refine um 10 ?_ (hw := wants_tf g13)
    refine um 11 ?_ (hw := wants_tf g13)
    refine um 12 ?_ (hw := wants_tf g13)
    refine kp 13 (.bool true) ?_ (hop := fun _ => o_pickT g13)
    refine WpOps.nil ?_
    exact ⟨rfl, (.upd rfl (.upd rfl (.upd rfl (.upd rfl .refl)))), (by kernel_rfl)⟩
  · refine kp 10 (.pointer (some ⟨0, 0, none⟩)) ?_ (hw := wants_ff g13)
    refine kp 11 (.int IntKind.i64 N) ?_ (hw := wants_ff g13)
    refine kp 12 (.bool (decide (N > 20))) ?_ (hw := wants_ff g13)
    refine kp 13 (.bool (decide (N > 20))) ?_ (hop := fun _ => o_pickF g13)
    refine WpOps.nil ?_
    exact ⟨rfl, (.upd rfl (.upd rfl (.upd rfl (.upd rfl .refl)))), (by kernel_rfl)⟩
  refine WpOps.nil (thenK_at ?_)
  have hb := bnot (y := (decide (1 ≤ N) && decide (N ≤ 20))) (hb13.trans (range_nest N))
  clear hb13
  refine Wp.split (b13) (by kernel_rfl) (fun hx => ?_) (fun hx => ?_)
  · refine Wp.seq (Wp.text ?_)
    refine kp 2 (.bool false) ?_
    refine WpOps.nil (thenK_at (Wp.ret (thenK_ret ?_)))
    refine endK_retn [Value.bool false] (Value.bool false) (by kernel_rfl) (by kernel_rfl) ?_
    rw [valid_no (by rw [hb, hx]; rfl)]
    rfl
  have hN : (decide (1 ≤ N) && decide (N ≤ 20)) = true := by rw [hb, hx]; rfl
  clear hb
  refine Wp.skip (thenK_at (Wp.seq (Wp.seq (Wp.text ?_))))
  refine kp 3 (.int IntKind.i64 0) ?_
  refine WpOps.nil (thenK_at (Wp.block ?_))
  refine Wp.loop (G := Nat) (fun k => layj [(1, .pointer (some ⟨0, 0, none⟩)), (3, .int .i64 k)]) (fun _ => heapOf [nr N x ls]) (fun k => ls.length - k) (fun k => k ≤ ls.length ∧ ∀ j, j < k → linkB N ls j = true) 0
    (View.of [0] [nr N x ls] _ (by decide) rfl ⟨⟨[.int .i64 N, lks x ls], by kernel_rfl, by kernel_rfl, by kernel_rfl⟩, trivial⟩ ⟨⟨by kernel_rfl, rfl⟩, ⟨by kernel_rfl, rfl⟩, trivial⟩) ⟨Nat.zero_le _, fun j hj => absurd hj (Nat.not_lt_zero _)⟩ ?_
  rintro k ⟨hk, hp⟩
  by_cases hlt : k < ls.length
  · have d1 : decide ((k : Int) < ls.length) = true := decide_eq_true (by omega)
    have g1 : 0 ≤ (k : Int) ∧ (k : Int) < ls.length := by omega
    obtain ⟨l, hl⟩ : ∃ l, l = ls.getD k (0, 0, 0) := ⟨_, rfl⟩
    have v1 := lcs_cells ls k (0, 0, 0) hlt
    have hlk : lk ls k = l := hl.symm
    rw [← hl] at v1
    obtain ⟨a, b, c⟩ := l
    unfold lks lc at *
    refine Wp.seq (Wp.seq (Wp.text ?_))
    refine kp 14 (.int IntKind.i64 (↑k : Int)) ?_
    refine kp 15 (.pointer (some ⟨0, 1, none⟩)) ?_
    refine kp 16 (.iface 48 (Value.iface (List.length ls) (Value.iface x (Value.agg (List.toArray (lcs ls)))))) ?_
    refine kp 17 (.int IntKind.i64 (↑(List.length ls) : Int)) ?_
    refine kp 18 (.bool true) ?_ (hop := fun _ => by_fact d1)
    refine WpOps.nil (thenK_at (on' (Wp.skip (thenK_at (Wp.seq (Wp.block (Wp.seq (Wp.text ?_))))))))
    refine kp 21 (.pointer (some ⟨0, 1, none⟩)) ?_
    refine kp 22 (.iface 48 (Value.iface (List.length ls) (Value.iface x (Value.agg (List.toArray (lcs ls)))))) ?_
    refine kp 23 (.int IntKind.i64 (↑k : Int)) ?_
    refine kp 24 (.iface 48 (Value.iface (Int.toNat (↑k : Int) * 3) (Value.agg (List.toArray (lcs ls))))) ?_ (hop := fun _ => o_indexI (e := 48) (size := 3) (a := (↑k : Int)) g1)
    refine kp 25 (.agg #[Value.int .i64 (Prod.fst (a, b, c)), Value.int .i64 (Prod.fst (Prod.snd (a, b, c))), Value.int .i64 (Prod.snd (Prod.snd (a, b, c)))]) ?_ (hop := fun _ => o_loadIA (Int.toNat (↑k : Int) * 3) v1)
    refine md 4 (.pointer (some ⟨1, 0, none⟩)) (Blk.mk 48 true [Value.int .i64 0, Value.int .i64 0, Value.int .i64 0]) ?_
    refine ld (.tuple #[]) (1) (Blk.mk 48 true [Value.int .i64 (Prod.fst (a, b, c)), Value.int .i64 (Prod.fst (Prod.snd (a, b, c))), Value.int .i64 (Prod.snd (Prod.snd (a, b, c)))]) ?_
    refine WpOps.nil (thenK_at (Wp.seq (Wp.seq (Wp.text ?_))))
    refine kp 26 (.pointer (some ⟨1, 0, none⟩)) ?_
    refine kp 27 (.int IntKind.i64 (Prod.fst (a, b, c))) ?_
    refine kp 28 (.bool (decide (Prod.fst (a, b, c) < 0))) ?_
    refine kp 29 (.bool (decide (Prod.fst (a, b, c) < 0))) ?_
    refine WpOps.fork 6 (decide (Prod.fst (a, b, c) < 0)) [30, 31, 32, 33, 34, 35] 35 (true) (decide (Prod.fst (a, b, c) ≥ Prod.fst (Prod.snd (a, b, c)))) (by kernel_rfl) (fun g35 => ?_) (fun g35 => ?_) (fun f_35 b35 hb35 => ?_)
    · refine um 30 ?_ (hw := wants_tf g35)
      refine um 31 ?_ (hw := wants_tf g35)
      refine um 32 ?_ (hw := wants_tf g35)
      refine um 33 ?_ (hw := wants_tf g35)
      refine um 34 ?_ (hw := wants_tf g35)
      refine kp 35 (.bool true) ?_ (hop := fun _ => o_pickT g35)
      refine WpOps.nil ?_
      exact ⟨rfl, (.upd rfl (.upd rfl (.upd rfl (.upd rfl (.upd rfl (.upd rfl .refl)))))), (by kernel_rfl)⟩
    · refine kp 30 (.pointer (some ⟨1, 0, none⟩)) ?_ (hw := wants_ff g35)
      refine kp 31 (.int IntKind.i64 (Prod.fst (a, b, c))) ?_ (hw := wants_ff g35)
      refine kp 32 (.pointer (some ⟨1, 1, none⟩)) ?_ (hw := wants_ff g35)
      refine kp 33 (.int IntKind.i64 (Prod.fst (Prod.snd (a, b, c)))) ?_ (hw := wants_ff g35)
      refine kp 34 (.bool (decide (Prod.fst (a, b, c) ≥ Prod.fst (Prod.snd (a, b, c))))) ?_ (hw := wants_ff g35)
      refine kp 35 (.bool (decide (Prod.fst (a, b, c) ≥ Prod.fst (Prod.snd (a, b, c))))) ?_ (hop := fun _ => o_pickF g35)
      refine WpOps.nil ?_
      exact ⟨rfl, (.upd rfl (.upd rfl (.upd rfl (.upd rfl (.upd rfl (.upd rfl .refl)))))), (by kernel_rfl)⟩
    refine kp 36 (.bool b35) ?_
    refine WpOps.fork 6 (b35) [37, 38, 39, 40, 41, 42] 42 (true) (decide (Prod.fst (Prod.snd (a, b, c)) ≥ N)) (by kernel_rfl) (fun g42 => ?_) (fun g42 => ?_) (fun f_42 b42 hb42 => ?_)
    · refine um 37 ?_ (hw := wants_tf g42)
      refine um 38 ?_ (hw := wants_tf g42)
      refine um 39 ?_ (hw := wants_tf g42)
      refine um 40 ?_ (hw := wants_tf g42)
      refine um 41 ?_ (hw := wants_tf g42)
      refine kp 42 (.bool true) ?_ (hop := fun _ => o_pickT g42)
      refine WpOps.nil ?_
      exact ⟨rfl, (.upd rfl (.upd rfl (.upd rfl (.upd rfl (.upd rfl (.upd rfl .refl)))))), (by kernel_rfl)⟩
    · refine kp 37 (.pointer (some ⟨1, 1, none⟩)) ?_ (hw := wants_ff g42)
      refine kp 38 (.int IntKind.i64 (Prod.fst (Prod.snd (a, b, c)))) ?_ (hw := wants_ff g42)
      refine kp 39 (.pointer (some ⟨0, 0, none⟩)) ?_ (hw := wants_ff g42)
      refine kp 40 (.int IntKind.i64 N) ?_ (hw := wants_ff g42)
      refine kp 41 (.bool (decide (Prod.fst (Prod.snd (a, b, c)) ≥ N))) ?_ (hw := wants_ff g42)
      refine kp 42 (.bool (decide (Prod.fst (Prod.snd (a, b, c)) ≥ N))) ?_ (hop := fun _ => o_pickF g42)
      refine WpOps.nil ?_
      exact ⟨rfl, (.upd rfl (.upd rfl (.upd rfl (.upd rfl (.upd rfl (.upd rfl .refl)))))), (by kernel_rfl)⟩
    refine kp 43 (.bool b42) ?_
    refine WpOps.fork 4 (b42) [44, 45, 46, 47] 47 (true) (decide (Prod.snd (Prod.snd (a, b, c)) < 1)) (by kernel_rfl) (fun g47 => ?_) (fun g47 => ?_) (fun f_47 b47 hb47 => ?_)
    · refine um 44 ?_ (hw := wants_tf g47)
      refine um 45 ?_ (hw := wants_tf g47)
      refine um 46 ?_ (hw := wants_tf g47)
      refine kp 47 (.bool true) ?_ (hop := fun _ => o_pickT g47)
      refine WpOps.nil ?_
      exact ⟨rfl, (.upd rfl (.upd rfl (.upd rfl (.upd rfl .refl)))), (by kernel_rfl)⟩
    · refine kp 44 (.pointer (some ⟨1, 2, none⟩)) ?_ (hw := wants_ff g47)
      refine kp 45 (.int IntKind.i64 (Prod.snd (Prod.snd (a, b, c)))) ?_ (hw := wants_ff g47)
      refine kp 46 (.bool (decide (Prod.snd (Prod.snd (a, b, c)) < 1))) ?_ (hw := wants_ff g47)
      refine kp 47 (.bool (decide (Prod.snd (Prod.snd (a, b, c)) < 1))) ?_ (hop := fun _ => o_pickF g47)
      refine WpOps.nil ?_
      exact ⟨rfl, (.upd rfl (.upd rfl (.upd rfl (.upd rfl .refl)))), (by kernel_rfl)⟩
    refine kp 48 (.bool b47) ?_
    refine WpOps.fork 4 (b47) [49, 50, 51, 52] 52 (true) (decide (Prod.snd (Prod.snd (a, b, c)) > 15)) (by kernel_rfl) (fun g52 => ?_) (fun g52 => ?_) (fun f_52 b52 hb52 => ?_)
    · refine um 49 ?_ (hw := wants_tf g52)
      refine um 50 ?_ (hw := wants_tf g52)
      refine um 51 ?_ (hw := wants_tf g52)
      refine kp 52 (.bool true) ?_ (hop := fun _ => o_pickT g52)
      refine WpOps.nil ?_
      exact ⟨rfl, (.upd rfl (.upd rfl (.upd rfl (.upd rfl .refl)))), (by kernel_rfl)⟩
    · refine kp 49 (.pointer (some ⟨1, 2, none⟩)) ?_ (hw := wants_ff g52)
      refine kp 50 (.int IntKind.i64 (Prod.snd (Prod.snd (a, b, c)))) ?_ (hw := wants_ff g52)
      refine kp 51 (.bool (decide (Prod.snd (Prod.snd (a, b, c)) > 15))) ?_ (hw := wants_ff g52)
      refine kp 52 (.bool (decide (Prod.snd (Prod.snd (a, b, c)) > 15))) ?_ (hop := fun _ => o_pickF g52)
      refine WpOps.nil ?_
      exact ⟨rfl, (.upd rfl (.upd rfl (.upd rfl (.upd rfl .refl)))), (by kernel_rfl)⟩
    refine WpOps.nil (thenK_at ?_)
    subst hb35 hb42 hb47
    have hb := bnot (y := okB N (a, b, c)) (hb52.trans (okB_nest N a b c))
    clear hb52
    refine Wp.split (b52) (by kernel_rfl) (fun hx2 => ?_) (fun hx2 => ?_)
    · refine Wp.seq (Wp.text ?_)
      refine kp 2 (.bool false) ?_
      refine WpOps.nil (thenK_at (Wp.ret (thenK_ret (blockK_ret (thenK_ret (thenK_ret (blockK_ret (thenK_ret ?_))))))))
      refine endK_retn [Value.bool false] (Value.bool false) (by kernel_rfl) (by kernel_rfl) ?_
      rw [valid_bad hlt (by unfold linkB; rw [hlk, hb, hx2]; rfl)]
      rfl
    have hok : okB N (lk ls k) = true := by rw [hlk, hb, hx2]; rfl
    clear hb
    refine Wp.skip (thenK_at (Wp.seq (Wp.text ?_)))
    refine kp 5 (.int IntKind.i64 0) ?_
    refine WpOps.nil (thenK_at (Wp.block ?_))
    refine Wp.loop (G := Nat) (fun j => layj [(1, .pointer (some ⟨0, 0, none⟩)), (3, .int .i64 k), (4, .pointer (some ⟨1, 0, none⟩)), (5, .int .i64 j)]) (fun _ => heapOf [nr N x ls, ⟨48, true, [.int .i64 a, .int .i64 b, .int .i64 c]⟩]) (fun j => k - j) (fun j => j ≤ k ∧ ∀ i, i < j → (!sameE (lk ls i) (lk ls k)) = true) 0
      (View.of [0, 1] [nr N x ls, ⟨48, true, [.int .i64 a, .int .i64 b, .int .i64 c]⟩] _ (by decide) rfl ⟨⟨[.int .i64 N, lks x ls], by kernel_rfl, by kernel_rfl, by kernel_rfl⟩, ⟨[.int .i64 a, .int .i64 b, .int .i64 c], by kernel_rfl, by kernel_rfl, by kernel_rfl⟩, trivial⟩ ⟨⟨by kernel_rfl, rfl⟩, ⟨by kernel_rfl, rfl⟩, ⟨by kernel_rfl, rfl⟩, ⟨by kernel_rfl, rfl⟩, trivial⟩) ⟨Nat.zero_le _, fun j hj => absurd hj (Nat.not_lt_zero _)⟩ ?_
    rintro j ⟨hj, hq⟩
    by_cases hlt2 : j < k
    · have d2 : decide ((j : Int) < k) = true := decide_eq_true (by omega)
      have g2 : 0 ≤ (j : Int) ∧ (j : Int) < ls.length := by omega
      obtain ⟨m, hm⟩ : ∃ m, m = ls.getD j (0, 0, 0) := ⟨_, rfl⟩
      have hmk : lk ls j = m := hm.symm
      obtain ⟨v2, v3, _⟩ := lcs_at ls j (0, 0, 0) (by omega)
      rw [← hm] at v2 v3
      obtain ⟨a', b', c'⟩ := m
      dsimp only at v2 v3
      unfold nr lks
      refine Wp.seq (Wp.seq (Wp.text ?_))
      refine kp 53 (.int IntKind.i64 (↑j : Int)) ?_
      refine kp 54 (.int IntKind.i64 (↑k : Int)) ?_
      refine kp 55 (.bool true) ?_ (hop := fun _ => by_fact d2)
      refine WpOps.nil (thenK_at (on' (Wp.skip (thenK_at (Wp.seq (Wp.block (Wp.seq ?_)))))))
      refine Wp.region (by kernel_rfl) ?_
      refine kp 58 (.pointer (some ⟨0, 1, none⟩)) ?_
      refine kp 59 (.iface 48 (Value.iface (List.length ls) (Value.iface x (Value.agg (List.toArray (lcs ls)))))) ?_
      refine kp 60 (.int IntKind.i64 (↑j : Int)) ?_
      refine kp 61 (.iface 48 (Value.iface (Int.toNat (↑j : Int) * 3) (Value.agg (List.toArray (lcs ls))))) ?_ (hop := fun _ => o_indexI (e := 48) (size := 3) (a := (↑j : Int)) g2)
      refine kp 62 (.iface 48 (Value.iface (Int.toNat (↑j : Int) * 3 + 0) (Value.agg (List.toArray (lcs ls))))) ?_
      refine kp 63 (.int IntKind.i64 a') ?_ (hop := fun _ => o_loadI1 (Int.toNat (↑j : Int) * 3 + 0) v2)
      refine kp 64 (.pointer (some ⟨1, 0, none⟩)) ?_
      refine kp 65 (.int IntKind.i64 a) ?_
      refine kp 66 (.bool (a' == a)) ?_
      refine kp 67 (.bool (a' == a)) ?_
      refine WpOps.fork 10 (a' == a) [68, 69, 70, 71, 72, 73, 74, 75, 76, 77] 77 (b' == b) (false) (by kernel_rfl) (fun g77 => ?_) (fun g77 => ?_) (fun f_77 b77 hb77 => ?_)
      · refine kp 68 (.pointer (some ⟨0, 1, none⟩)) ?_ (hw := wants_tt g77)
        refine kp 69 (.iface 48 (Value.iface (List.length ls) (Value.iface x (Value.agg (List.toArray (lcs ls)))))) ?_ (hw := wants_tt g77)
        refine kp 70 (.int IntKind.i64 (↑j : Int)) ?_ (hw := wants_tt g77)
        refine kp 71 (.iface 48 (Value.iface (Int.toNat (↑j : Int) * 3) (Value.agg (List.toArray (lcs ls))))) ?_ (hw := wants_tt g77) (hop := fun _ => o_indexI (e := 48) (size := 3) (a := (↑j : Int)) g2)
        refine kp 72 (.iface 48 (Value.iface (Int.toNat (↑j : Int) * 3 + 1) (Value.agg (List.toArray (lcs ls))))) ?_ (hw := wants_tt g77)
        refine kp 73 (.int IntKind.i64 b') ?_ (hw := wants_tt g77) (hop := fun _ => o_loadI1 (Int.toNat (↑j : Int) * 3 + 1) v3)
        refine kp 74 (.pointer (some ⟨1, 1, none⟩)) ?_ (hw := wants_tt g77)
        refine kp 75 (.int IntKind.i64 b) ?_ (hw := wants_tt g77)
        refine kp 76 (.bool (b' == b)) ?_ (hw := wants_tt g77)
        refine kp 77 (.bool (b' == b)) ?_ (hop := fun _ => o_pickT g77)
        refine WpOps.nil ?_
        exact ⟨rfl, (.upd rfl (.upd rfl (.upd rfl (.upd rfl (.upd rfl (.upd rfl (.upd rfl (.upd rfl (.upd rfl (.upd rfl .refl)))))))))), (by kernel_rfl)⟩
      · refine um 68 ?_ (hw := wants_ft g77)
        refine um 69 ?_ (hw := wants_ft g77)
        refine um 70 ?_ (hw := wants_ft g77)
        refine um 71 ?_ (hw := wants_ft g77)
        refine um 72 ?_ (hw := wants_ft g77)
        refine um 73 ?_ (hw := wants_ft g77)
        refine um 74 ?_ (hw := wants_ft g77)
        refine um 75 ?_ (hw := wants_ft g77)
        refine um 76 ?_ (hw := wants_ft g77)
        refine kp 77 (.bool false) ?_ (hop := fun _ => o_pickF g77)
        refine WpOps.nil ?_
        exact ⟨rfl, (.upd rfl (.upd rfl (.upd rfl (.upd rfl (.upd rfl (.upd rfl (.upd rfl (.upd rfl (.upd rfl (.upd rfl .refl)))))))))), (by kernel_rfl)⟩
      refine WpOps.nil (thenK_at ?_)
      have hb : b77 = sameE (lk ls j) (lk ls k) := by
        rw [hb77, hmk, hlk]
        unfold sameE
        cases a' == a <;> rfl
      clear hb77
      refine Wp.split (b77) (by kernel_rfl) (fun hx3 => ?_) (fun hx3 => ?_)
      · refine Wp.seq (Wp.text ?_)
        refine kp 2 (.bool false) ?_
        refine WpOps.nil (thenK_at (Wp.ret (blockK_ret (thenK_ret (thenK_ret (blockK_ret (blockK_ret (thenK_ret (thenK_ret (blockK_ret (thenK_ret ?_)))))))))))
        refine endK_retn [Value.bool false] (Value.bool false) (by kernel_rfl) (by kernel_rfl) ?_
        rw [valid_bad hlt (by unfold linkB; rw [allR_false hlt2 (by rw [← hb, hx3]; rfl), Bool.and_false])]
        rfl
      · refine Wp.skip (blockK_norm (thenK_at (Wp.text ?_)))
        refine kp 56 (.int IntKind.i64 (↑j : Int)) ?_
        refine kp 57 (.int IntKind.i64 (IntKind.wrap .i64 ((↑j : Int) + 1))) ?_
        refine kp 5 (.int IntKind.i64 (IntKind.wrap .i64 ((↑j : Int) + 1))) ?_
        refine WpOps.nil (thenK_at ?_)
        exact ⟨j + 1, by omega, ⟨by omega, upto hq (by rw [← hb, hx3]; rfl)⟩, View.of [0, 1] [nr N x ls, ⟨48, true, [.int .i64 a, .int .i64 b, .int .i64 c]⟩] _ (by decide) rfl ⟨⟨[.int .i64 N, lks x ls], by kernel_rfl, by kernel_rfl, by kernel_rfl⟩, ⟨[.int .i64 a, .int .i64 b, .int .i64 c], by kernel_rfl, by kernel_rfl, by kernel_rfl⟩, trivial⟩ ⟨⟨by kernel_rfl, rfl⟩, ⟨by kernel_rfl, rfl⟩, ⟨by kernel_rfl, rfl⟩, ⟨congrArg (Value.int .i64) (wr _ (by omega) (by omega)), rfl⟩, trivial⟩⟩
    · obtain rfl : j = k := by omega
      have d2 : decide ((j : Int) < j) = false := decide_eq_false (by omega)
      refine Wp.seq (Wp.seq (Wp.text ?_))
      refine kp 53 (.int IntKind.i64 (↑j : Int)) ?_
      refine kp 54 (.int IntKind.i64 (↑j : Int)) ?_
      refine kp 55 (.bool false) ?_ (hop := fun _ => by_fact d2)
      refine WpOps.nil (thenK_at (off' (Wp.exit (thenK_exit (thenK_exit (blockK_hit (blockK_norm (thenK_at (Wp.text ?_)))))))))
      refine kp 19 (.int IntKind.i64 (↑j : Int)) ?_
      refine kp 20 (.int IntKind.i64 (IntKind.wrap .i64 ((↑j : Int) + 1))) ?_
      refine kp 3 (.int IntKind.i64 (IntKind.wrap .i64 ((↑j : Int) + 1))) ?_
      refine WpOps.nil (thenK_at ?_)
      exact ⟨j + 1, by omega, ⟨by omega, upto hp (by unfold linkB; rw [hok, allR_true hq]; rfl)⟩, View.of [0] [nr N x ls] _ (by decide) rfl ⟨⟨[.int .i64 N, lks x ls], by kernel_rfl, by kernel_rfl, by kernel_rfl⟩, trivial⟩ ⟨⟨by kernel_rfl, rfl⟩, ⟨congrArg (Value.int .i64) (wr _ (by omega) (by omega)), rfl⟩, trivial⟩⟩
  · obtain rfl : k = ls.length := by omega
    have d1 : decide ((ls.length : Int) < ls.length) = false := decide_eq_false (by omega)
    unfold nr lks
    refine Wp.seq (Wp.seq (Wp.text ?_))
    refine kp 14 (.int IntKind.i64 (↑(List.length ls) : Int)) ?_
    refine kp 15 (.pointer (some ⟨0, 1, none⟩)) ?_
    refine kp 16 (.iface 48 (Value.iface (List.length ls) (Value.iface x (Value.agg (List.toArray (lcs ls)))))) ?_
    refine kp 17 (.int IntKind.i64 (↑(List.length ls) : Int)) ?_
    refine kp 18 (.bool false) ?_ (hop := fun _ => by_fact d1)
    refine WpOps.nil (thenK_at (off' (Wp.exit (thenK_exit (thenK_exit (blockK_hit (thenK_at (Wp.seq (Wp.text ?_)))))))))
    refine kp 2 (.bool true) ?_
    refine WpOps.nil (thenK_at (Wp.ret ?_))
    refine endK_retn [Value.bool true] (Value.bool true) (by kernel_rfl) (by kernel_rfl) ?_
    have : valid N ls = true := by
      unfold valid
      rw [hN, allR_true hp]
      rfl
    rw [this]
    rfl
end Go.Proofs.Ytfjkanjmggbofaa.D
