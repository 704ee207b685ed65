/- relay.Medium.Tick. -/
import Derived.Test.YtdkmdpklojeepaaFwLem
import Derived.Test.YtdkmdpklojeepaaFwHole
import Derived.Test.YtdkmdpklojeepaaR09c
import Derived.Test.YtdkmdpklojeepaaS09g
namespace Go.Proofs.Ytdkmdpklojeepaa.D
open Go.Fw Go.RowKit

/-- The units of trips, as cells. -/
def uns (l : List Tr) : List Value := l.map fun z => .string z.2
theorem uns_flat (l : List Tr) : (uns l).all flat = true := by
  rw [List.all_eq_true]
  intro v hv
  obtain ⟨z, _, rfl⟩ := List.mem_map.1 hv
  rfl
theorem uns_len (l : List Tr) : (uns l).length = l.length := by simp [uns]
def outU (l : List Tr) : Value := if l = [] then .slice none 0 0 else FS 9 l.length 0 (uns l).toArray
theorem h14 : E.funcs 14 = some Try.f14 := by kernel_rfl
/-- What is due, and what stays. -/
def due (t : Int) (S : List Tr) : List Tr := S.takeWhile fun z => decide (z.1 ≤ t)
def rest (t : Int) (S : List Tr) : List Tr := S.dropWhile fun z => decide (z.1 ≤ t)
theorem due_all {t : Int} {S A : List Tr} (h : due t S = A) : ∀ z ∈ A, z.1 ≤ t := by
  subst h
  induction S with
  | nil => exact fun z hz => by cases hz
  | cons x S ih =>
    intro z hz
    unfold due at hz ih
    rw [List.takeWhile_cons] at hz
    split at hz
    · rename_i hx
      rcases List.mem_cons.1 hz with rfl | hz
      · exact of_decide_eq_true hx
      · exact ih z hz
    · cases hz
theorem rest_head {t : Int} {S B : List Tr} (h : rest t S = B) : ∀ z ∈ B.head?, ¬ z.1 ≤ t := by
  subst h
  induction S with
  | nil => exact fun z hz => by cases hz
  | cons x S ih =>
    intro z hz
    unfold rest at hz ih
    rw [List.dropWhile_cons] at hz
    split at hz
    · exact ih z hz
    · rename_i hx
      obtain rfl : x = z := by simpa using hz
      simpa using hx
theorem cellsAt_one {cells cs : List Value} {o n i : Nat} {v : Value} (h : cellsAt cells o n = some cs) (hv : cs[i]? = some v) : cells[o + 0 + i]? = some v := by
  unfold cellsAt at h
  split at h
  · obtain rfl := Option.some.inj h
    rw [List.getElem?_take, List.getElem?_drop] at hv
    split at hv
    · rw [Nat.add_zero]
      exact hv
    · cases hv
  · cases h
theorem ice_uns {hp : Heap} {b c : Nat} (l : List Tr) (h1 : hp.get b = some ⟨9, true, uns l⟩) : iceW E hp (.slice (some ⟨b, 0, none⟩) l.length c) = some (FS 9 l.length 0 (uns l).toArray) :=
  iceC_row (E := E) (hp := hp) (b := b) (n := l.length) (c := c) (e := 9) (size := 1) (cells := uns l) 3 (by kernel_rfl) h1 (by rw [uns_len, Nat.mul_one]) (uns_flat l)
theorem tick14 (k : Int) (L : List Ft) (t : Nat) (u : Int) (p X : List Tr) (ht : t ≤ 1000000) (hX : X.length ≤ 1000) (hin : InT X) :
    Lent E 14 [.pointer (some ⟨0, 0, none⟩)] [mB k L t u (.slice (some ⟨1, p.length * 2, none⟩) X.length X.length), rowB (p ++ X)] (outU (due (t + 1 : Nat) (ssort X))) [mB k L (t + 1 : Nat) u (.slice (some ⟨1, (p ++ due (t + 1 : Nat) (ssort X)).length * 2, none⟩) (rest (t + 1 : Nat) (ssort X)).length (rest (t + 1 : Nat) (ssort X)).length), rowB (p ++ ssort X)] := by
  refine Lent.of h14 rfl (of_decide_eq_true (by kernel_rfl)) rfl rfl (Nat.le_refl _) rfl ?_ ?_ ?_
  · simp only [mB, rowB, List.all_cons, List.all_nil, okCs_flat (tcs_flat _), Bool.and_true]
    rfl
  · unfold outU
    split <;> rfl
  have c0 := none40o k L t u (p.length * 2) X.length X.length (p ++ X)
  have hfl : (rowB (p ++ X)).cells.all flat = true := tcs_flat _
  have cs := sort42 X.length X.length p X [] rfl hin (by omega) (Nat.le_refl _)
  rw [List.append_nil, List.append_nil] at cs
  have hfl2 : (rowB (p ++ ssort X)).cells.all flat = true := tcs_flat _
  have wt : IntKind.i64.wrap ((t : Int) + 1) = ((t + 1 : Nat) : Int) := by rw [wr _ (by omega) (by omega)]; omega
  have hlS : X.length = (ssort X).length := (ssort_flt X).len.symm
  unfold mB at c0 ⊢
  refine Wp.seq (Wp.text ?_)
  refine kp 2 (.slice none 0 0) ?_
  refine WpOps.nil (thenK_at (Wp.seq (Wp.seq (Wp.text ?_))))
  refine kp 4 (.pointer (some ⟨0, 0, none⟩)) ?_
  refine cl 5 40 [Value.pointer (some ⟨0, 0, none⟩)] ?_
  refine WpCall.lent [0, 1] (c0) (by decide) ⟨⟨[Value.int IntKind.i64 k, Value.iface 46 (Value.iface (List.length L) (Value.iface 0 (Value.agg (List.toArray (fts L))))), Value.int IntKind.i64 (↑t : Int), Value.int IntKind.i64 u, Value.slice (some (Addr.mk 1 (List.length p * 2) none)) (List.length X) (List.length X)], (by kernel_rfl), (by kernel_rfl), (by kernel_rfl)⟩, ⟨⟨_, (by kernel_rfl), CellsOk.eq rfl (by assumption)⟩, trivial⟩⟩ (by kernel_rfl) (Value.bool false) ([Blk.mk 66 true [Value.int IntKind.i64 k, Value.iface 46 (Value.iface (List.length L) (Value.iface 0 (Value.agg (List.toArray (fts L))))), Value.int IntKind.i64 (↑t : Int), Value.int IntKind.i64 u, Value.slice (some (Addr.mk (List.getD [0, 1] 1 0) (List.length p * 2) none)) (List.length X) (List.length X)], Blk.mk 73 true (tcs (p ++ X))]) (.cons (by kernel_rfl) (.cons (unB_flat (by assumption)) .nil)) (by kernel_rfl) (Heap.set (Heap.set (heapOf [Blk.mk 66 true [Value.int IntKind.i64 k, FS 46 (List.length L) 0 (List.toArray (fts L)), Value.int IntKind.i64 (↑t : Int), Value.int IntKind.i64 u, Value.slice (some (Addr.mk 1 (List.length p * 2) none)) (List.length X) (List.length X)], rowB (p ++ X)]) 0 (some (Blk.mk 66 true [Value.int IntKind.i64 k, Value.iface 46 (Value.iface (List.length L) (Value.iface 0 (Value.agg (List.toArray (fts L))))), Value.int IntKind.i64 (↑t : Int), Value.int IntKind.i64 u, Value.slice (some (Addr.mk 1 (List.length p * 2) none)) (List.length X) (List.length X)]))) 1 (some (Blk.mk 73 true (tcs (p ++ X))))) (by kernel_rfl) ?_
  refine WpOps.nil (thenK_at (off' (Wp.skip (thenK_at (Wp.seq (Wp.text ?_))))))
  refine kp 6 (.pointer (some ⟨0, 0, none⟩)) ?_
  refine kp 7 (.pointer (some ⟨0, 0, none⟩)) ?_
  refine kp 8 (.pointer (some ⟨0, 2, none⟩)) ?_
  refine kp 9 (.int IntKind.i64 (↑t : Int)) ?_
  refine kp 10 (.int IntKind.i64 (IntKind.wrap .i64 ((↑t : Int) + 1))) ?_
  refine kp 11 (.pointer (some ⟨0, 0, none⟩)) ?_
  refine kp 12 (.pointer (some ⟨0, 2, none⟩)) ?_
  refine ld (.tuple #[]) (0) (Blk.mk 66 true [Value.int .i64 k, Value.iface 46 (Value.iface (List.length L) (Value.iface 0 (Value.agg (List.toArray (fts L))))), Value.int .i64 (IntKind.wrap .i64 ((↑t : Int) + 1)), Value.int .i64 u, Value.slice (some (Addr.mk 1 (List.length p * 2) none)) (List.length X) (List.length X)]) ?_
  refine WpOps.nil (thenK_at (Wp.seq (Wp.text ?_)))
  refine kp 13 (.pointer (some ⟨0, 0, none⟩)) ?_
  refine kp 14 (.pointer (some ⟨0, 0, none⟩)) ?_
  refine kp 15 (.pointer (some ⟨0, 4, none⟩)) ?_
  refine kp 16 (.slice (some (Addr.mk 1 (List.length p * 2) none)) (List.length X) (List.length X)) ?_
  refine cl 17 42 [Value.slice (some (Addr.mk 1 (List.length p * 2) none)) (List.length X) (List.length X), Value.func (Fn.func 43) #[] #[]] ?_
  refine WpCall.lent [1] (cs) (by decide) ⟨⟨_, (by kernel_rfl), CellsOk.eq rfl (by assumption)⟩, trivial⟩ (by kernel_rfl) (Value.tuple #[]) ([Blk.mk 73 true (tcs (p ++ ssort X))]) (.cons (unB_flat (by assumption)) .nil) (by kernel_rfl) (Heap.set (Heap.set (Heap.set (Heap.set (heapOf [Blk.mk 66 true [Value.int IntKind.i64 k, FS 46 (List.length L) 0 (List.toArray (fts L)), Value.int IntKind.i64 (↑t : Int), Value.int IntKind.i64 u, Value.slice (some (Addr.mk 1 (List.length p * 2) none)) (List.length X) (List.length X)], rowB (p ++ X)]) 0 (some (Blk.mk 66 true [Value.int IntKind.i64 k, Value.iface 46 (Value.iface (List.length L) (Value.iface 0 (Value.agg (List.toArray (fts L))))), Value.int IntKind.i64 (↑t : Int), Value.int IntKind.i64 u, Value.slice (some (Addr.mk 1 (List.length p * 2) none)) (List.length X) (List.length X)]))) 1 (some (Blk.mk 73 true (tcs (p ++ X))))) 0 (some (Blk.mk 66 true [Value.int IntKind.i64 k, Value.iface 46 (Value.iface (List.length L) (Value.iface 0 (Value.agg (List.toArray (fts L))))), Value.int IntKind.i64 (IntKind.wrap IntKind.i64 ((↑t : Int) + 1)), Value.int IntKind.i64 u, Value.slice (some (Addr.mk 1 (List.length p * 2) none)) (List.length X) (List.length X)]))) 1 (some (Blk.mk 73 true (tcs (p ++ ssort X))))) (by kernel_rfl) ?_
  refine WpOps.nil (thenK_at (Wp.seq (Wp.text ?_)))
  refine kp 3 (.slice none 0 0) ?_
  refine WpOps.nil (thenK_at (Wp.seq (Wp.block ?_)))
  rw [wt, hlS]
  have hnow : (t + 1 : Nat) ≤ 1000001 := by omega
  obtain ⟨A, hA⟩ : ∃ A, due (t + 1 : Nat) (ssort X) = A := ⟨_, rfl⟩
  obtain ⟨B, hB⟩ : ∃ B, rest (t + 1 : Nat) (ssort X) = B := ⟨_, rfl⟩
  have hS : ssort X = A ++ B := by rw [← hA, ← hB]; exact List.takeWhile_append_dropWhile.symm
  have hAll : ∀ z ∈ A, z.1 ≤ ((t + 1 : Nat) : Int) := due_all hA
  have hBd : ∀ z ∈ B.head?, ¬ z.1 ≤ ((t + 1 : Nat) : Int) := rest_head hB
  have hlen : (A ++ B).length ≤ 1000 := by rw [← hS, ← hlS]; exact hX
  rw [hA, hB]
  clear hA hB
  generalize (t + 1 : Nat) = T at *
  rw [hS] at hfl2 cs hlS ⊢
  clear cs hlS hfl c0 wt
  generalize ssort X = S at *
  have hat : ∀ (D : List Tr) (z : Tr) (r : List Tr), A ++ B = D ++ z :: r → (tcs (p ++ (A ++ B)))[(p ++ D).length * 2 + 0 + 0]? = some (.int .i64 z.1) ∧ (tcs (p ++ (A ++ B)))[(p ++ D).length * 2 + 0 + 1]? = some (.string z.2) := fun D z r e => by
    have h := tcs_slice (p ++ D) z r
    rw [e, ← List.append_assoc]
    exact ⟨cellsAt_one h rfl, cellsAt_one h rfl⟩
  obtain ⟨Q, hQ⟩ : ∃ Q, p ++ (A ++ B) = Q := ⟨_, rfl⟩
  obtain ⟨n, hn⟩ : ∃ n, (A ++ B).length = n := ⟨_, rfl⟩
  rw [hQ] at hfl2 hat ⊢
  have hlZ := hlen
  rw [hn] at hlen ⊢
  cases A with
  | nil =>
    cases B with
    | nil =>
      obtain rfl : n = 0 := hn.symm
      refine Wp.unroll (WpL.step ?_)
      have d1 : decide (((0 : Nat) : Int) > 0) = false := rfl
      refine Wp.seq (Wp.seq ?_)
      refine Wp.region (by kernel_rfl) ?_
      refine kp 18 (.pointer (some ⟨0, 0, none⟩)) ?_
      refine kp 19 (.pointer (some ⟨0, 0, none⟩)) ?_
      refine kp 20 (.pointer (some ⟨0, 4, none⟩)) ?_
      refine kp 21 (.slice (some (Addr.mk 1 (List.length p * 2) none)) 0 0) ?_
      refine kp 22 (.int IntKind.i64 (↑0 : Int)) ?_
      refine kp 23 (.bool false) ?_
      refine kp 24 (.bool false) ?_
      refine um 25 ?_
      refine um 26 ?_
      refine um 27 ?_
      refine um 28 ?_
      refine um 29 ?_
      refine um 30 ?_
      refine um 31 ?_
      refine um 32 ?_
      refine um 33 ?_
      refine um 34 ?_
      refine um 35 ?_
      refine um 36 ?_
      refine kp 37 (.bool false) ?_
      refine WpOps.nil (thenK_at (off' (Wp.exit (thenK_exit (thenK_exit (blockK_hit (thenK_at (Wp.seq (Wp.text ?_)))))))))
      refine kp 56 (.slice none 0 0) ?_
      refine kp 2 (.slice none 0 0) ?_
      refine WpOps.nil (thenK_at (Wp.ret ?_))
      refine endK_retn [Value.slice none 0 0] (Value.slice none 0 0) (by kernel_rfl) (by kernel_rfl) ?_
      exact ⟨[0, 1], by decide, by kernel_rfl, ⟨⟨_, by kernel_rfl, .cons (.inl ⟨rfl, rfl⟩) (.cons (.inl ⟨rfl, rfl⟩) (.cons (.inl ⟨rfl, rfl⟩) (.cons (.inl ⟨rfl, rfl⟩) (.cons (.inl ⟨by rw [List.append_nil], rfl⟩) .nil))))⟩, ⟨_, by kernel_rfl, toldC_flat (tcs_flat _)⟩, trivial⟩, .w (.un rfl rfl)⟩
    | cons z r =>
      have hn0 : n = r.length + 1 := by rw [← hn]; simp
      have d1 : decide ((n : Int) > 0) = true := decide_eq_true (by omega)
      have d2 : decide (z.1 ≤ (T : Int)) = false := decide_eq_false (hBd z rfl)
      have g1 : (0 : Int) ≤ 0 ∧ (0 : Int) < (n : Int) := by omega
      have g2 : (tcs Q)[p.length * 2 + 0 + 0]? = some (.int .i64 z.1) := by have := (hat [] z r rfl).1; rwa [List.append_nil] at this
      refine Wp.unroll (WpL.step ?_)
      refine Wp.seq (Wp.seq ?_)
      refine Wp.region (by kernel_rfl) ?_
      refine kp 18 (.pointer (some ⟨0, 0, none⟩)) ?_
      refine kp 19 (.pointer (some ⟨0, 0, none⟩)) ?_
      refine kp 20 (.pointer (some ⟨0, 4, none⟩)) ?_
      refine kp 21 (.slice (some (Addr.mk 1 (List.length p * 2) none)) n n) ?_
      refine kp 22 (.int IntKind.i64 (↑n : Int)) ?_
      refine kp 23 (.bool true) ?_ (hop := fun _ => by_fact d1)
      refine kp 24 (.bool true) ?_
      refine kp 25 (.pointer (some ⟨0, 0, none⟩)) ?_
      refine kp 26 (.pointer (some ⟨0, 0, none⟩)) ?_
      refine kp 27 (.pointer (some ⟨0, 4, none⟩)) ?_
      refine kp 28 (.slice (some (Addr.mk 1 (List.length p * 2) none)) n n) ?_
      refine kp 29 (.pointer (some (Addr.mk 1 (List.length p * 2 + 0) none))) ?_ (hop := fun _ => o_indexAddr (a := 0) (bl := 1) (off := List.length p * 2) (size := 2) 73 (n) g1)
      refine kp 30 (.pointer (some (Addr.mk 1 (List.length p * 2 + 0 + 0) none))) ?_
      refine kp 31 (.int IntKind.i64 (Prod.fst z)) ?_ (hop := fun _ => o_load1 (1) (List.length p * 2 + 0 + 0) g2)
      refine kp 32 (.pointer (some ⟨0, 0, none⟩)) ?_
      refine kp 33 (.pointer (some ⟨0, 0, none⟩)) ?_
      refine kp 34 (.pointer (some ⟨0, 2, none⟩)) ?_
      refine kp 35 (.int IntKind.i64 (↑T : Int)) ?_
      refine kp 36 (.bool false) ?_ (hop := fun _ => by_fact d2)
      refine kp 37 (.bool false) ?_
      refine WpOps.nil (thenK_at (off' (Wp.exit (thenK_exit (thenK_exit (blockK_hit (thenK_at (Wp.seq (Wp.text ?_)))))))))
      refine kp 56 (.slice none 0 0) ?_
      refine kp 2 (.slice none 0 0) ?_
      refine WpOps.nil (thenK_at (Wp.ret ?_))
      refine endK_retn [Value.slice none 0 0] (Value.slice none 0 0) (by kernel_rfl) (by kernel_rfl) ?_
      rw [hn0]
      exact ⟨[0, 1], by decide, by kernel_rfl, ⟨⟨_, by kernel_rfl, .cons (.inl ⟨rfl, rfl⟩) (.cons (.inl ⟨rfl, rfl⟩) (.cons (.inl ⟨rfl, rfl⟩) (.cons (.inl ⟨rfl, rfl⟩) (.cons (.inl ⟨by rw [List.append_nil], rfl⟩) .nil))))⟩, ⟨_, by kernel_rfl, toldC_flat (tcs_flat _)⟩, trivial⟩, .w (.un rfl rfl)⟩
  | cons z A =>
    have hn0 : n = (A ++ B).length + 1 := by rw [← hn]; simp
    have d1 : decide ((n : Int) > 0) = true := decide_eq_true (by omega)
    have d2 : decide (z.1 ≤ (T : Int)) = true := decide_eq_true (hAll z (List.mem_cons_self ..))
    have g1 : (0 : Int) ≤ 0 ∧ (0 : Int) < (n : Int) := by omega
    have g2 : (tcs Q)[p.length * 2 + 0 + 0]? = some (.int .i64 z.1) := by have := (hat [] z (A ++ B) rfl).1; rwa [List.append_nil] at this
    have g3 : (tcs Q)[p.length * 2 + 0 + 1]? = some (.string z.2) := by have := (hat [] z (A ++ B) rfl).2; rwa [List.append_nil] at this
    have g4 : (0 : Int) ≤ 1 ∧ (1 : Int) ≤ (n : Int) := by omega
    refine Wp.unroll (WpL.step ?_)
    refine Wp.seq (Wp.seq ?_)
    refine Wp.region (by kernel_rfl) ?_
    refine kp 18 (.pointer (some ⟨0, 0, none⟩)) ?_
    refine kp 19 (.pointer (some ⟨0, 0, none⟩)) ?_
    refine kp 20 (.pointer (some ⟨0, 4, none⟩)) ?_
    refine kp 21 (.slice (some (Addr.mk 1 (List.length p * 2) none)) n n) ?_
    refine kp 22 (.int IntKind.i64 (↑n : Int)) ?_
    refine kp 23 (.bool true) ?_ (hop := fun _ => by_fact d1)
    refine kp 24 (.bool true) ?_
    refine kp 25 (.pointer (some ⟨0, 0, none⟩)) ?_
    refine kp 26 (.pointer (some ⟨0, 0, none⟩)) ?_
    refine kp 27 (.pointer (some ⟨0, 4, none⟩)) ?_
    refine kp 28 (.slice (some (Addr.mk 1 (List.length p * 2) none)) n n) ?_
    refine kp 29 (.pointer (some (Addr.mk 1 (List.length p * 2 + 0) none))) ?_ (hop := fun _ => o_indexAddr (a := 0) (bl := 1) (off := List.length p * 2) (size := 2) 73 (n) g1)
    refine kp 30 (.pointer (some (Addr.mk 1 (List.length p * 2 + 0 + 0) none))) ?_
    refine kp 31 (.int IntKind.i64 (Prod.fst z)) ?_ (hop := fun _ => o_load1 (1) (List.length p * 2 + 0 + 0) g2)
    refine kp 32 (.pointer (some ⟨0, 0, none⟩)) ?_
    refine kp 33 (.pointer (some ⟨0, 0, none⟩)) ?_
    refine kp 34 (.pointer (some ⟨0, 2, none⟩)) ?_
    refine kp 35 (.int IntKind.i64 (↑T : Int)) ?_
    refine kp 36 (.bool true) ?_ (hop := fun _ => by_fact d2)
    refine kp 37 (.bool true) ?_
    refine WpOps.nil (thenK_at (on' (Wp.skip (thenK_at (Wp.block (Wp.seq (Wp.text ?_)))))))
    refine kp 38 (.slice none 0 0) ?_
    refine kp 39 (.pointer (some ⟨0, 0, none⟩)) ?_
    refine kp 40 (.pointer (some ⟨0, 0, none⟩)) ?_
    refine kp 41 (.pointer (some ⟨0, 4, none⟩)) ?_
    refine kp 42 (.slice (some (Addr.mk 1 (List.length p * 2) none)) n n) ?_
    refine kp 43 (.pointer (some (Addr.mk 1 (List.length p * 2 + 0) none))) ?_ (hop := fun _ => o_indexAddr (a := 0) (bl := 1) (off := List.length p * 2) (size := 2) 73 (n) g1)
    refine kp 44 (.pointer (some (Addr.mk 1 (List.length p * 2 + 0 + 1) none))) ?_
    refine kp 45 (.string (Prod.snd z)) ?_ (hop := fun _ => o_load1 (1) (List.length p * 2 + 0 + 1) g3)
    refine md 46 (.slice (some ⟨2, 0, none⟩) 1 1) (Blk.mk 9 true [Value.string (Prod.snd z)]) ?_
    refine md 47 (.slice (some ⟨3, 0, none⟩) 1 1) (Blk.mk 9 true [Value.string (Prod.snd z)]) ?_
    refine kp 3 (.slice (some ⟨3, 0, none⟩) 1 1) ?_
    refine WpOps.nil (thenK_at (Wp.text ?_))
    refine kp 48 (.pointer (some ⟨0, 0, none⟩)) ?_
    refine kp 49 (.pointer (some ⟨0, 0, none⟩)) ?_
    refine kp 50 (.pointer (some ⟨0, 0, none⟩)) ?_
    refine kp 51 (.pointer (some ⟨0, 4, none⟩)) ?_
    refine kp 52 (.slice (some (Addr.mk 1 (List.length p * 2) none)) n n) ?_
    refine kp 53 (.slice (some (Addr.mk (Addr.block (Addr.mk 1 (List.length p * 2) none)) (Addr.off (Addr.mk 1 (List.length p * 2) none) + 2) none)) (n - 1) (n - 1)) ?_ (hop := fun _ => o_cutS_lo (a := 1) (bl := 1) (off := List.length p * 2) (e := 73) (size := 2) g4)
    refine kp 54 (.pointer (some ⟨0, 0, none⟩)) ?_
    refine kp 55 (.pointer (some ⟨0, 4, none⟩)) ?_
    refine ld (.tuple #[]) (0) (Blk.mk 66 true [Value.int .i64 k, Value.iface 46 (Value.iface (List.length L) (Value.iface 0 (Value.agg (List.toArray (fts L))))), Value.int .i64 (↑T : Int), Value.int .i64 u, Value.slice (some (Addr.mk (Addr.block (Addr.mk 1 (List.length p * 2) none)) (Addr.off (Addr.mk 1 (List.length p * 2) none) + 2) none)) (n - 1) (n - 1)]) ?_
    refine WpOps.nil (blockK_norm (thenK_at ?_))
    have hw1 : Value.slice (some ⟨1, p.length * 2 + 2, none⟩) (n - 1) (n - 1) = .slice (some ⟨1, (p ++ [z]).length * 2, none⟩) (A ++ B).length (A ++ B).length := by
      rw [hn0, show (p ++ [z]).length * 2 = p.length * 2 + 2 by rw [List.length_append, Nat.add_mul]; rfl]
      rfl
    refine WpL.loop (G := List Tr × List Tr) (fun g => layj [(0, .pointer (some ⟨0, 0, none⟩)), (3, .slice (some ⟨2, 0, none⟩) g.1.length g.1.length)]) (fun g => heapOf [⟨66, true, [.int .i64 k, FS 46 L.length 0 (fts L).toArray, .int .i64 T, .int .i64 u, .slice (some ⟨1, (p ++ g.1).length * 2, none⟩) ((g.2 ++ B).length) ((g.2 ++ B).length)]⟩, rowB Q, ⟨9, true, uns g.1⟩]) (fun g => g.2.length) (fun g => g.1 ++ g.2 = z :: A) ([z], A)
      (View.of [0, 1, 3] [⟨66, true, [.int .i64 k, FS 46 L.length 0 (fts L).toArray, .int .i64 T, .int .i64 u, .slice (some ⟨1, (p ++ [z]).length * 2, none⟩) ((A ++ B).length) ((A ++ B).length)]⟩, rowB Q, ⟨9, true, uns [z]⟩] _ (by decide) rfl ⟨⟨[.int .i64 k, FS 46 L.length 0 (fts L).toArray, .int .i64 T, .int .i64 u, .slice (some ⟨1, p.length * 2 + 2, none⟩) (n - 1) (n - 1)], by kernel_rfl, ⟨by rw [hw1]; rfl, rfl⟩⟩, ⟨_, by kernel_rfl, CellsOk.eq rfl (tcs_flat _)⟩, ⟨_, by kernel_rfl, CellsOk.eq rfl (uns_flat _)⟩, trivial⟩ ⟨⟨by kernel_rfl, rfl⟩, ⟨by kernel_rfl, rfl⟩, trivial⟩) rfl ?_
    clear hw1 d1 d2 g1 g2 g3 g4 hn0 hn
    rintro ⟨D, R⟩ hDR
    dsimp only at hDR ⊢
    have hlD : D.length ≤ 1001 := by
      have h1 := congrArg List.length hDR
      have h2 := congrArg List.length hQ
      simp only [List.length_append, List.length_cons] at h1 h2 hlZ
      omega
    cases R with
    | nil =>
      rw [List.append_nil] at hDR
      subst hDR
      have hne : ¬ (z :: A : List Tr) = [] := by simp
      have ho : outU (z :: A) = FS 9 (z :: A).length 0 (uns (z :: A)).toArray := if_neg hne
      have hfu := uns_flat (z :: A)
      cases B with
      | nil =>
        have d1 : decide ((([] ++ [] : List Tr).length : Int) > 0) = false := rfl
        refine Wp.seq (Wp.seq ?_)
        refine Wp.region (by kernel_rfl) ?_
        refine kp 18 (.pointer (some ⟨0, 0, none⟩)) ?_
        refine kp 19 (.pointer (some ⟨0, 0, none⟩)) ?_
        refine kp 20 (.pointer (some ⟨0, 4, none⟩)) ?_
        refine kp 21 (.slice (some (Addr.mk 1 (List.length (p ++ z :: A) * 2) none)) 0 0) ?_
        refine kp 22 (.int IntKind.i64 (↑0 : Int)) ?_
        refine kp 23 (.bool false) ?_
        refine kp 24 (.bool false) ?_
        refine um 25 ?_
        refine um 26 ?_
        refine um 27 ?_
        refine um 28 ?_
        refine um 29 ?_
        refine um 30 ?_
        refine um 31 ?_
        refine um 32 ?_
        refine um 33 ?_
        refine um 34 ?_
        refine um 35 ?_
        refine um 36 ?_
        refine kp 37 (.bool false) ?_
        refine WpOps.nil (thenK_at (off' (Wp.exit (thenK_exit (thenK_exit (blockK_hit (thenK_at (Wp.seq (Wp.text ?_)))))))))
        refine kp 56 (.slice (some ⟨2, 0, none⟩) (List.length (z :: A)) (List.length (z :: A))) ?_
        refine kp 2 (.slice (some ⟨2, 0, none⟩) (List.length (z :: A)) (List.length (z :: A))) ?_
        refine WpOps.nil (thenK_at (Wp.ret ?_))
        refine endK_retn [Value.slice (some (Addr.mk 2 0 none)) (List.length (z :: A)) (List.length (z :: A))] (Value.slice (some (Addr.mk 2 0 none)) (List.length (z :: A)) (List.length (z :: A))) (by kernel_rfl) (by kernel_rfl) ?_
        exact ⟨[0, 1], by decide, by kernel_rfl, ⟨⟨_, by kernel_rfl, .cons (.inl ⟨rfl, rfl⟩) (.cons (.inl ⟨rfl, rfl⟩) (.cons (.inl ⟨rfl, rfl⟩) (.cons (.inl ⟨rfl, rfl⟩) (.cons (.inl ⟨rfl, rfl⟩) .nil))))⟩, ⟨_, by kernel_rfl, toldC_flat (tcs_flat _)⟩, trivial⟩, .w (.ice _ (ice_uns _ (by kernel_rfl)) (.c (.inl ho.symm)))⟩
      | cons y r =>
        have d1 : decide ((([] ++ y :: r : List Tr).length : Int) > 0) = true := decide_eq_true (Int.natCast_pos.2 (Nat.succ_pos _))
        have d2 : decide (y.1 ≤ (T : Int)) = false := decide_eq_false (hBd y rfl)
        have g1 : (0 : Int) ≤ 0 ∧ (0 : Int) < (([] ++ y :: r : List Tr).length : Int) := ⟨Int.le_refl _, Int.natCast_pos.2 (Nat.succ_pos _)⟩
        have g2 := (hat (z :: A) y r rfl).1
        refine Wp.seq (Wp.seq ?_)
        refine Wp.region (by kernel_rfl) ?_
        refine kp 18 (.pointer (some ⟨0, 0, none⟩)) ?_
        refine kp 19 (.pointer (some ⟨0, 0, none⟩)) ?_
        refine kp 20 (.pointer (some ⟨0, 4, none⟩)) ?_
        refine kp 21 (.slice (some (Addr.mk 1 (List.length (p ++ z :: A) * 2) none)) (List.length ([] ++ y :: r)) (List.length ([] ++ y :: r))) ?_
        refine kp 22 (.int IntKind.i64 (↑(List.length ([] ++ y :: r)) : Int)) ?_
        refine kp 23 (.bool true) ?_ (hop := fun _ => by_fact d1)
        refine kp 24 (.bool true) ?_
        refine kp 25 (.pointer (some ⟨0, 0, none⟩)) ?_
        refine kp 26 (.pointer (some ⟨0, 0, none⟩)) ?_
        refine kp 27 (.pointer (some ⟨0, 4, none⟩)) ?_
        refine kp 28 (.slice (some (Addr.mk 1 (List.length (p ++ z :: A) * 2) none)) (List.length ([] ++ y :: r)) (List.length ([] ++ y :: r))) ?_
        refine kp 29 (.pointer (some (Addr.mk 1 (List.length (p ++ z :: A) * 2 + 0) none))) ?_ (hop := fun _ => o_indexAddr (a := 0) (bl := 1) (off := List.length (p ++ z :: A) * 2) (size := 2) 73 (List.length ([] ++ y :: r)) g1)
        refine kp 30 (.pointer (some (Addr.mk 1 (List.length (p ++ z :: A) * 2 + 0 + 0) none))) ?_
        refine kp 31 (.int IntKind.i64 (Prod.fst y)) ?_ (hop := fun _ => o_load1 (1) (List.length (p ++ z :: A) * 2 + 0 + 0) g2)
        refine kp 32 (.pointer (some ⟨0, 0, none⟩)) ?_
        refine kp 33 (.pointer (some ⟨0, 0, none⟩)) ?_
        refine kp 34 (.pointer (some ⟨0, 2, none⟩)) ?_
        refine kp 35 (.int IntKind.i64 (↑T : Int)) ?_
        refine kp 36 (.bool false) ?_ (hop := fun _ => by_fact d2)
        refine kp 37 (.bool false) ?_
        refine WpOps.nil (thenK_at (off' (Wp.exit (thenK_exit (thenK_exit (blockK_hit (thenK_at (Wp.seq (Wp.text ?_)))))))))
        refine kp 56 (.slice (some ⟨2, 0, none⟩) (List.length (z :: A)) (List.length (z :: A))) ?_
        refine kp 2 (.slice (some ⟨2, 0, none⟩) (List.length (z :: A)) (List.length (z :: A))) ?_
        refine WpOps.nil (thenK_at (Wp.ret ?_))
        refine endK_retn [Value.slice (some (Addr.mk 2 0 none)) (List.length (z :: A)) (List.length (z :: A))] (Value.slice (some (Addr.mk 2 0 none)) (List.length (z :: A)) (List.length (z :: A))) (by kernel_rfl) (by kernel_rfl) ?_
        exact ⟨[0, 1], by decide, by kernel_rfl, ⟨⟨_, by kernel_rfl, .cons (.inl ⟨rfl, rfl⟩) (.cons (.inl ⟨rfl, rfl⟩) (.cons (.inl ⟨rfl, rfl⟩) (.cons (.inl ⟨rfl, rfl⟩) (.cons (.inl ⟨rfl, rfl⟩) .nil))))⟩, ⟨_, by kernel_rfl, toldC_flat (tcs_flat _)⟩, trivial⟩, .w (.ice _ (ice_uns _ (by kernel_rfl)) (.c (.inl ho.symm)))⟩
    | cons y R =>
      have hyA : y ∈ z :: A := by rw [← hDR]; simp
      have e : z :: A ++ B = D ++ y :: (R ++ B) := by rw [← hDR]; simp
      have d1 : decide (((y :: R ++ B).length : Int) > 0) = true := decide_eq_true (Int.natCast_pos.2 (Nat.succ_pos _))
      have d2 : decide (y.1 ≤ (T : Int)) = true := decide_eq_true (hAll y hyA)
      have g1 : (0 : Int) ≤ 0 ∧ (0 : Int) < ((y :: R ++ B).length : Int) := ⟨Int.le_refl _, Int.natCast_pos.2 (Nat.succ_pos _)⟩
      have g4 : (0 : Int) ≤ 1 ∧ (1 : Int) ≤ ((y :: R ++ B).length : Int) := ⟨by decide, by rw [List.cons_append, List.length_cons]; omega⟩
      obtain ⟨g2, g3⟩ := hat D y (R ++ B) e
      have q0 : cellsAt (uns D) 0 (D.length * 1) = some (uns D) := by
        unfold cellsAt
        rw [uns_len, if_pos (by omega), List.drop_zero, List.take_of_length_le (by rw [uns_len]; omega)]
      have q1 : ¬ D.length + 1 ≤ D.length := by omega
      have q2 : 1 ≤ 16 ∧ (D.length + 1) * 16 ≤ 140737488355328 ∧ 1 = 1 ∧ D.length + 1 ≤ 9223372036854775807 := by omega
      refine Wp.seq (Wp.seq ?_)
      refine Wp.region (by kernel_rfl) ?_
      refine kp 18 (.pointer (some ⟨0, 0, none⟩)) ?_
      refine kp 19 (.pointer (some ⟨0, 0, none⟩)) ?_
      refine kp 20 (.pointer (some ⟨0, 4, none⟩)) ?_
      refine kp 21 (.slice (some (Addr.mk 1 (List.length (p ++ D) * 2) none)) (List.length (y :: R ++ B)) (List.length (y :: R ++ B))) ?_
      refine kp 22 (.int IntKind.i64 (↑(List.length (y :: R ++ B)) : Int)) ?_
      refine kp 23 (.bool true) ?_ (hop := fun _ => by_fact d1)
      refine kp 24 (.bool true) ?_
      refine kp 25 (.pointer (some ⟨0, 0, none⟩)) ?_
      refine kp 26 (.pointer (some ⟨0, 0, none⟩)) ?_
      refine kp 27 (.pointer (some ⟨0, 4, none⟩)) ?_
      refine kp 28 (.slice (some (Addr.mk 1 (List.length (p ++ D) * 2) none)) (List.length (y :: R ++ B)) (List.length (y :: R ++ B))) ?_
      refine kp 29 (.pointer (some (Addr.mk 1 (List.length (p ++ D) * 2 + 0) none))) ?_ (hop := fun _ => o_indexAddr (a := 0) (bl := 1) (off := List.length (p ++ D) * 2) (size := 2) 73 (List.length (y :: R ++ B)) g1)
      refine kp 30 (.pointer (some (Addr.mk 1 (List.length (p ++ D) * 2 + 0 + 0) none))) ?_
      refine kp 31 (.int IntKind.i64 (Prod.fst y)) ?_ (hop := fun _ => o_load1 (1) (List.length (p ++ D) * 2 + 0 + 0) g2)
      refine kp 32 (.pointer (some ⟨0, 0, none⟩)) ?_
      refine kp 33 (.pointer (some ⟨0, 0, none⟩)) ?_
      refine kp 34 (.pointer (some ⟨0, 2, none⟩)) ?_
      refine kp 35 (.int IntKind.i64 (↑T : Int)) ?_
      refine kp 36 (.bool true) ?_ (hop := fun _ => by_fact d2)
      refine kp 37 (.bool true) ?_
      refine WpOps.nil (thenK_at (on' (Wp.skip (thenK_at (Wp.block (Wp.seq (Wp.text ?_)))))))
      refine kp 38 (.slice (some ⟨2, 0, none⟩) (List.length D) (List.length D)) ?_
      refine kp 39 (.pointer (some ⟨0, 0, none⟩)) ?_
      refine kp 40 (.pointer (some ⟨0, 0, none⟩)) ?_
      refine kp 41 (.pointer (some ⟨0, 4, none⟩)) ?_
      refine kp 42 (.slice (some (Addr.mk 1 (List.length (p ++ D) * 2) none)) (List.length (y :: R ++ B)) (List.length (y :: R ++ B))) ?_
      refine kp 43 (.pointer (some (Addr.mk 1 (List.length (p ++ D) * 2 + 0) none))) ?_ (hop := fun _ => o_indexAddr (a := 0) (bl := 1) (off := List.length (p ++ D) * 2) (size := 2) 73 (List.length (y :: R ++ B)) g1)
      refine kp 44 (.pointer (some (Addr.mk 1 (List.length (p ++ D) * 2 + 0 + 1) none))) ?_
      refine kp 45 (.string (Prod.snd y)) ?_ (hop := fun _ => o_load1 (1) (List.length (p ++ D) * 2 + 0 + 1) g3)
      refine md 46 (.slice (some ⟨3, 0, none⟩) 1 1) (Blk.mk 9 true [Value.string (Prod.snd y)]) ?_
      refine ra 47 (.slice (some ⟨4, 0, none⟩) (List.length D + 1) (List.length D + 1)) (2) (Blk.mk 9 true (uns D ++ [Value.string (Prod.snd y)])) ?_ (hop := fun _ => o_append (e := 9) (2) (0) (List.length D) _ (List.length D) q1 q2 q0)
      refine kp 3 (.slice (some ⟨4, 0, none⟩) (List.length D + 1) (List.length D + 1)) ?_
      refine WpOps.nil (thenK_at (Wp.text ?_))
      refine kp 48 (.pointer (some ⟨0, 0, none⟩)) ?_
      refine kp 49 (.pointer (some ⟨0, 0, none⟩)) ?_
      refine kp 50 (.pointer (some ⟨0, 0, none⟩)) ?_
      refine kp 51 (.pointer (some ⟨0, 4, none⟩)) ?_
      refine kp 52 (.slice (some (Addr.mk 1 (List.length (p ++ D) * 2) none)) (List.length (y :: R ++ B)) (List.length (y :: R ++ B))) ?_
      refine kp 53 (.slice (some (Addr.mk (Addr.block (Addr.mk 1 (List.length (p ++ D) * 2) none)) (Addr.off (Addr.mk 1 (List.length (p ++ D) * 2) none) + 2) none)) (List.length (y :: R ++ B) - 1) (List.length (y :: R ++ B) - 1)) ?_ (hop := fun _ => o_cutS_lo (a := 1) (bl := 1) (off := List.length (p ++ D) * 2) (e := 73) (size := 2) g4)
      refine kp 54 (.pointer (some ⟨0, 0, none⟩)) ?_
      refine kp 55 (.pointer (some ⟨0, 4, none⟩)) ?_
      refine ld (.tuple #[]) (0) (Blk.mk 66 true [Value.int .i64 k, Value.iface 46 (Value.iface (List.length L) (Value.iface 0 (Value.agg (List.toArray (fts L))))), Value.int .i64 (↑T : Int), Value.int .i64 u, Value.slice (some (Addr.mk (Addr.block (Addr.mk 1 (List.length (p ++ D) * 2) none)) (Addr.off (Addr.mk 1 (List.length (p ++ D) * 2) none) + 2) none)) (List.length (y :: R ++ B) - 1) (List.length (y :: R ++ B) - 1)]) ?_
      refine WpOps.nil (blockK_norm (thenK_at ?_))
      have hw1 : Value.slice (some ⟨1, (p ++ D).length * 2 + 2, none⟩) ((y :: R ++ B).length - 1) ((y :: R ++ B).length - 1) = .slice (some ⟨1, (p ++ (D ++ [y])).length * 2, none⟩) (R ++ B).length (R ++ B).length := by
        rw [show (p ++ (D ++ [y])).length * 2 = (p ++ D).length * 2 + 2 by rw [← List.append_assoc, List.length_append, Nat.add_mul]; rfl]
        rfl
      have hle : D.length + 1 = (D ++ [y]).length := by simp
      exact ⟨(D ++ [y], R), Nat.lt_succ_self _, by rw [List.append_assoc]; exact hDR, View.of [0, 1, 4] [⟨66, true, [.int .i64 k, FS 46 L.length 0 (fts L).toArray, .int .i64 T, .int .i64 u, .slice (some ⟨1, (p ++ (D ++ [y])).length * 2, none⟩) ((R ++ B).length) ((R ++ B).length)]⟩, rowB Q, ⟨9, true, uns (D ++ [y])⟩] _ (by decide) rfl ⟨⟨[.int .i64 k, FS 46 L.length 0 (fts L).toArray, .int .i64 T, .int .i64 u, .slice (some ⟨1, (p ++ D).length * 2 + 2, none⟩) ((y :: R ++ B).length - 1) ((y :: R ++ B).length - 1)], by kernel_rfl, ⟨by rw [hw1]; rfl, rfl⟩⟩, ⟨_, by kernel_rfl, CellsOk.eq rfl (tcs_flat _)⟩, ⟨uns D ++ [.string y.2], by kernel_rfl, CellsOk.eq (by simp [uns]) (uns_flat _)⟩, trivial⟩ ⟨⟨by kernel_rfl, rfl⟩, ⟨congrArg (fun z : Nat => Value.slice (some ⟨4, 0, none⟩) z z) hle, rfl⟩, trivial⟩⟩
end Go.Proofs.Ytdkmdpklojeepaa.D
