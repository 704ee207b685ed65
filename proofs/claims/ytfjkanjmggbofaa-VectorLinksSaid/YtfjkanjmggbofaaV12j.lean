/- Tables compared: Same, slices.Equal, slices.EqualFunc. -/
import Derived.Test.YtfjkanjmggbofaaFwLem
import Derived.Test.YtfjkanjmggbofaaFwCons
import Derived.Test.YtfjkanjmggbofaaV12i
namespace Go.Proofs.Ytfjkanjmggbofaa.D
open Go.Fw Go.RowKit

def eqR (a b : Rt) : Bool := a.1 == b.1 && (a.2 == b.2 && true)
def eqRow (N : Nat) (f g : Nat → Rt) : Bool := allR N fun j => eqR (f j) (g j)
def eqT (N : Nat) (f g : Nat → Nat → Rt) : Bool := allR N fun i => eqRow N (f i) (g i)
theorem notT {x : Bool} (h : (!x) = true) : x = false := by simpa using h
theorem notF {x : Bool} (h : (!x) = false) : x = true := by simpa using h
theorem eqR_self (a : Rt) : eqR a a = true := by simp [eqR]
theorem eqT_self (N : Nat) (f : Nat → Nat → Rt) : eqT N f f = true := allR_true fun _ _ => allR_true fun _ _ => eqR_self _
theorem eqR_eq {a b : Rt} (h : eqR a b = true) : a = b := by
  unfold eqR at h
  simp at h
  exact Prod.ext h.1 h.2
theorem eqT_at {N : Nat} {f g : Nat → Nat → Rt} (h : eqT N f g = true) {i j : Nat} (hi : i < N) (hj : j < N) : f i j = g i j := eqR_eq (allR_at (allR_at h hi) hj)
theorem rowM_cells {N : Nat} (f : Nat → Rt) {j : Nat} (hj : j < N) : cellsAt (rcs ((List.range N).map f)).toArray.toList ((j : Int).toNat * 2) 2 = some [.int .i64 (f j).1, .int .i64 (f j).2] := by
  have h := rcs_cells ((List.range N).map f) j (0, 0) (by simp; exact hj)
  have e : ((List.range N).map f).getD j (0, 0) = f j := by simp [hj]
  rw [e] at h
  exact h
theorem f20 : E.funcs 20 = some Try.f20 := by kernel_rfl
set_option maxHeartbeats 4000000 in
theorem same20 (N : Nat) (f g : Nat → Nat → Rt) (hN : 1 ≤ N ∧ N ≤ 20) : Fun E 20 [tabM 92 93 N f, tabM 92 93 N g] (.bool (eqT N f g)) := by
  refine Fun.of f20 rfl (of_decide_eq_true (by kernel_rfl)) rfl ?_
  rw [tabM_eq, tabM_eq]
  unfold matF
  have d0 : ((N : Int) != (N : Int)) = false := by simp
  refine Wp.seq (Wp.text ?_)
  refine kp 4 (.bool false) ?_
  refine WpOps.nil (thenK_at (Wp.seq (Wp.seq (Wp.text ?_))))
  refine kp 7 (.iface 92 (Value.iface N (Value.iface 0 (Value.agg (List.toArray (List.map (fun r => FS 93 N 0 (List.toArray r)) (rowsM N f))))))) ?_
  refine kp 8 (.int IntKind.i64 (↑N : Int)) ?_
  refine kp 9 (.iface 92 (Value.iface N (Value.iface 0 (Value.agg (List.toArray (List.map (fun r => FS 93 N 0 (List.toArray r)) (rowsM N g))))))) ?_
  refine kp 10 (.int IntKind.i64 (↑N : Int)) ?_
  refine kp 11 (.bool false) ?_ (hop := fun _ => by_fact d0)
  refine WpOps.nil (thenK_at (off' (Wp.skip (thenK_at (Wp.seq (Wp.seq (Wp.text ?_)))))))
  refine kp 5 (.int IntKind.i64 0) ?_
  refine WpOps.nil (thenK_at (Wp.block ?_))
  refine Wp.loop (G := Nat) (fun i => layj [(0, matF 92 93 N (rowsM N f)), (1, matF 92 93 N (rowsM N g)), (5, .int .i64 i)]) (fun _ => heapOf []) (fun i => N - i) (fun i => i ≤ N ∧ ∀ k, k < i → eqRow N (f k) (g k) = true) 0
    (View.of [] [] _ (by decide) rfl trivial ⟨⟨by kernel_rfl, rfl⟩, ⟨by kernel_rfl, rfl⟩, ⟨by kernel_rfl, rfl⟩, trivial⟩) ⟨Nat.zero_le _, fun i hi => absurd hi (Nat.not_lt_zero _)⟩ ?_
  rintro i ⟨hi, hp⟩
  unfold matF
  by_cases hlt : i < N
  · have d1 : decide ((i : Int) < N) = true := decide_eq_true (by omega)
    have g1 : 0 ≤ (i : Int) ∧ (i : Int) < N := by omega
    have u1 := matF_at 93 N (rowsM N f) (rowsM_at (f := f) hlt)
    have u2 := matF_at 93 N (rowsM N g) (rowsM_at (f := g) hlt)
    refine Wp.seq (Wp.seq (Wp.text ?_))
    refine kp 12 (.int IntKind.i64 (↑i : Int)) ?_
    refine kp 13 (.iface 92 (Value.iface N (Value.iface 0 (Value.agg (List.toArray (List.map (fun r => FS 93 N 0 (List.toArray r)) (rowsM N f))))))) ?_
    refine kp 14 (.int IntKind.i64 (↑N : Int)) ?_
    refine kp 15 (.bool true) ?_ (hop := fun _ => by_fact d1)
    refine WpOps.nil (thenK_at (on' (Wp.skip (thenK_at (Wp.seq (Wp.block (Wp.seq (Wp.seq ?_))))))))
    refine Wp.region (by kernel_rfl) ?_
    refine kp 18 (.iface 92 (Value.iface N (Value.iface 0 (Value.agg (List.toArray (List.map (fun r => FS 93 N 0 (List.toArray r)) (rowsM N f))))))) ?_
    refine kp 19 (.int IntKind.i64 (↑i : Int)) ?_
    refine kp 20 (.iface 92 (Value.iface (Int.toNat (↑i : Int) * 1) (Value.agg (List.toArray (List.map (fun r => FS 93 N 0 (List.toArray r)) (rowsM N f)))))) ?_ (hop := fun _ => o_indexI (e := 92) (size := 1) (a := (↑i : Int)) g1)
    refine kp 21 (.iface 93 (Value.iface N (Value.iface 0 (Value.agg (List.toArray (rcs (List.map (f i) (List.range N)))))))) ?_ (hop := fun _ => o_loadI1 (Int.toNat (↑i : Int) * 1) u1)
    refine kp 22 (.int IntKind.i64 (↑N : Int)) ?_
    refine kp 23 (.iface 92 (Value.iface N (Value.iface 0 (Value.agg (List.toArray (List.map (fun r => FS 93 N 0 (List.toArray r)) (rowsM N g))))))) ?_
    refine kp 24 (.int IntKind.i64 (↑i : Int)) ?_
    refine kp 25 (.iface 92 (Value.iface (Int.toNat (↑i : Int) * 1) (Value.agg (List.toArray (List.map (fun r => FS 93 N 0 (List.toArray r)) (rowsM N g)))))) ?_ (hop := fun _ => o_indexI (e := 92) (size := 1) (a := (↑i : Int)) g1)
    refine kp 26 (.iface 93 (Value.iface N (Value.iface 0 (Value.agg (List.toArray (rcs (List.map (g i) (List.range N)))))))) ?_ (hop := fun _ => o_loadI1 (Int.toNat (↑i : Int) * 1) u2)
    refine kp 27 (.int IntKind.i64 (↑N : Int)) ?_
    refine kp 28 (.bool false) ?_ (hop := fun _ => by_fact d0)
    refine WpOps.nil (thenK_at (off' (Wp.skip (thenK_at (Wp.seq (Wp.text ?_))))))
    refine kp 6 (.int IntKind.i64 0) ?_
    refine WpOps.nil (thenK_at (Wp.block ?_))
    refine Wp.loop (G := Nat) (fun j => layj [(0, matF 92 93 N (rowsM N f)), (1, matF 92 93 N (rowsM N g)), (5, .int .i64 i), (6, .int .i64 j)]) (fun _ => heapOf []) (fun j => N - j) (fun j => j ≤ N ∧ ∀ k, k < j → eqR (f i k) (g i k) = true) 0
      (View.of [] [] _ (by decide) rfl trivial ⟨⟨by kernel_rfl, rfl⟩, ⟨by kernel_rfl, rfl⟩, ⟨by kernel_rfl, rfl⟩, ⟨by kernel_rfl, rfl⟩, trivial⟩) ⟨Nat.zero_le _, fun i hi => absurd hi (Nat.not_lt_zero _)⟩ ?_
    rintro j ⟨hj, hq⟩
    unfold matF
    by_cases hlt2 : j < N
    · have d2 : decide ((j : Int) < N) = true := decide_eq_true (by omega)
      have g2 : 0 ≤ (j : Int) ∧ (j : Int) < N := by omega
      have v1 := rowM_cells (f i) hlt2
      have v2 := rowM_cells (g i) hlt2
      refine Wp.seq (Wp.seq (Wp.text ?_))
      refine kp 29 (.int IntKind.i64 (↑j : Int)) ?_
      refine kp 30 (.iface 92 (Value.iface N (Value.iface 0 (Value.agg (List.toArray (List.map (fun r => FS 93 N 0 (List.toArray r)) (rowsM N f))))))) ?_
      refine kp 31 (.int IntKind.i64 (↑i : Int)) ?_
      refine kp 32 (.iface 92 (Value.iface (Int.toNat (↑i : Int) * 1) (Value.agg (List.toArray (List.map (fun r => FS 93 N 0 (List.toArray r)) (rowsM N f)))))) ?_ (hop := fun _ => o_indexI (e := 92) (size := 1) (a := (↑i : Int)) g1)
      refine kp 33 (.iface 93 (Value.iface N (Value.iface 0 (Value.agg (List.toArray (rcs (List.map (f i) (List.range N)))))))) ?_ (hop := fun _ => o_loadI1 (Int.toNat (↑i : Int) * 1) u1)
      refine kp 34 (.int IntKind.i64 (↑N : Int)) ?_
      refine kp 35 (.bool true) ?_ (hop := fun _ => by_fact d2)
      refine WpOps.nil (thenK_at (on' (Wp.skip (thenK_at (Wp.seq (Wp.block (Wp.seq ?_)))))))
      refine Wp.region (by kernel_rfl) ?_
      refine kp 38 (.iface 92 (Value.iface N (Value.iface 0 (Value.agg (List.toArray (List.map (fun r => FS 93 N 0 (List.toArray r)) (rowsM N f))))))) ?_
      refine kp 39 (.int IntKind.i64 (↑i : Int)) ?_
      refine kp 40 (.iface 92 (Value.iface (Int.toNat (↑i : Int) * 1) (Value.agg (List.toArray (List.map (fun r => FS 93 N 0 (List.toArray r)) (rowsM N f)))))) ?_ (hop := fun _ => o_indexI (e := 92) (size := 1) (a := (↑i : Int)) g1)
      refine kp 41 (.iface 93 (Value.iface N (Value.iface 0 (Value.agg (List.toArray (rcs (List.map (f i) (List.range N)))))))) ?_ (hop := fun _ => o_loadI1 (Int.toNat (↑i : Int) * 1) u1)
      refine kp 42 (.int IntKind.i64 (↑j : Int)) ?_
      refine kp 43 (.iface 93 (Value.iface (Int.toNat (↑j : Int) * 2) (Value.agg (List.toArray (rcs (List.map (f i) (List.range N))))))) ?_ (hop := fun _ => o_indexI (e := 93) (size := 2) (a := (↑j : Int)) g2)
      refine kp 44 (.agg #[Value.int .i64 (Prod.fst (f i j)), Value.int .i64 (Prod.snd (f i j))]) ?_ (hop := fun _ => o_loadIA (Int.toNat (↑j : Int) * 2) v1)
      refine kp 45 (.iface 92 (Value.iface N (Value.iface 0 (Value.agg (List.toArray (List.map (fun r => FS 93 N 0 (List.toArray r)) (rowsM N g))))))) ?_
      refine kp 46 (.int IntKind.i64 (↑i : Int)) ?_
      refine kp 47 (.iface 92 (Value.iface (Int.toNat (↑i : Int) * 1) (Value.agg (List.toArray (List.map (fun r => FS 93 N 0 (List.toArray r)) (rowsM N g)))))) ?_ (hop := fun _ => o_indexI (e := 92) (size := 1) (a := (↑i : Int)) g1)
      refine kp 48 (.iface 93 (Value.iface N (Value.iface 0 (Value.agg (List.toArray (rcs (List.map (g i) (List.range N)))))))) ?_ (hop := fun _ => o_loadI1 (Int.toNat (↑i : Int) * 1) u2)
      refine kp 49 (.int IntKind.i64 (↑j : Int)) ?_
      refine kp 50 (.iface 93 (Value.iface (Int.toNat (↑j : Int) * 2) (Value.agg (List.toArray (rcs (List.map (g i) (List.range N))))))) ?_ (hop := fun _ => o_indexI (e := 93) (size := 2) (a := (↑j : Int)) g2)
      refine kp 51 (.agg #[Value.int .i64 (Prod.fst (g i j)), Value.int .i64 (Prod.snd (g i j))]) ?_ (hop := fun _ => o_loadIA (Int.toNat (↑j : Int) * 2) v2)
      refine kp 52 (.bool !(fun q => Prod.fst (f i j) == Prod.fst (g i j) && q) ((fun q => Prod.snd (f i j) == Prod.snd (g i j) && q) true)) ?_
      refine WpOps.nil (thenK_at ?_)
      refine Wp.split (!(fun q => Prod.fst (f i j) == Prod.fst (g i j) && q) ((fun q => Prod.snd (f i j) == Prod.snd (g i j) && q) true)) (by kernel_rfl) (fun hx => ?_) (fun hx => ?_)
      · have hx' : eqR (f i j) (g i j) = false := notT hx
        refine Wp.seq (Wp.text ?_)
        refine kp 4 (.bool false) ?_
        refine WpOps.nil (thenK_at (Wp.ret (blockK_ret (thenK_ret (thenK_ret (blockK_ret (blockK_ret (thenK_ret (thenK_ret (blockK_ret (thenK_ret ?_)))))))))))
        refine endK_retn [Value.bool false] (Value.bool false) (by kernel_rfl) (by kernel_rfl) ?_
        have : eqT N f g = false := allR_false hlt (allR_false hlt2 hx')
        rw [this]
        rfl
      · have hx' : eqR (f i j) (g i j) = true := notF hx
        refine Wp.skip (blockK_norm (thenK_at (Wp.text ?_)))
        refine kp 36 (.int IntKind.i64 (↑j : Int)) ?_
        refine kp 37 (.int IntKind.i64 (IntKind.wrap .i64 ((↑j : Int) + 1))) ?_
        refine kp 6 (.int IntKind.i64 (IntKind.wrap .i64 ((↑j : Int) + 1))) ?_
        refine WpOps.nil (thenK_at ?_)
        exact ⟨j + 1, by omega, ⟨by omega, upto hq hx'⟩, View.of [] [] _ (by decide) rfl trivial ⟨⟨by kernel_rfl, rfl⟩, ⟨by kernel_rfl, rfl⟩, ⟨by kernel_rfl, rfl⟩, ⟨congrArg (Value.int .i64) (wr _ (by omega) (by omega)), rfl⟩, trivial⟩⟩
    · obtain rfl : j = N := by omega
      have d2 : decide ((j : Int) < j) = false := decide_eq_false (by omega)
      refine Wp.seq (Wp.seq (Wp.text ?_))
      refine kp 29 (.int IntKind.i64 (↑j : Int)) ?_
      refine kp 30 (.iface 92 (Value.iface j (Value.iface 0 (Value.agg (List.toArray (List.map (fun r => FS 93 j 0 (List.toArray r)) (rowsM j f))))))) ?_
      refine kp 31 (.int IntKind.i64 (↑i : Int)) ?_
      refine kp 32 (.iface 92 (Value.iface (Int.toNat (↑i : Int) * 1) (Value.agg (List.toArray (List.map (fun r => FS 93 j 0 (List.toArray r)) (rowsM j f)))))) ?_ (hop := fun _ => o_indexI (e := 92) (size := 1) (a := (↑i : Int)) g1)
      refine kp 33 (.iface 93 (Value.iface j (Value.iface 0 (Value.agg (List.toArray (rcs (List.map (f i) (List.range j)))))))) ?_ (hop := fun _ => o_loadI1 (Int.toNat (↑i : Int) * 1) u1)
      refine kp 34 (.int IntKind.i64 (↑j : Int)) ?_
      refine kp 35 (.bool false) ?_ (hop := fun _ => by_fact d2)
      refine WpOps.nil (thenK_at (off' (Wp.exit (thenK_exit (thenK_exit (blockK_hit (blockK_norm (thenK_at (Wp.text ?_)))))))))
      refine kp 16 (.int IntKind.i64 (↑i : Int)) ?_
      refine kp 17 (.int IntKind.i64 (IntKind.wrap .i64 ((↑i : Int) + 1))) ?_
      refine kp 5 (.int IntKind.i64 (IntKind.wrap .i64 ((↑i : Int) + 1))) ?_
      refine WpOps.nil (thenK_at ?_)
      exact ⟨i + 1, by omega, ⟨by omega, upto hp (allR_true hq)⟩, View.of [] [] _ (by decide) rfl trivial ⟨⟨by kernel_rfl, rfl⟩, ⟨by kernel_rfl, rfl⟩, ⟨congrArg (Value.int .i64) (wr _ (by omega) (by omega)), rfl⟩, trivial⟩⟩
  · obtain rfl : i = N := by omega
    have d1 : decide ((i : Int) < i) = false := decide_eq_false (by omega)
    refine Wp.seq (Wp.seq (Wp.text ?_))
    refine kp 12 (.int IntKind.i64 (↑i : Int)) ?_
    refine kp 13 (.iface 92 (Value.iface i (Value.iface 0 (Value.agg (List.toArray (List.map (fun r => FS 93 i 0 (List.toArray r)) (rowsM i f))))))) ?_
    refine kp 14 (.int IntKind.i64 (↑i : Int)) ?_
    refine kp 15 (.bool false) ?_ (hop := fun _ => by_fact d1)
    refine WpOps.nil (thenK_at (off' (Wp.exit (thenK_exit (thenK_exit (blockK_hit (thenK_at (Wp.seq (Wp.text ?_)))))))))
    refine kp 4 (.bool true) ?_
    refine WpOps.nil (thenK_at (Wp.ret ?_))
    refine endK_retn [Value.bool true] (Value.bool true) (by kernel_rfl) (by kernel_rfl) ?_
    have : eqT i f g = true := allR_true hp
    rw [this]
    rfl
theorem same20n : Fun E 20 [FS 92 0 2 #[], FS 92 0 2 #[]] (.bool true) := Fun.closed 50 (.bool true) (by kernel_rfl)

theorem f44 : E.funcs 44 = some Try.f44 := by kernel_rfl
theorem equal44 (N : Nat) (f g : Nat → Rt) (hN : 1 ≤ N ∧ N ≤ 20) : Fun E 44 [FS 47 N 0 (rcs ((List.range N).map f)).toArray, FS 47 N 0 (rcs ((List.range N).map g)).toArray] (.bool (eqRow N f g)) := by
  refine Fun.of f44 rfl (of_decide_eq_true (by kernel_rfl)) rfl ?_
  have d0 : ((N : Int) != (N : Int)) = false := by simp
  refine Wp.seq (Wp.text ?_)
  refine kp 4 (.bool false) ?_
  refine WpOps.nil (thenK_at (Wp.seq (Wp.seq (Wp.text ?_))))
  refine kp 6 (.iface 47 (Value.iface N (Value.iface 0 (Value.agg (List.toArray (rcs (List.map f (List.range N)))))))) ?_
  refine kp 7 (.int IntKind.i64 (↑N : Int)) ?_
  refine kp 8 (.iface 47 (Value.iface N (Value.iface 0 (Value.agg (List.toArray (rcs (List.map g (List.range N)))))))) ?_
  refine kp 9 (.int IntKind.i64 (↑N : Int)) ?_
  refine kp 10 (.bool false) ?_ (hop := fun _ => by_fact d0)
  refine WpOps.nil (thenK_at (off' (Wp.skip (thenK_at (Wp.seq (Wp.seq (Wp.text ?_)))))))
  refine kp 11 (.iface 47 (Value.iface N (Value.iface 0 (Value.agg (List.toArray (rcs (List.map f (List.range N)))))))) ?_
  refine kp 12 (.int IntKind.i64 (↑N : Int)) ?_
  refine kp 13 (.int IntKind.i64 0) ?_
  refine WpOps.nil (thenK_at (Wp.block ?_))
  refine Wp.loop (G := Nat) (fun j => layj [(0, FS 47 N 0 (rcs ((List.range N).map f)).toArray), (1, FS 47 N 0 (rcs ((List.range N).map g)).toArray), (12, .int .i64 N), (13, .int .i64 j)]) (fun _ => heapOf []) (fun j => N - j) (fun j => j ≤ N ∧ ∀ k, k < j → eqR (f k) (g k) = true) 0
    (View.of [] [] _ (by decide) rfl trivial ⟨⟨by kernel_rfl, rfl⟩, ⟨by kernel_rfl, rfl⟩, ⟨by kernel_rfl, rfl⟩, ⟨by kernel_rfl, rfl⟩, trivial⟩) ⟨Nat.zero_le _, fun i hi => absurd hi (Nat.not_lt_zero _)⟩ ?_
  rintro j ⟨hj, hq⟩
  by_cases hlt2 : j < N
  · have d2 : decide ((j : Int) < N) = true := decide_eq_true (by omega)
    have g2 : 0 ≤ (j : Int) ∧ (j : Int) < N := by omega
    have v1 := rowM_cells f hlt2
    have v2 := rowM_cells g hlt2
    refine Wp.seq (Wp.text ?_)
    refine kp 14 (.bool true) ?_ (hop := fun _ => by_fact d2)
    refine WpOps.nil (thenK_at (Wp.seq (on' (Wp.skip (thenK_at (Wp.seq (Wp.block (Wp.seq (Wp.text ?_)))))))))
    refine kp 15 (.int IntKind.i64 (↑j : Int)) ?_
    refine kp 5 (.int IntKind.i64 (↑j : Int)) ?_
    refine WpOps.nil (thenK_at (Wp.seq ?_))
    refine Wp.region (by kernel_rfl) ?_
    refine kp 16 (.iface 47 (Value.iface N (Value.iface 0 (Value.agg (List.toArray (rcs (List.map f (List.range N)))))))) ?_
    refine kp 17 (.int IntKind.i64 (↑j : Int)) ?_
    refine kp 18 (.iface 47 (Value.iface (Int.toNat (↑j : Int) * 2) (Value.agg (List.toArray (rcs (List.map f (List.range N))))))) ?_ (hop := fun _ => o_indexI (e := 47) (size := 2) (a := (↑j : Int)) g2)
    refine kp 19 (.agg #[Value.int .i64 (Prod.fst (f j)), Value.int .i64 (Prod.snd (f j))]) ?_ (hop := fun _ => o_loadIA (Int.toNat (↑j : Int) * 2) v1)
    refine kp 20 (.iface 47 (Value.iface N (Value.iface 0 (Value.agg (List.toArray (rcs (List.map g (List.range N)))))))) ?_
    refine kp 21 (.int IntKind.i64 (↑j : Int)) ?_
    refine kp 22 (.iface 47 (Value.iface (Int.toNat (↑j : Int) * 2) (Value.agg (List.toArray (rcs (List.map g (List.range N))))))) ?_ (hop := fun _ => o_indexI (e := 47) (size := 2) (a := (↑j : Int)) g2)
    refine kp 23 (.agg #[Value.int .i64 (Prod.fst (g j)), Value.int .i64 (Prod.snd (g j))]) ?_ (hop := fun _ => o_loadIA (Int.toNat (↑j : Int) * 2) v2)
    refine kp 24 (.bool !(fun q => Prod.fst (f j) == Prod.fst (g j) && q) ((fun q => Prod.snd (f j) == Prod.snd (g j) && q) true)) ?_
    refine WpOps.nil (thenK_at ?_)
    refine Wp.split (!(fun q => Prod.fst (f j) == Prod.fst (g j) && q) ((fun q => Prod.snd (f j) == Prod.snd (g j) && q) true)) (by kernel_rfl) (fun hx => ?_) (fun hx => ?_)
    · have hx' : eqR (f j) (g j) = false := notT hx
      refine Wp.seq (Wp.text ?_)
      refine kp 4 (.bool false) ?_
      refine WpOps.nil (thenK_at (Wp.ret (blockK_ret (thenK_ret (thenK_ret (blockK_ret (thenK_ret ?_)))))))
      refine endK_retn [Value.bool false] (Value.bool false) (by kernel_rfl) (by kernel_rfl) ?_
      have : eqRow N f g = false := allR_false hlt2 hx'
      rw [this]
      rfl
    · have hx' : eqR (f j) (g j) = true := notF hx
      refine Wp.skip (blockK_norm (thenK_at (Wp.text ?_)))
      refine kp 25 (.int IntKind.i64 (IntKind.wrap .i64 ((↑j : Int) + 1))) ?_
      refine kp 13 (.int IntKind.i64 (IntKind.wrap .i64 ((↑j : Int) + 1))) ?_
      refine WpOps.nil (thenK_at ?_)
      exact ⟨j + 1, by omega, ⟨by omega, upto hq hx'⟩, View.of [] [] _ (by decide) rfl trivial ⟨⟨by kernel_rfl, rfl⟩, ⟨by kernel_rfl, rfl⟩, ⟨by kernel_rfl, rfl⟩, ⟨congrArg (Value.int .i64) (wr _ (by omega) (by omega)), rfl⟩, trivial⟩⟩
  · obtain rfl : j = N := by omega
    have d2 : decide ((j : Int) < j) = false := decide_eq_false (by omega)
    refine Wp.seq (Wp.text ?_)
    refine kp 14 (.bool false) ?_ (hop := fun _ => by_fact d2)
    refine WpOps.nil (thenK_at (Wp.seq (off' (Wp.exit (thenK_exit (thenK_exit (blockK_hit (thenK_at (Wp.seq (Wp.text ?_))))))))))
    refine kp 4 (.bool true) ?_
    refine WpOps.nil (thenK_at (Wp.ret ?_))
    refine endK_retn [Value.bool true] (Value.bool true) (by kernel_rfl) (by kernel_rfl) ?_
    have : eqRow j f g = true := allR_true hq
    rw [this]
    rfl
theorem f43 : E.funcs 43 = some Try.f43 := by kernel_rfl
theorem equal43 (N : Nat) (f g : Nat → Nat → Rt) (hN : 1 ≤ N ∧ N ≤ 20) : Fun E 43 [tabM 45 47 N f, tabM 45 47 N g, .func (.func 44) #[] #[]] (.bool (eqT N f g)) := by
  refine Fun.of f43 rfl (of_decide_eq_true (by kernel_rfl)) rfl ?_
  rw [tabM_eq, tabM_eq]
  unfold matF
  have d0 : ((N : Int) != (N : Int)) = false := by simp
  refine Wp.seq (Wp.text ?_)
  refine kp 6 (.bool false) ?_
  refine WpOps.nil (thenK_at (Wp.seq (Wp.seq (Wp.text ?_))))
  refine kp 10 (.iface 45 (Value.iface N (Value.iface 0 (Value.agg (List.toArray (List.map (fun r => FS 47 N 0 (List.toArray r)) (rowsM N f))))))) ?_
  refine kp 11 (.int IntKind.i64 (↑N : Int)) ?_
  refine kp 12 (.iface 45 (Value.iface N (Value.iface 0 (Value.agg (List.toArray (List.map (fun r => FS 47 N 0 (List.toArray r)) (rowsM N g))))))) ?_
  refine kp 13 (.int IntKind.i64 (↑N : Int)) ?_
  refine kp 14 (.bool false) ?_ (hop := fun _ => by_fact d0)
  refine WpOps.nil (thenK_at (off' (Wp.skip (thenK_at (Wp.seq (Wp.seq (Wp.text ?_)))))))
  refine kp 15 (.iface 45 (Value.iface N (Value.iface 0 (Value.agg (List.toArray (List.map (fun r => FS 47 N 0 (List.toArray r)) (rowsM N f))))))) ?_
  refine kp 16 (.int IntKind.i64 (↑N : Int)) ?_
  refine kp 17 (.int IntKind.i64 0) ?_
  refine WpOps.nil (thenK_at (Wp.block ?_))
  refine Wp.loop (G := Nat) (fun i => layj [(1, matF 45 47 N (rowsM N g)), (2, .func (.func 44) #[] #[]), (15, matF 45 47 N (rowsM N f)), (16, .int .i64 N), (17, .int .i64 i)]) (fun _ => heapOf []) (fun i => N - i) (fun i => i ≤ N ∧ ∀ k, k < i → eqRow N (f k) (g k) = true) 0
    (View.of [] [] _ (by decide) rfl trivial ⟨⟨by kernel_rfl, rfl⟩, ⟨by kernel_rfl, rfl⟩, ⟨by kernel_rfl, rfl⟩, ⟨by kernel_rfl, rfl⟩, ⟨by kernel_rfl, rfl⟩, trivial⟩) ⟨Nat.zero_le _, fun i hi => absurd hi (Nat.not_lt_zero _)⟩ ?_
  rintro i ⟨hi, hp⟩
  unfold matF
  by_cases hlt : i < N
  · have d1 : decide ((i : Int) < N) = true := decide_eq_true (by omega)
    have g1 : 0 ≤ (i : Int) ∧ (i : Int) < N := by omega
    have u1 := matF_at 47 N (rowsM N f) (rowsM_at (f := f) hlt)
    have u2 := matF_at 47 N (rowsM N g) (rowsM_at (f := g) hlt)
    have c1 := equal44 N (f i) (g i) hN
    refine Wp.seq (Wp.text ?_)
    refine kp 18 (.bool true) ?_ (hop := fun _ => by_fact d1)
    refine WpOps.nil (thenK_at (Wp.seq (on' (Wp.skip (thenK_at (Wp.seq (Wp.block (Wp.seq (Wp.text ?_)))))))))
    refine kp 19 (.int IntKind.i64 (↑i : Int)) ?_
    refine kp 20 (.iface 45 (Value.iface (Int.toNat (↑i : Int) * 1) (Value.agg (List.toArray (List.map (fun r => FS 47 N 0 (List.toArray r)) (rowsM N f)))))) ?_ (hop := fun _ => o_indexI (e := 45) (size := 1) (a := (↑i : Int)) g1)
    refine kp 21 (.iface 47 (Value.iface N (Value.iface 0 (Value.agg (List.toArray (rcs (List.map (f i) (List.range N)))))))) ?_ (hop := fun _ => o_loadI1 (Int.toNat (↑i : Int) * 1) u1)
    refine kp 7 (.int IntKind.i64 (↑i : Int)) ?_
    refine kp 8 (.iface 47 (Value.iface N (Value.iface 0 (Value.agg (List.toArray (rcs (List.map (f i) (List.range N)))))))) ?_
    refine WpOps.nil (thenK_at (Wp.seq (Wp.text ?_)))
    refine kp 22 (.iface 45 (Value.iface N (Value.iface 0 (Value.agg (List.toArray (List.map (fun r => FS 47 N 0 (List.toArray r)) (rowsM N g))))))) ?_
    refine kp 23 (.int IntKind.i64 (↑i : Int)) ?_
    refine kp 24 (.iface 45 (Value.iface (Int.toNat (↑i : Int) * 1) (Value.agg (List.toArray (List.map (fun r => FS 47 N 0 (List.toArray r)) (rowsM N g)))))) ?_ (hop := fun _ => o_indexI (e := 45) (size := 1) (a := (↑i : Int)) g1)
    refine kp 25 (.iface 47 (Value.iface N (Value.iface 0 (Value.agg (List.toArray (rcs (List.map (g i) (List.range N)))))))) ?_ (hop := fun _ => o_loadI1 (Int.toNat (↑i : Int) * 1) u2)
    refine kp 9 (.iface 47 (Value.iface N (Value.iface 0 (Value.agg (List.toArray (rcs (List.map (g i) (List.range N)))))))) ?_
    refine WpOps.nil (thenK_at (Wp.seq (Wp.text ?_)))
    refine kp 26 (.func (Fn.func 44) #[] #[]) ?_
    refine kp 27 (.iface 47 (Value.iface N (Value.iface 0 (Value.agg (List.toArray (rcs (List.map (f i) (List.range N)))))))) ?_
    refine kp 28 (.iface 47 (Value.iface N (Value.iface 0 (Value.agg (List.toArray (rcs (List.map (g i) (List.range N)))))))) ?_
    refine cl 29 44 [Value.iface 47 (Value.iface N (Value.iface 0 (Value.agg (List.toArray (rcs (List.map (f i) (List.range N))))))), Value.iface 47 (Value.iface N (Value.iface 0 (Value.agg (List.toArray (rcs (List.map (g i) (List.range N)))))))] ?_
    refine WpCall.consume [] (c1) (by kernel_rfl) (by kernel_rfl) ?_
    refine kp 30 (.bool !eqRow N (f i) (g i)) ?_
    refine WpOps.nil (thenK_at ?_)
    refine Wp.split (!eqRow N (f i) (g i)) (by kernel_rfl) (fun hx => ?_) (fun hx => ?_)
    · refine Wp.seq (Wp.text ?_)
      refine kp 6 (.bool false) ?_
      refine WpOps.nil (thenK_at (Wp.ret (blockK_ret (thenK_ret (thenK_ret (blockK_ret (thenK_ret ?_)))))))
      refine endK_retn [Value.bool false] (Value.bool false) (by kernel_rfl) (by kernel_rfl) ?_
      have : eqT N f g = false := allR_false hlt (by simpa using hx)
      rw [this]
      rfl
    · refine Wp.skip (blockK_norm (thenK_at (Wp.text ?_)))
      refine kp 31 (.int IntKind.i64 (IntKind.wrap .i64 ((↑i : Int) + 1))) ?_
      refine kp 17 (.int IntKind.i64 (IntKind.wrap .i64 ((↑i : Int) + 1))) ?_
      refine WpOps.nil (thenK_at ?_)
      exact ⟨i + 1, by omega, ⟨by omega, upto hp (by simpa using hx)⟩, View.of [] [] _ (by decide) rfl trivial ⟨⟨by kernel_rfl, rfl⟩, ⟨by kernel_rfl, rfl⟩, ⟨by kernel_rfl, rfl⟩, ⟨by kernel_rfl, rfl⟩, ⟨congrArg (Value.int .i64) (wr _ (by omega) (by omega)), rfl⟩, trivial⟩⟩
  · obtain rfl : i = N := by omega
    have d1 : decide ((i : Int) < i) = false := decide_eq_false (by omega)
    refine Wp.seq (Wp.text ?_)
    refine kp 18 (.bool false) ?_ (hop := fun _ => by_fact d1)
    refine WpOps.nil (thenK_at (Wp.seq (off' (Wp.exit (thenK_exit (thenK_exit (blockK_hit (thenK_at (Wp.seq (Wp.text ?_))))))))))
    refine kp 6 (.bool true) ?_
    refine WpOps.nil (thenK_at (Wp.ret ?_))
    refine endK_retn [Value.bool true] (Value.bool true) (by kernel_rfl) (by kernel_rfl) ?_
    have : eqT i f g = true := allR_true hp
    rw [this]
    rfl
end Go.Proofs.Ytfjkanjmggbofaa.D
