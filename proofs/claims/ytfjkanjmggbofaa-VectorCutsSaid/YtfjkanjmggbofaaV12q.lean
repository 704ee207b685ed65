/- Paths, of both. -/
import Derived.Test.YtfjkanjmggbofaaFwLem
import Derived.Test.YtfjkanjmggbofaaFwCons
import Derived.Test.YtfjkanjmggbofaaV12p
namespace Go.Proofs.Ytfjkanjmggbofaa.D
open Go.Fw Go.RowKit

/-- The nodes of a path. -/
def nd (f : Nat → Nat → Rt) (to st : Nat) : Nat → Nat
  | 0 => st
  | k + 1 => (f (nd f to st k) to).2.toNat
/-- It stops there. -/
def halt (c : Nat → Nat → Int) (f : Nat → Nat → Rt) (to st k : Nat) : Bool := (nd f to st k == to) || (((f (nd f to st k) to).2 == -1) || (c (nd f to st k) (nd f to st (k + 1)) == 0))
def stopP (n : Nat) (c : Nat → Nat → Int) (f : Nat → Nat → Rt) (to st : Nat) : Nat := match (List.range n).find? (halt c f to st) with
  | some k => k
  | none => n
def pathL (f : Nat → Nat → Rt) (to st k : Nat) : List Value := (List.range (k + 1)).map fun j => Value.int .i64 (nd f to st j)
theorem pathL_len (f : Nat → Nat → Rt) (to st k : Nat) : (pathL f to st k).length = k + 1 := by simp [pathL]
theorem pathL_flat (f : Nat → Nat → Rt) (to st k : Nat) : (pathL f to st k).all flat = true := by
  rw [List.all_eq_true]
  intro v hv
  obtain ⟨j, _, rfl⟩ := List.mem_map.1 hv
  rfl
theorem pathL_snoc (f : Nat → Nat → Rt) (to st k : Nat) : pathL f to st k ++ [.int .i64 (nd f to st (k + 1))] = pathL f to st (k + 1) := by
  unfold pathL
  rw [List.range_succ (n := k + 1), List.map_append]
  rfl
theorem pathL_last (f : Nat → Nat → Rt) (to st k : Nat) : (pathL f to st k)[k]? = some (.int .i64 (nd f to st k)) := by simp [pathL]
theorem stopP_at {n : Nat} {c : Nat → Nat → Int} {f : Nat → Nat → Rt} {to st k : Nat} (hk : k < n) (hp : ∀ j, j < k → halt c f to st j = false) (h : halt c f to st k = true) : stopP n c f to st = k := by
  unfold stopP
  have : (List.range n).find? (halt c f to st) = some k := by
    rw [List.find?_eq_some_iff_getElem]
    refine ⟨h, k, by simpa using hk, by simp, fun j hj => ?_⟩
    simp [hp j hj]
  rw [this]
theorem stopP_end {n : Nat} {c : Nat → Nat → Int} {f : Nat → Nat → Rt} {to st : Nat} (hp : ∀ j, j < n → halt c f to st j = false) : stopP n c f to st = n := by
  unfold stopP
  have : (List.range n).find? (halt c f to st) = none := by
    rw [List.find?_eq_none]
    intro j hj
    simp [hp j (List.mem_range.1 hj)]
  rw [this]
/-- Where the next node is one. -/
theorem next_is {n : Nat} {f : Nat → Nat → Rt} (g : GoodT n f) {i j : Nat} (hi : i < n) (hj : j < n) (hij : ¬ i = j) : (f i j).2 = -1 ∨ (0 ≤ (f i j).2 ∧ (f i j).2 < n) := by
  have h := g.ok i j hi hj
  unfold routeB at h
  rw [if_neg (by omega)] at h
  by_cases e : (f i j).1 = 16
  · rw [if_pos e] at h
    exact .inl (by simpa using h)
  · rw [if_neg e] at h
    unfold nodeB at h
    simp at h
    exact .inr (by omega)
theorem halt_no {c : Nat → Nat → Int} {f : Nat → Nat → Rt} {to st k : Nat} (h : halt c f to st k = false) : ¬ nd f to st k = to ∧ ¬ (f (nd f to st k) to).2 = -1 ∧ ¬ c (nd f to st k) (nd f to st (k + 1)) = 0 := by
  unfold halt at h
  simp at h
  exact h
theorem nd_lt {n : Nat} {c : Nat → Nat → Int} {f : Nat → Nat → Rt} (g : GoodT n f) {to st : Nat} (ht : to < n) (hf : st < n) : ∀ k, (∀ j, j < k → halt c f to st j = false) → nd f to st k < n
  | 0, _ => hf
  | k + 1, hp => by
    have ih := nd_lt g ht hf k fun j hj => hp j (by omega)
    obtain ⟨h1, h2, _⟩ := halt_no (hp k (by omega))
    rcases next_is g ih ht h1 with h | ⟨h3, h4⟩
    · exact absurd h h2
    · show (f (nd f to st k) to).2.toNat < n
      omega
theorem tup_ice {hp : Heap} {v u : Value} {b1 b2 : Value} (hv : iceW E hp v = some u) (h1 : iceW E hp b1 = some b1) (h2 : iceW E hp b2 = some b2) : iceV E hp (.tuple #[v, b1, b2]) = some (.tuple #[u, b1, b2]) := by
  have h3 : mapO (iceW E hp) [v, b1, b2] = some [u, b1, b2] := by
    simp only [mapO, hv, h1, h2]
  show (mapO (iceW E hp) [v, b1, b2]).map _ = _
  rw [h3]
  rfl
theorem tup2_ice {hp : Heap} {v u : Value} {b1 : Value} (hv : iceW E hp v = some u) (h1 : iceW E hp b1 = some b1) : iceV E hp (.tuple #[v, b1]) = some (.tuple #[u, b1]) := by
  have h3 : mapO (iceW E hp) [v, b1] = some [u, b1] := by
    simp only [mapO, hv, h1]
  show (mapO (iceW E hp) [v, b1]).map _ = _
  rw [h3]
  rfl
theorem ints_size : (E.types 3).map TI.size = some 1 := by kernel_rfl
theorem path_ice {hp : Heap} {b n : Nat} {cs : List Value} (hb : hp.get b = some ⟨3, true, cs⟩) (hl : n * 1 = cs.length) (hf : cs.all flat = true) : iceW E hp (.slice (some ⟨b, 0, none⟩) n n) = some (FS 3 n 0 cs.toArray) := by
  have h := iceC_row (E := E) (c := n) 3 ints_size hb hl hf
  unfold iceW
  exact h
/-- A path, as a value. -/
def pathF (f : Nat → Nat → Rt) (to st k : Nat) : Value := FS 3 (k + 1) 0 (pathL f to st k).toArray
theorem matC_cell {N : Nat} {c : Nat → Nat → Int} {i j : Nat} (hj : j < N) : ((List.range N).map fun j => Value.int .i64 (c i j)).toArray.toList[(j : Int).toNat * 1]? = some (.int .i64 (c i j)) := by
  rw [Int.toNat_natCast, Nat.mul_one, List.toList_toArray]
  exact row_at hj
theorem cast_beq (a b : Nat) : (((a : Nat) : Int) == ((b : Nat) : Int)) = (a == b) := by
  rw [Bool.eq_iff_iff]
  simp
  omega
theorem f54 : E.funcs 54 = some Try.f54 := by kernel_rfl
set_option maxHeartbeats 4000000 in
theorem path54 (n x : Nat) (ls : List Lk) (f : Nat → Nat → Rt) (st to : Nat) (g : Good n ls) (hz : ls.length ≤ 17592186044416) (gt : GoodT n f) (hfr : st < n) (hto : to < n) :
    Fun E 54 [netV n x ls, tabM 45 47 n f, .int .i64 st, .int .i64 to] (.tuple #[pathF f to st (stopP n (cF ls) f to st), .bool (nd f to st (stopP n (cF ls) f to st) == to), .bool (decide (stopP n (cF ls) f to st < n) && !(nd f to st (stopP n (cF ls) f to st) == to))]) := by
  refine Fun.of f54 rfl (of_decide_eq_true (by kernel_rfl)) rfl ?_
  have c2 := costsF51 n x ls g.hN g.hl hz
  have hN := g.hN
  rw [g.same] at c2
  generalize cF ls = c at c2 ⊢
  rw [tabM_eq]
  unfold netV at c2 ⊢
  unfold lks matF at c2 ⊢
  refine Wp.seq (Wp.text ?_)
  refine md 4 (.pointer (some ⟨0, 0, none⟩)) (Blk.mk 24 true [Value.int .i64 (↑n : Int), Value.iface 48 (Value.iface (List.length ls) (Value.iface x (Value.agg (List.toArray (lcs ls)))))]) ?_
  refine kp 8 (.slice none 0 0) ?_
  refine kp 9 (.bool false) ?_
  refine kp 10 (.bool false) ?_
  refine WpOps.nil (thenK_at (Wp.seq (Wp.text ?_)))
  refine kp 13 (.agg #[Value.int .i64 (↑n : Int), Value.iface 48 (Value.iface (List.length ls) (Value.iface x (Value.agg (List.toArray (lcs ls)))))]) ?_
  refine cl 14 51 [Value.agg #[Value.int .i64 (↑n : Int), Value.iface 48 (Value.iface (List.length ls) (Value.iface x (Value.agg (List.toArray (lcs ls)))))]] ?_
  refine WpCall.consume [0] (c2) (by kernel_rfl) (by kernel_rfl) ?_
  refine kp 11 (.iface 61 (Value.iface n (Value.iface 0 (Value.agg (List.toArray (List.map (fun r => FS 3 n 0 (List.toArray r)) (matC n c))))))) ?_
  refine WpOps.nil (thenK_at (Wp.seq (Wp.text ?_)))
  refine kp 15 (.int IntKind.i64 (↑st : Int)) ?_
  refine md 16 (.slice (some ⟨1, 0, none⟩) 1 1) (Blk.mk 3 true [Value.int .i64 (↑st : Int)]) ?_
  refine kp 8 (.slice (some ⟨1, 0, none⟩) 1 1) ?_
  refine WpOps.nil (thenK_at (Wp.seq (Wp.seq (Wp.text ?_))))
  refine kp 17 (.pointer (some ⟨0, 0, none⟩)) ?_
  refine kp 18 (.int IntKind.i64 (↑n : Int)) ?_
  refine kp 19 (.int IntKind.i64 0) ?_
  refine WpOps.nil (thenK_at (Wp.block ?_))
  refine Wp.loop (G := Nat) (fun k => layj [(1, matF 45 47 n (rowsM n f)), (2, .int .i64 (nd f to st k)), (3, .int .i64 to), (4, .pointer (some ⟨0, 0, none⟩)), (8, .slice (some ⟨1, 0, none⟩) (k + 1) (k + 1)), (11, matF 61 3 n (matC n c)), (18, .int .i64 n), (19, .int .i64 k)]) (fun k => heapOf [nv n x ls, ⟨3, true, pathL f to st k⟩]) (fun k => n - k) (fun k => k ≤ n ∧ ∀ j, j < k → halt c f to st j = false) 0
    (View.of [0, 1] [nv n x ls, ⟨3, true, pathL f to st 0⟩] _ (by decide) rfl ⟨⟨[.int .i64 n, lks x ls], by kernel_rfl, by kernel_rfl, by kernel_rfl⟩, ⟨_, by kernel_rfl, CellsOk.eq rfl (pathL_flat _ _ _ _)⟩, trivial⟩ ⟨⟨by kernel_rfl, rfl⟩, ⟨by kernel_rfl, rfl⟩, ⟨by kernel_rfl, rfl⟩, ⟨by kernel_rfl, rfl⟩, ⟨by kernel_rfl, rfl⟩, ⟨by kernel_rfl, rfl⟩, ⟨by kernel_rfl, rfl⟩, ⟨by kernel_rfl, rfl⟩, trivial⟩) ⟨Nat.zero_le _, fun j hj => absurd hj (Nat.not_lt_zero _)⟩ ?_
  rintro k ⟨hk, hp⟩
  have hnd := nd_lt gt hto hfr k hp
  by_cases hlt : k < n
  · have d1 : decide ((k : Int) < n) = true := decide_eq_true (by omega)
    unfold matF
    by_cases ha : nd f to st k = to
    · have e1 : (((nd f to st k : Nat) : Int) == (to : Int)) = true := beq_iff_eq.2 (by omega)
      have hh : halt c f to st k = true := by
        unfold halt
        simp [ha]
      refine Wp.seq (Wp.text ?_)
      refine kp 20 (.bool true) ?_ (hop := fun _ => by_fact d1)
      refine WpOps.nil (thenK_at (Wp.seq (on' (Wp.skip (thenK_at (Wp.seq (Wp.block (Wp.seq (Wp.seq (Wp.text ?_))))))))))
      refine kp 21 (.int IntKind.i64 (↑(nd f to st k) : Int)) ?_
      refine kp 22 (.int IntKind.i64 (↑to : Int)) ?_
      refine kp 23 (.bool true) ?_ (hop := fun _ => by_fact e1)
      refine WpOps.nil (thenK_at (on' (Wp.seq (Wp.text ?_))))
      refine kp 24 (.slice (some ⟨1, 0, none⟩) (k + 1) (k + 1)) ?_
      refine kp 8 (.slice (some ⟨1, 0, none⟩) (k + 1) (k + 1)) ?_
      refine kp 9 (.bool true) ?_
      refine kp 10 (.bool false) ?_
      refine WpOps.nil (thenK_at (Wp.ret (thenK_ret (blockK_ret (thenK_ret (thenK_ret (blockK_ret (thenK_ret ?_))))))))
      refine endK_retn [Value.slice (some (Addr.mk 1 0 none)) (k + 1) (k + 1), Value.bool true, Value.bool false] (Value.tuple #[Value.slice (some (Addr.mk 1 0 none)) (k + 1) (k + 1), Value.bool true, Value.bool false]) (by kernel_rfl) (by kernel_rfl) ?_
      rw [stopP_at hlt hp hh, ha]
      have e2 : (decide (k < n) && !(to == to)) = false := by simp
      rw [e2, beq_self_eq_true]
      exact tup_ice (path_ice (by kernel_rfl) (by rw [pathL_len]; omega) (pathL_flat _ _ _ _)) rfl rfl
    · have e1 : (((nd f to st k : Nat) : Int) == (to : Int)) = false := beq_eq_false_iff_ne.2 (by omega)
      have ea : (nd f to st k == to) = false := by simpa using ha
      have g1 : 0 ≤ ((nd f to st k : Nat) : Int) ∧ ((nd f to st k : Nat) : Int) < n := by omega
      have g2 : 0 ≤ (to : Int) ∧ (to : Int) < n := by omega
      have u1 := matF_at 47 n (rowsM n f) (rowsM_at (f := f) hnd)
      obtain ⟨_, u2⟩ := rowM_at f (nd f to st k) hto
      have u3 := matF_at 3 n (matC n c) (matC_at (c := c) hnd)
      rcases next_is gt hnd hto ha with hm | ⟨hm1, hm2⟩
      · have hh : halt c f to st k = true := by
          unfold halt
          simp [hm]
        rw [hm] at u2
        refine Wp.seq (Wp.text ?_)
        refine kp 20 (.bool true) ?_ (hop := fun _ => by_fact d1)
        refine WpOps.nil (thenK_at (Wp.seq (on' (Wp.skip (thenK_at (Wp.seq (Wp.block (Wp.seq (Wp.seq (Wp.text ?_))))))))))
        refine kp 21 (.int IntKind.i64 (↑(nd f to st k) : Int)) ?_
        refine kp 22 (.int IntKind.i64 (↑to : Int)) ?_
        refine kp 23 (.bool false) ?_ (hop := fun _ => by_fact e1)
        refine WpOps.nil (thenK_at (off' (Wp.skip (thenK_at (Wp.seq (Wp.text ?_))))))
        refine kp 25 (.iface 45 (Value.iface n (Value.iface 0 (Value.agg (List.toArray (List.map (fun r => FS 47 n 0 (List.toArray r)) (rowsM n f))))))) ?_
        refine kp 26 (.int IntKind.i64 (↑(nd f to st k) : Int)) ?_
        refine kp 27 (.iface 45 (Value.iface (Int.toNat (↑(nd f to st k) : Int) * 1) (Value.agg (List.toArray (List.map (fun r => FS 47 n 0 (List.toArray r)) (rowsM n f)))))) ?_ (hop := fun _ => o_indexI (e := 45) (size := 1) (a := (↑(nd f to st k) : Int)) g1)
        refine kp 28 (.iface 47 (Value.iface n (Value.iface 0 (Value.agg (List.toArray (rcs (List.map (f (nd f to st k)) (List.range n)))))))) ?_ (hop := fun _ => o_loadI1 (Int.toNat (↑(nd f to st k) : Int) * 1) u1)
        refine kp 29 (.int IntKind.i64 (↑to : Int)) ?_
        refine kp 30 (.iface 47 (Value.iface (Int.toNat (↑to : Int) * 2) (Value.agg (List.toArray (rcs (List.map (f (nd f to st k)) (List.range n))))))) ?_ (hop := fun _ => o_indexI (e := 47) (size := 2) (a := (↑to : Int)) g2)
        refine kp 31 (.iface 47 (Value.iface (Int.toNat (↑to : Int) * 2 + 1) (Value.agg (List.toArray (rcs (List.map (f (nd f to st k)) (List.range n))))))) ?_
        refine kp 32 (.int IntKind.i64 (-1)) ?_ (hop := fun _ => o_loadI1 (Int.toNat (↑to : Int) * 2 + 1) u2)
        refine kp 12 (.int IntKind.i64 (-1)) ?_
        refine WpOps.nil (thenK_at (Wp.seq (Wp.seq (Wp.text ?_))))
        refine kp 33 (.int IntKind.i64 (-1)) ?_
        refine kp 34 (.bool true) ?_
        refine kp 35 (.bool true) ?_
        refine um 36 ?_
        refine um 37 ?_
        refine um 38 ?_
        refine um 39 ?_
        refine um 40 ?_
        refine um 41 ?_
        refine um 42 ?_
        refine um 43 ?_
        refine kp 44 (.bool true) ?_
        refine WpOps.nil (thenK_at (on' (Wp.seq (Wp.text ?_))))
        refine kp 45 (.slice (some ⟨1, 0, none⟩) (k + 1) (k + 1)) ?_
        refine kp 8 (.slice (some ⟨1, 0, none⟩) (k + 1) (k + 1)) ?_
        refine kp 9 (.bool false) ?_
        refine kp 10 (.bool true) ?_
        refine WpOps.nil (thenK_at (Wp.ret (thenK_ret (blockK_ret (thenK_ret (thenK_ret (blockK_ret (thenK_ret ?_))))))))
        refine endK_retn [Value.slice (some (Addr.mk 1 0 none)) (k + 1) (k + 1), Value.bool false, Value.bool true] (Value.tuple #[Value.slice (some (Addr.mk 1 0 none)) (k + 1) (k + 1), Value.bool false, Value.bool true]) (by kernel_rfl) (by kernel_rfl) ?_
        rw [stopP_at hlt hp hh, ea, show (decide (k < n) && !false) = true by simp [hlt]]
        exact tup_ice (path_ice (by kernel_rfl) (by rw [pathL_len]; omega) (pathL_flat _ _ _ _)) rfl rfl
      · have hnx : (f (nd f to st k) to).2 = ((nd f to st (k + 1) : Nat) : Int) := (Int.toNat_of_nonneg hm1).symm
        have hnl : nd f to st (k + 1) < n := by omega
        rw [hnx] at u2
        have e2 : (((nd f to st (k + 1) : Nat) : Int) == -1) = false := beq_eq_false_iff_ne.2 (by omega)
        have g3 : 0 ≤ ((nd f to st (k + 1) : Nat) : Int) ∧ ((nd f to st (k + 1) : Nat) : Int) < n := by omega
        have u4 := matC_cell (c := c) (i := nd f to st k) hnl
        by_cases h0 : c (nd f to st k) (nd f to st (k + 1)) = 0
        · have hh : halt c f to st k = true := by
            unfold halt
            simp [h0]
          rw [h0] at u4
          refine Wp.seq (Wp.text ?_)
          refine kp 20 (.bool true) ?_ (hop := fun _ => by_fact d1)
          refine WpOps.nil (thenK_at (Wp.seq (on' (Wp.skip (thenK_at (Wp.seq (Wp.block (Wp.seq (Wp.seq (Wp.text ?_))))))))))
          refine kp 21 (.int IntKind.i64 (↑(nd f to st k) : Int)) ?_
          refine kp 22 (.int IntKind.i64 (↑to : Int)) ?_
          refine kp 23 (.bool false) ?_ (hop := fun _ => by_fact e1)
          refine WpOps.nil (thenK_at (off' (Wp.skip (thenK_at (Wp.seq (Wp.text ?_))))))
          refine kp 25 (.iface 45 (Value.iface n (Value.iface 0 (Value.agg (List.toArray (List.map (fun r => FS 47 n 0 (List.toArray r)) (rowsM n f))))))) ?_
          refine kp 26 (.int IntKind.i64 (↑(nd f to st k) : Int)) ?_
          refine kp 27 (.iface 45 (Value.iface (Int.toNat (↑(nd f to st k) : Int) * 1) (Value.agg (List.toArray (List.map (fun r => FS 47 n 0 (List.toArray r)) (rowsM n f)))))) ?_ (hop := fun _ => o_indexI (e := 45) (size := 1) (a := (↑(nd f to st k) : Int)) g1)
          refine kp 28 (.iface 47 (Value.iface n (Value.iface 0 (Value.agg (List.toArray (rcs (List.map (f (nd f to st k)) (List.range n)))))))) ?_ (hop := fun _ => o_loadI1 (Int.toNat (↑(nd f to st k) : Int) * 1) u1)
          refine kp 29 (.int IntKind.i64 (↑to : Int)) ?_
          refine kp 30 (.iface 47 (Value.iface (Int.toNat (↑to : Int) * 2) (Value.agg (List.toArray (rcs (List.map (f (nd f to st k)) (List.range n))))))) ?_ (hop := fun _ => o_indexI (e := 47) (size := 2) (a := (↑to : Int)) g2)
          refine kp 31 (.iface 47 (Value.iface (Int.toNat (↑to : Int) * 2 + 1) (Value.agg (List.toArray (rcs (List.map (f (nd f to st k)) (List.range n))))))) ?_
          refine kp 32 (.int IntKind.i64 (↑(nd f to st (k + 1)) : Int)) ?_ (hop := fun _ => o_loadI1 (Int.toNat (↑to : Int) * 2 + 1) u2)
          refine kp 12 (.int IntKind.i64 (↑(nd f to st (k + 1)) : Int)) ?_
          refine WpOps.nil (thenK_at (Wp.seq (Wp.seq (Wp.text ?_))))
          refine kp 33 (.int IntKind.i64 (↑(nd f to st (k + 1)) : Int)) ?_
          refine kp 34 (.bool ((↑(nd f to st (k + 1)) : Int) == -1)) ?_
          refine kp 35 (.bool ((↑(nd f to st (k + 1)) : Int) == -1)) ?_
          refine kp 36 (.iface 61 (Value.iface n (Value.iface 0 (Value.agg (List.toArray (List.map (fun r => FS 3 n 0 (List.toArray r)) (matC n c))))))) ?_
          refine kp 37 (.int IntKind.i64 (↑(nd f to st k) : Int)) ?_
          refine kp 38 (.iface 61 (Value.iface (Int.toNat (↑(nd f to st k) : Int) * 1) (Value.agg (List.toArray (List.map (fun r => FS 3 n 0 (List.toArray r)) (matC n c)))))) ?_ (hop := fun _ => o_indexI (e := 61) (size := 1) (a := (↑(nd f to st k) : Int)) g1)
          refine kp 39 (.iface 3 (Value.iface n (Value.iface 0 (Value.agg (List.toArray (List.map (fun j => Value.int .i64 (c (nd f to st k) j)) (List.range n))))))) ?_ (hop := fun _ => o_loadI1 (Int.toNat (↑(nd f to st k) : Int) * 1) u3)
          refine kp 40 (.int IntKind.i64 (↑(nd f to st (k + 1)) : Int)) ?_
          refine kp 41 (.iface 3 (Value.iface (Int.toNat (↑(nd f to st (k + 1)) : Int) * 1) (Value.agg (List.toArray (List.map (fun j => Value.int .i64 (c (nd f to st k) j)) (List.range n)))))) ?_ (hop := fun _ => o_indexI (e := 3) (size := 1) (a := (↑(nd f to st (k + 1)) : Int)) g3)
          refine kp 42 (.int IntKind.i64 0) ?_ (hop := fun _ => o_loadI1 (Int.toNat (↑(nd f to st (k + 1)) : Int) * 1) u4)
          refine kp 43 (.bool true) ?_
          refine kp 44 (.bool true) ?_ (hop := fun _ => o_pickF e2)
          refine WpOps.nil (thenK_at (on' (Wp.seq (Wp.text ?_))))
          refine kp 45 (.slice (some ⟨1, 0, none⟩) (k + 1) (k + 1)) ?_
          refine kp 8 (.slice (some ⟨1, 0, none⟩) (k + 1) (k + 1)) ?_
          refine kp 9 (.bool false) ?_
          refine kp 10 (.bool true) ?_
          refine WpOps.nil (thenK_at (Wp.ret (thenK_ret (blockK_ret (thenK_ret (thenK_ret (blockK_ret (thenK_ret ?_))))))))
          refine endK_retn [Value.slice (some (Addr.mk 1 0 none)) (k + 1) (k + 1), Value.bool false, Value.bool true] (Value.tuple #[Value.slice (some (Addr.mk 1 0 none)) (k + 1) (k + 1), Value.bool false, Value.bool true]) (by kernel_rfl) (by kernel_rfl) ?_
          rw [stopP_at hlt hp hh, ea, show (decide (k < n) && !false) = true by simp [hlt]]
          exact tup_ice (path_ice (by kernel_rfl) (by rw [pathL_len]; omega) (pathL_flat _ _ _ _)) rfl rfl
        · have hh : halt c f to st k = false := by
            unfold halt
            rw [hnx, ea, e2]
            simpa using h0
          have e3 : (c (nd f to st k) (nd f to st (k + 1)) == 0) = false := by simpa using h0
          have b1 : ¬ (k + 1 + 1 ≤ k + 1) := by omega
          have b2 : 1 ≤ 8 ∧ (k + 1 + 1) * 8 ≤ 140737488355328 ∧ 1 = 1 ∧ k + 1 + 1 ≤ 9223372036854775807 := by omega
          have b3 := cells_whole (pathL f to st k) ((k + 1) * 1) (by rw [pathL_len]; omega)
          refine Wp.seq (Wp.text ?_)
          refine kp 20 (.bool true) ?_ (hop := fun _ => by_fact d1)
          refine WpOps.nil (thenK_at (Wp.seq (on' (Wp.skip (thenK_at (Wp.seq (Wp.block (Wp.seq (Wp.seq (Wp.text ?_))))))))))
          refine kp 21 (.int IntKind.i64 (↑(nd f to st k) : Int)) ?_
          refine kp 22 (.int IntKind.i64 (↑to : Int)) ?_
          refine kp 23 (.bool false) ?_ (hop := fun _ => by_fact e1)
          refine WpOps.nil (thenK_at (off' (Wp.skip (thenK_at (Wp.seq (Wp.text ?_))))))
          refine kp 25 (.iface 45 (Value.iface n (Value.iface 0 (Value.agg (List.toArray (List.map (fun r => FS 47 n 0 (List.toArray r)) (rowsM n f))))))) ?_
          refine kp 26 (.int IntKind.i64 (↑(nd f to st k) : Int)) ?_
          refine kp 27 (.iface 45 (Value.iface (Int.toNat (↑(nd f to st k) : Int) * 1) (Value.agg (List.toArray (List.map (fun r => FS 47 n 0 (List.toArray r)) (rowsM n f)))))) ?_ (hop := fun _ => o_indexI (e := 45) (size := 1) (a := (↑(nd f to st k) : Int)) g1)
          refine kp 28 (.iface 47 (Value.iface n (Value.iface 0 (Value.agg (List.toArray (rcs (List.map (f (nd f to st k)) (List.range n)))))))) ?_ (hop := fun _ => o_loadI1 (Int.toNat (↑(nd f to st k) : Int) * 1) u1)
          refine kp 29 (.int IntKind.i64 (↑to : Int)) ?_
          refine kp 30 (.iface 47 (Value.iface (Int.toNat (↑to : Int) * 2) (Value.agg (List.toArray (rcs (List.map (f (nd f to st k)) (List.range n))))))) ?_ (hop := fun _ => o_indexI (e := 47) (size := 2) (a := (↑to : Int)) g2)
          refine kp 31 (.iface 47 (Value.iface (Int.toNat (↑to : Int) * 2 + 1) (Value.agg (List.toArray (rcs (List.map (f (nd f to st k)) (List.range n))))))) ?_
          refine kp 32 (.int IntKind.i64 (↑(nd f to st (k + 1)) : Int)) ?_ (hop := fun _ => o_loadI1 (Int.toNat (↑to : Int) * 2 + 1) u2)
          refine kp 12 (.int IntKind.i64 (↑(nd f to st (k + 1)) : Int)) ?_
          refine WpOps.nil (thenK_at (Wp.seq (Wp.seq (Wp.text ?_))))
          refine kp 33 (.int IntKind.i64 (↑(nd f to st (k + 1)) : Int)) ?_
          refine kp 34 (.bool ((↑(nd f to st (k + 1)) : Int) == -1)) ?_
          refine kp 35 (.bool ((↑(nd f to st (k + 1)) : Int) == -1)) ?_
          refine kp 36 (.iface 61 (Value.iface n (Value.iface 0 (Value.agg (List.toArray (List.map (fun r => FS 3 n 0 (List.toArray r)) (matC n c))))))) ?_
          refine kp 37 (.int IntKind.i64 (↑(nd f to st k) : Int)) ?_
          refine kp 38 (.iface 61 (Value.iface (Int.toNat (↑(nd f to st k) : Int) * 1) (Value.agg (List.toArray (List.map (fun r => FS 3 n 0 (List.toArray r)) (matC n c)))))) ?_ (hop := fun _ => o_indexI (e := 61) (size := 1) (a := (↑(nd f to st k) : Int)) g1)
          refine kp 39 (.iface 3 (Value.iface n (Value.iface 0 (Value.agg (List.toArray (List.map (fun j => Value.int .i64 (c (nd f to st k) j)) (List.range n))))))) ?_ (hop := fun _ => o_loadI1 (Int.toNat (↑(nd f to st k) : Int) * 1) u3)
          refine kp 40 (.int IntKind.i64 (↑(nd f to st (k + 1)) : Int)) ?_
          refine kp 41 (.iface 3 (Value.iface (Int.toNat (↑(nd f to st (k + 1)) : Int) * 1) (Value.agg (List.toArray (List.map (fun j => Value.int .i64 (c (nd f to st k) j)) (List.range n)))))) ?_ (hop := fun _ => o_indexI (e := 3) (size := 1) (a := (↑(nd f to st (k + 1)) : Int)) g3)
          refine kp 42 (.int IntKind.i64 (c (nd f to st k) (nd f to st (k + 1)))) ?_ (hop := fun _ => o_loadI1 (Int.toNat (↑(nd f to st (k + 1)) : Int) * 1) u4)
          refine kp 43 (.bool false) ?_ (hop := fun _ => by_fact e3)
          refine kp 44 (.bool false) ?_ (hop := fun _ => o_pickF e2)
          refine WpOps.nil (thenK_at (off' (Wp.skip (thenK_at (Wp.seq (Wp.text ?_))))))
          refine kp 46 (.int IntKind.i64 (↑(nd f to st (k + 1)) : Int)) ?_
          refine kp 2 (.int IntKind.i64 (↑(nd f to st (k + 1)) : Int)) ?_
          refine WpOps.nil (thenK_at (Wp.text ?_))
          refine kp 47 (.slice (some ⟨1, 0, none⟩) (k + 1) (k + 1)) ?_
          refine kp 48 (.int IntKind.i64 (↑(nd f to st (k + 1)) : Int)) ?_
          refine md 49 (.slice (some ⟨2, 0, none⟩) 1 1) (Blk.mk 3 true [Value.int .i64 (↑(nd f to st (k + 1)) : Int)]) ?_
          refine ra 50 (.slice (some ⟨3, 0, none⟩) (k + 1 + 1) (k + 1 + 1)) (1) (Blk.mk 3 true (pathL f to st k ++ [Value.int .i64 (↑(nd f to st (k + 1)) : Int)])) ?_ (hop := fun _ => o_append (e := 3) (1) (0) (k + 1) _ (k + 1) b1 b2 b3)
          refine kp 8 (.slice (some ⟨3, 0, none⟩) (k + 1 + 1) (k + 1 + 1)) ?_
          refine WpOps.nil (blockK_norm (thenK_at (Wp.text ?_)))
          refine kp 51 (.int IntKind.i64 (IntKind.wrap .i64 ((↑k : Int) + 1))) ?_
          refine kp 19 (.int IntKind.i64 (IntKind.wrap .i64 ((↑k : Int) + 1))) ?_
          refine WpOps.nil (thenK_at ?_)
          exact ⟨k + 1, by omega, ⟨by omega, upto' hp hh⟩, View.of [0, 3] [nv n x ls, ⟨3, true, pathL f to st (k + 1)⟩] _ (by decide) rfl ⟨⟨[.int .i64 n, lks x ls], by kernel_rfl, by kernel_rfl, by kernel_rfl⟩, ⟨_, by kernel_rfl, CellsOk.eq (pathL_snoc f to st k) (pathL_flat _ _ _ _)⟩, trivial⟩ ⟨⟨by kernel_rfl, rfl⟩, ⟨by kernel_rfl, rfl⟩, ⟨by kernel_rfl, rfl⟩, ⟨by kernel_rfl, rfl⟩, ⟨by kernel_rfl, rfl⟩, ⟨by kernel_rfl, rfl⟩, ⟨by kernel_rfl, rfl⟩, ⟨congrArg (Value.int .i64) (wr _ (by omega) (by omega)), rfl⟩, trivial⟩⟩
  · obtain rfl : k = n := by omega
    have d1 : decide ((k : Int) < k) = false := decide_eq_false (by omega)
    unfold matF
    refine Wp.seq (Wp.text ?_)
    refine kp 20 (.bool false) ?_ (hop := fun _ => by_fact d1)
    refine WpOps.nil (thenK_at (Wp.seq (off' (Wp.exit (thenK_exit (thenK_exit (blockK_hit (thenK_at (Wp.seq (Wp.text ?_))))))))))
    refine kp 52 (.slice (some ⟨1, 0, none⟩) (k + 1) (k + 1)) ?_
    refine kp 53 (.int IntKind.i64 (↑(nd f to st k) : Int)) ?_
    refine kp 54 (.int IntKind.i64 (↑to : Int)) ?_
    refine kp 55 (.bool ((↑(nd f to st k) : Int) == (↑to : Int))) ?_
    refine kp 8 (.slice (some ⟨1, 0, none⟩) (k + 1) (k + 1)) ?_
    refine kp 9 (.bool ((↑(nd f to st k) : Int) == (↑to : Int))) ?_
    refine kp 10 (.bool false) ?_
    refine WpOps.nil (thenK_at (Wp.ret ?_))
    refine endK_retn [Value.slice (some (Addr.mk 1 0 none)) (k + 1) (k + 1), Value.bool ((↑(nd f to st k) : Int) == (↑to : Int)), Value.bool false] (Value.tuple #[Value.slice (some (Addr.mk 1 0 none)) (k + 1) (k + 1), Value.bool ((↑(nd f to st k) : Int) == (↑to : Int)), Value.bool false]) (by kernel_rfl) (by kernel_rfl) ?_
    rw [stopP_end hp, show (decide (k < k) && !(nd f to st k == to)) = false by simp, cast_beq]
    exact tup_ice (path_ice (by kernel_rfl) (by rw [pathL_len]; omega) (pathL_flat _ _ _ _)) rfl rfl
/-- How a path ends: 0 there, 1 for want of a way, 2 not at all. -/
def howP (n : Nat) (c : Nat → Nat → Int) (f : Nat → Nat → Rt) (to st : Nat) : Int := if nd f to st (stopP n c f to st) = to then 0 else if stopP n c f to st < n then 1 else 2
theorem f56 : E.funcs 56 = some Try.f56 := by kernel_rfl
set_option maxHeartbeats 4000000 in
theorem walk56 (n x : Nat) (ls : List Lk) (f : Nat → Nat → Rt) (st to : Nat) (g : Good n ls) (hz : ls.length ≤ 17592186044416) (gt : GoodT n f) (hfr : st < n) (hto : to < n) :
    Fun E 56 [netV n x ls, tabM 92 93 n f, .int .i64 st, .int .i64 to] (.tuple #[pathF f to st (stopP n (cF ls) f to st), .int .i64 (howP n (cF ls) f to st)]) := by
  refine Fun.of f56 rfl (of_decide_eq_true (by kernel_rfl)) rfl ?_
  have c2 : ∀ i v : Nat, Fun E 52 [netV n x ls, .int .i64 i, .int .i64 v] (.int .i64 (cF ls i v)) := fun i v => cost52 n x ls i v hz
  have hN := g.hN
  generalize cF ls = c at c2 ⊢
  rw [tabM_eq]
  unfold netV at c2 ⊢
  unfold lks at c2 ⊢
  unfold matF
  refine Wp.seq (Wp.text ?_)
  refine md 4 (.pointer (some ⟨0, 0, none⟩)) (Blk.mk 34 true [Value.int .i64 (↑n : Int), Value.iface 48 (Value.iface (List.length ls) (Value.iface x (Value.agg (List.toArray (lcs ls)))))]) ?_
  refine kp 8 (.slice none 0 0) ?_
  refine kp 9 (.int IntKind.i64 0) ?_
  refine WpOps.nil (thenK_at (Wp.seq (Wp.text ?_)))
  refine kp 13 (.int IntKind.i64 (↑st : Int)) ?_
  refine md 14 (.slice (some ⟨1, 0, none⟩) 1 1) (Blk.mk 3 true [Value.int .i64 (↑st : Int)]) ?_
  refine kp 10 (.slice (some ⟨1, 0, none⟩) 1 1) ?_
  refine WpOps.nil (thenK_at (Wp.seq (Wp.block ?_)))
  refine Wp.loop (G := Nat) (fun k => layj [(1, matF 92 93 n (rowsM n f)), (3, .int .i64 to), (4, .pointer (some ⟨0, 0, none⟩)), (10, .slice (some ⟨1, 0, none⟩) (k + 1) (k + 1))]) (fun k => heapOf [nrf n x ls, ⟨3, true, pathL f to st k⟩]) (fun k => n - k) (fun k => k ≤ n ∧ ∀ j, j < k → halt c f to st j = false) 0
    (View.of [0, 1] [nrf n x ls, ⟨3, true, pathL f to st 0⟩] _ (by decide) rfl ⟨⟨[.int .i64 n, lks x ls], by kernel_rfl, by kernel_rfl, by kernel_rfl⟩, ⟨_, by kernel_rfl, CellsOk.eq rfl (pathL_flat _ _ _ _)⟩, trivial⟩ ⟨⟨by kernel_rfl, rfl⟩, ⟨by kernel_rfl, rfl⟩, ⟨by kernel_rfl, rfl⟩, ⟨by kernel_rfl, rfl⟩, trivial⟩) ⟨Nat.zero_le _, fun j hj => absurd hj (Nat.not_lt_zero _)⟩ ?_
  rintro k ⟨hk, hp⟩
  have hnd := nd_lt gt hto hfr k hp
  have ew : IntKind.i64.wrap (((k + 1 : Nat) : Int) - 1) = (k : Int) := by rw [wr _ (by omega) (by omega)]; omega
  have g0 : 0 ≤ IntKind.i64.wrap (((k + 1 : Nat) : Int) - 1) ∧ IntKind.i64.wrap (((k + 1 : Nat) : Int) - 1) < ((k + 1 : Nat) : Int) := by rw [ew]; omega
  have u0 : (pathL f to st k)[0 + (IntKind.i64.wrap (((k + 1 : Nat) : Int) - 1)).toNat * 1]? = some (.int .i64 (nd f to st k)) := by
    rw [ew, Int.toNat_natCast, Nat.zero_add, Nat.mul_one]
    exact pathL_last _ _ _ _
  by_cases hlt : k < n
  · have d1 : decide (((k + 1 : Nat) : Int) ≤ n) = true := decide_eq_true (by omega)
    unfold matF nrf lks
    by_cases ha : nd f to st k = to
    · have e1 : (((nd f to st k : Nat) : Int) == (to : Int)) = true := beq_iff_eq.2 (by omega)
      have hh : halt c f to st k = true := by
        unfold halt
        simp [ha]
      refine Wp.seq (Wp.seq (Wp.text ?_))
      refine kp 15 (.slice (some ⟨1, 0, none⟩) (k + 1) (k + 1)) ?_
      refine kp 16 (.int IntKind.i64 (↑(k + 1) : Int)) ?_
      refine kp 17 (.pointer (some ⟨0, 0, none⟩)) ?_
      refine kp 18 (.int IntKind.i64 (↑n : Int)) ?_
      refine kp 19 (.bool true) ?_ (hop := fun _ => by_fact d1)
      refine WpOps.nil (thenK_at (on' (Wp.skip (thenK_at (Wp.block (Wp.seq (Wp.text ?_)))))))
      refine kp 20 (.slice (some ⟨1, 0, none⟩) (k + 1) (k + 1)) ?_
      refine kp 21 (.slice (some ⟨1, 0, none⟩) (k + 1) (k + 1)) ?_
      refine kp 22 (.int IntKind.i64 (↑(k + 1) : Int)) ?_
      refine kp 23 (.int IntKind.i64 (IntKind.wrap .i64 ((↑(k + 1) : Int) - 1))) ?_
      refine kp 24 (.pointer (some (Addr.mk 1 (0 + Int.toNat (IntKind.wrap .i64 ((↑(k + 1) : Int) - 1)) * 1) none))) ?_ (hop := fun _ => o_indexAddr (a := IntKind.wrap IntKind.i64 ((↑(k + 1) : Int) - 1)) (bl := 1) (off := 0) (size := 1) 3 (k + 1) g0)
      refine kp 25 (.int IntKind.i64 (↑(nd f to st k) : Int)) ?_ (hop := fun _ => o_load1 (1) (0 + Int.toNat (IntKind.wrap IntKind.i64 ((↑(k + 1) : Int) - 1)) * 1) u0)
      refine kp 11 (.int IntKind.i64 (↑(nd f to st k) : Int)) ?_
      refine WpOps.nil (thenK_at (Wp.seq (Wp.seq (Wp.text ?_))))
      refine kp 26 (.int IntKind.i64 (↑(nd f to st k) : Int)) ?_
      refine kp 27 (.int IntKind.i64 (↑to : Int)) ?_
      refine kp 28 (.bool true) ?_ (hop := fun _ => by_fact e1)
      refine WpOps.nil (thenK_at (on' (Wp.seq (Wp.text ?_))))
      refine kp 29 (.slice (some ⟨1, 0, none⟩) (k + 1) (k + 1)) ?_
      refine kp 8 (.slice (some ⟨1, 0, none⟩) (k + 1) (k + 1)) ?_
      refine kp 9 (.int IntKind.i64 0) ?_
      refine WpOps.nil (thenK_at (Wp.ret (thenK_ret (blockK_ret (thenK_ret (blockK_ret (thenK_ret ?_)))))))
      refine endK_retn [Value.slice (some (Addr.mk 1 0 none)) (k + 1) (k + 1), Value.int IntKind.i64 0] (Value.tuple #[Value.slice (some (Addr.mk 1 0 none)) (k + 1) (k + 1), Value.int IntKind.i64 0]) (by kernel_rfl) (by kernel_rfl) ?_
      have hw : howP n c f to st = 0 := by
        unfold howP
        rw [stopP_at hlt hp hh, if_pos ha]
      rw [hw, stopP_at hlt hp hh]
      exact tup2_ice (path_ice (by kernel_rfl) (by rw [pathL_len]; omega) (pathL_flat _ _ _ _)) rfl
    · have e1 : (((nd f to st k : Nat) : Int) == (to : Int)) = false := beq_eq_false_iff_ne.2 (by omega)
      have g1 : 0 ≤ ((nd f to st k : Nat) : Int) ∧ ((nd f to st k : Nat) : Int) < n := by omega
      have g2 : 0 ≤ (to : Int) ∧ (to : Int) < n := by omega
      have u1 := matF_at 93 n (rowsM n f) (rowsM_at (f := f) hnd)
      obtain ⟨_, u2⟩ := rowM_at f (nd f to st k) hto
      rcases next_is gt hnd hto ha with hm | ⟨hm1, hm2⟩
      · have hh : halt c f to st k = true := by
          unfold halt
          simp [hm]
        rw [hm] at u2
        refine Wp.seq (Wp.seq (Wp.text ?_))
        refine kp 15 (.slice (some ⟨1, 0, none⟩) (k + 1) (k + 1)) ?_
        refine kp 16 (.int IntKind.i64 (↑(k + 1) : Int)) ?_
        refine kp 17 (.pointer (some ⟨0, 0, none⟩)) ?_
        refine kp 18 (.int IntKind.i64 (↑n : Int)) ?_
        refine kp 19 (.bool true) ?_ (hop := fun _ => by_fact d1)
        refine WpOps.nil (thenK_at (on' (Wp.skip (thenK_at (Wp.block (Wp.seq (Wp.text ?_)))))))
        refine kp 20 (.slice (some ⟨1, 0, none⟩) (k + 1) (k + 1)) ?_
        refine kp 21 (.slice (some ⟨1, 0, none⟩) (k + 1) (k + 1)) ?_
        refine kp 22 (.int IntKind.i64 (↑(k + 1) : Int)) ?_
        refine kp 23 (.int IntKind.i64 (IntKind.wrap .i64 ((↑(k + 1) : Int) - 1))) ?_
        refine kp 24 (.pointer (some (Addr.mk 1 (0 + Int.toNat (IntKind.wrap .i64 ((↑(k + 1) : Int) - 1)) * 1) none))) ?_ (hop := fun _ => o_indexAddr (a := IntKind.wrap IntKind.i64 ((↑(k + 1) : Int) - 1)) (bl := 1) (off := 0) (size := 1) 3 (k + 1) g0)
        refine kp 25 (.int IntKind.i64 (↑(nd f to st k) : Int)) ?_ (hop := fun _ => o_load1 (1) (0 + Int.toNat (IntKind.wrap IntKind.i64 ((↑(k + 1) : Int) - 1)) * 1) u0)
        refine kp 11 (.int IntKind.i64 (↑(nd f to st k) : Int)) ?_
        refine WpOps.nil (thenK_at (Wp.seq (Wp.seq (Wp.text ?_))))
        refine kp 26 (.int IntKind.i64 (↑(nd f to st k) : Int)) ?_
        refine kp 27 (.int IntKind.i64 (↑to : Int)) ?_
        refine kp 28 (.bool false) ?_ (hop := fun _ => by_fact e1)
        refine WpOps.nil (thenK_at (off' (Wp.skip (thenK_at (Wp.seq (Wp.text ?_))))))
        refine kp 30 (.iface 92 (Value.iface n (Value.iface 0 (Value.agg (List.toArray (List.map (fun r => FS 93 n 0 (List.toArray r)) (rowsM n f))))))) ?_
        refine kp 31 (.int IntKind.i64 (↑(nd f to st k) : Int)) ?_
        refine kp 32 (.iface 92 (Value.iface (Int.toNat (↑(nd f to st k) : Int) * 1) (Value.agg (List.toArray (List.map (fun r => FS 93 n 0 (List.toArray r)) (rowsM n f)))))) ?_ (hop := fun _ => o_indexI (e := 92) (size := 1) (a := (↑(nd f to st k) : Int)) g1)
        refine kp 33 (.iface 93 (Value.iface n (Value.iface 0 (Value.agg (List.toArray (rcs (List.map (f (nd f to st k)) (List.range n)))))))) ?_ (hop := fun _ => o_loadI1 (Int.toNat (↑(nd f to st k) : Int) * 1) u1)
        refine kp 34 (.int IntKind.i64 (↑to : Int)) ?_
        refine kp 35 (.iface 93 (Value.iface (Int.toNat (↑to : Int) * 2) (Value.agg (List.toArray (rcs (List.map (f (nd f to st k)) (List.range n))))))) ?_ (hop := fun _ => o_indexI (e := 93) (size := 2) (a := (↑to : Int)) g2)
        refine kp 36 (.iface 93 (Value.iface (Int.toNat (↑to : Int) * 2 + 1) (Value.agg (List.toArray (rcs (List.map (f (nd f to st k)) (List.range n))))))) ?_
        refine kp 37 (.int IntKind.i64 (-1)) ?_ (hop := fun _ => o_loadI1 (Int.toNat (↑to : Int) * 2 + 1) u2)
        refine kp 12 (.int IntKind.i64 (-1)) ?_
        refine WpOps.nil (thenK_at (Wp.seq (Wp.seq (Wp.text ?_))))
        refine kp 38 (.int IntKind.i64 (-1)) ?_
        refine kp 39 (.bool true) ?_
        refine kp 40 (.bool true) ?_
        refine um 41 ?_
        refine um 42 ?_
        refine um 43 ?_
        refine um 44 ?_
        refine um 45 ?_
        refine kp 46 (.bool true) ?_
        refine WpOps.nil (thenK_at (on' (Wp.seq (Wp.text ?_))))
        refine kp 47 (.slice (some ⟨1, 0, none⟩) (k + 1) (k + 1)) ?_
        refine kp 8 (.slice (some ⟨1, 0, none⟩) (k + 1) (k + 1)) ?_
        refine kp 9 (.int IntKind.i64 1) ?_
        refine WpOps.nil (thenK_at (Wp.ret (thenK_ret (blockK_ret (thenK_ret (blockK_ret (thenK_ret ?_)))))))
        refine endK_retn [Value.slice (some (Addr.mk 1 0 none)) (k + 1) (k + 1), Value.int IntKind.i64 1] (Value.tuple #[Value.slice (some (Addr.mk 1 0 none)) (k + 1) (k + 1), Value.int IntKind.i64 1]) (by kernel_rfl) (by kernel_rfl) ?_
        have hw : howP n c f to st = 1 := by
          unfold howP
          rw [stopP_at hlt hp hh, if_neg ha, if_pos hlt]
        rw [hw, stopP_at hlt hp hh]
        exact tup2_ice (path_ice (by kernel_rfl) (by rw [pathL_len]; omega) (pathL_flat _ _ _ _)) rfl
      · have hnx : (f (nd f to st k) to).2 = ((nd f to st (k + 1) : Nat) : Int) := (Int.toNat_of_nonneg hm1).symm
        have hnl : nd f to st (k + 1) < n := by omega
        rw [hnx] at u2
        have e2 : decide (((nd f to st (k + 1) : Nat) : Int) < 0) = false := decide_eq_false (by omega)
        have c3 := c2 (nd f to st k) (nd f to st (k + 1))
        by_cases h0 : c (nd f to st k) (nd f to st (k + 1)) = 0
        · have hh : halt c f to st k = true := by
            unfold halt
            simp [h0]
          rw [h0] at c3
          clear c2
          refine Wp.seq (Wp.seq (Wp.text ?_))
          refine kp 15 (.slice (some ⟨1, 0, none⟩) (k + 1) (k + 1)) ?_
          refine kp 16 (.int IntKind.i64 (↑(k + 1) : Int)) ?_
          refine kp 17 (.pointer (some ⟨0, 0, none⟩)) ?_
          refine kp 18 (.int IntKind.i64 (↑n : Int)) ?_
          refine kp 19 (.bool true) ?_ (hop := fun _ => by_fact d1)
          refine WpOps.nil (thenK_at (on' (Wp.skip (thenK_at (Wp.block (Wp.seq (Wp.text ?_)))))))
          refine kp 20 (.slice (some ⟨1, 0, none⟩) (k + 1) (k + 1)) ?_
          refine kp 21 (.slice (some ⟨1, 0, none⟩) (k + 1) (k + 1)) ?_
          refine kp 22 (.int IntKind.i64 (↑(k + 1) : Int)) ?_
          refine kp 23 (.int IntKind.i64 (IntKind.wrap .i64 ((↑(k + 1) : Int) - 1))) ?_
          refine kp 24 (.pointer (some (Addr.mk 1 (0 + Int.toNat (IntKind.wrap .i64 ((↑(k + 1) : Int) - 1)) * 1) none))) ?_ (hop := fun _ => o_indexAddr (a := IntKind.wrap IntKind.i64 ((↑(k + 1) : Int) - 1)) (bl := 1) (off := 0) (size := 1) 3 (k + 1) g0)
          refine kp 25 (.int IntKind.i64 (↑(nd f to st k) : Int)) ?_ (hop := fun _ => o_load1 (1) (0 + Int.toNat (IntKind.wrap IntKind.i64 ((↑(k + 1) : Int) - 1)) * 1) u0)
          refine kp 11 (.int IntKind.i64 (↑(nd f to st k) : Int)) ?_
          refine WpOps.nil (thenK_at (Wp.seq (Wp.seq (Wp.text ?_))))
          refine kp 26 (.int IntKind.i64 (↑(nd f to st k) : Int)) ?_
          refine kp 27 (.int IntKind.i64 (↑to : Int)) ?_
          refine kp 28 (.bool false) ?_ (hop := fun _ => by_fact e1)
          refine WpOps.nil (thenK_at (off' (Wp.skip (thenK_at (Wp.seq (Wp.text ?_))))))
          refine kp 30 (.iface 92 (Value.iface n (Value.iface 0 (Value.agg (List.toArray (List.map (fun r => FS 93 n 0 (List.toArray r)) (rowsM n f))))))) ?_
          refine kp 31 (.int IntKind.i64 (↑(nd f to st k) : Int)) ?_
          refine kp 32 (.iface 92 (Value.iface (Int.toNat (↑(nd f to st k) : Int) * 1) (Value.agg (List.toArray (List.map (fun r => FS 93 n 0 (List.toArray r)) (rowsM n f)))))) ?_ (hop := fun _ => o_indexI (e := 92) (size := 1) (a := (↑(nd f to st k) : Int)) g1)
          refine kp 33 (.iface 93 (Value.iface n (Value.iface 0 (Value.agg (List.toArray (rcs (List.map (f (nd f to st k)) (List.range n)))))))) ?_ (hop := fun _ => o_loadI1 (Int.toNat (↑(nd f to st k) : Int) * 1) u1)
          refine kp 34 (.int IntKind.i64 (↑to : Int)) ?_
          refine kp 35 (.iface 93 (Value.iface (Int.toNat (↑to : Int) * 2) (Value.agg (List.toArray (rcs (List.map (f (nd f to st k)) (List.range n))))))) ?_ (hop := fun _ => o_indexI (e := 93) (size := 2) (a := (↑to : Int)) g2)
          refine kp 36 (.iface 93 (Value.iface (Int.toNat (↑to : Int) * 2 + 1) (Value.agg (List.toArray (rcs (List.map (f (nd f to st k)) (List.range n))))))) ?_
          refine kp 37 (.int IntKind.i64 (↑(nd f to st (k + 1)) : Int)) ?_ (hop := fun _ => o_loadI1 (Int.toNat (↑to : Int) * 2 + 1) u2)
          refine kp 12 (.int IntKind.i64 (↑(nd f to st (k + 1)) : Int)) ?_
          refine WpOps.nil (thenK_at (Wp.seq (Wp.seq (Wp.text ?_))))
          refine kp 38 (.int IntKind.i64 (↑(nd f to st (k + 1)) : Int)) ?_
          refine kp 39 (.bool (decide ((↑(nd f to st (k + 1)) : Int) < 0))) ?_
          refine kp 40 (.bool (decide ((↑(nd f to st (k + 1)) : Int) < 0))) ?_
          refine kp 41 (.agg #[Value.int .i64 (↑n : Int), Value.iface 48 (Value.iface (List.length ls) (Value.iface x (Value.agg (List.toArray (lcs ls)))))]) ?_
          refine kp 42 (.int IntKind.i64 (↑(nd f to st k) : Int)) ?_
          refine kp 43 (.int IntKind.i64 (↑(nd f to st (k + 1)) : Int)) ?_
          refine fr 44 52 [Value.agg #[Value.int .i64 (↑n : Int), Value.iface 48 (Value.iface (List.length ls) (Value.iface x (Value.agg (List.toArray (lcs ls)))))], Value.int .i64 (↑(nd f to st k) : Int), Value.int .i64 (↑(nd f to st (k + 1)) : Int)] ?_
          refine WpFun.of (c3) ?_
          refine kp 45 (.bool true) ?_
          refine kp 46 (.bool true) ?_ (hop := fun _ => o_pickF e2)
          refine WpOps.nil (thenK_at (on' (Wp.seq (Wp.text ?_))))
          refine kp 47 (.slice (some ⟨1, 0, none⟩) (k + 1) (k + 1)) ?_
          refine kp 8 (.slice (some ⟨1, 0, none⟩) (k + 1) (k + 1)) ?_
          refine kp 9 (.int IntKind.i64 1) ?_
          refine WpOps.nil (thenK_at (Wp.ret (thenK_ret (blockK_ret (thenK_ret (blockK_ret (thenK_ret ?_)))))))
          refine endK_retn [Value.slice (some (Addr.mk 1 0 none)) (k + 1) (k + 1), Value.int IntKind.i64 1] (Value.tuple #[Value.slice (some (Addr.mk 1 0 none)) (k + 1) (k + 1), Value.int IntKind.i64 1]) (by kernel_rfl) (by kernel_rfl) ?_
          have hw : howP n c f to st = 1 := by
            unfold howP
            rw [stopP_at hlt hp hh, if_neg ha, if_pos hlt]
          rw [hw, stopP_at hlt hp hh]
          exact tup2_ice (path_ice (by kernel_rfl) (by rw [pathL_len]; omega) (pathL_flat _ _ _ _)) rfl
        · have hh : halt c f to st k = false := by
            unfold halt
            rw [hnx]
            simp [ha, h0]
          have e3 : (c (nd f to st k) (nd f to st (k + 1)) == 0) = false := by simpa using h0
          have b1 : ¬ (k + 1 + 1 ≤ k + 1) := by omega
          have b2 : 1 ≤ 8 ∧ (k + 1 + 1) * 8 ≤ 140737488355328 ∧ 1 = 1 ∧ k + 1 + 1 ≤ 9223372036854775807 := by omega
          have b3 := cells_whole (pathL f to st k) ((k + 1) * 1) (by rw [pathL_len]; omega)
          clear c2
          refine Wp.seq (Wp.seq (Wp.text ?_))
          refine kp 15 (.slice (some ⟨1, 0, none⟩) (k + 1) (k + 1)) ?_
          refine kp 16 (.int IntKind.i64 (↑(k + 1) : Int)) ?_
          refine kp 17 (.pointer (some ⟨0, 0, none⟩)) ?_
          refine kp 18 (.int IntKind.i64 (↑n : Int)) ?_
          refine kp 19 (.bool true) ?_ (hop := fun _ => by_fact d1)
          refine WpOps.nil (thenK_at (on' (Wp.skip (thenK_at (Wp.block (Wp.seq (Wp.text ?_)))))))
          refine kp 20 (.slice (some ⟨1, 0, none⟩) (k + 1) (k + 1)) ?_
          refine kp 21 (.slice (some ⟨1, 0, none⟩) (k + 1) (k + 1)) ?_
          refine kp 22 (.int IntKind.i64 (↑(k + 1) : Int)) ?_
          refine kp 23 (.int IntKind.i64 (IntKind.wrap .i64 ((↑(k + 1) : Int) - 1))) ?_
          refine kp 24 (.pointer (some (Addr.mk 1 (0 + Int.toNat (IntKind.wrap .i64 ((↑(k + 1) : Int) - 1)) * 1) none))) ?_ (hop := fun _ => o_indexAddr (a := IntKind.wrap IntKind.i64 ((↑(k + 1) : Int) - 1)) (bl := 1) (off := 0) (size := 1) 3 (k + 1) g0)
          refine kp 25 (.int IntKind.i64 (↑(nd f to st k) : Int)) ?_ (hop := fun _ => o_load1 (1) (0 + Int.toNat (IntKind.wrap IntKind.i64 ((↑(k + 1) : Int) - 1)) * 1) u0)
          refine kp 11 (.int IntKind.i64 (↑(nd f to st k) : Int)) ?_
          refine WpOps.nil (thenK_at (Wp.seq (Wp.seq (Wp.text ?_))))
          refine kp 26 (.int IntKind.i64 (↑(nd f to st k) : Int)) ?_
          refine kp 27 (.int IntKind.i64 (↑to : Int)) ?_
          refine kp 28 (.bool false) ?_ (hop := fun _ => by_fact e1)
          refine WpOps.nil (thenK_at (off' (Wp.skip (thenK_at (Wp.seq (Wp.text ?_))))))
          refine kp 30 (.iface 92 (Value.iface n (Value.iface 0 (Value.agg (List.toArray (List.map (fun r => FS 93 n 0 (List.toArray r)) (rowsM n f))))))) ?_
          refine kp 31 (.int IntKind.i64 (↑(nd f to st k) : Int)) ?_
          refine kp 32 (.iface 92 (Value.iface (Int.toNat (↑(nd f to st k) : Int) * 1) (Value.agg (List.toArray (List.map (fun r => FS 93 n 0 (List.toArray r)) (rowsM n f)))))) ?_ (hop := fun _ => o_indexI (e := 92) (size := 1) (a := (↑(nd f to st k) : Int)) g1)
          refine kp 33 (.iface 93 (Value.iface n (Value.iface 0 (Value.agg (List.toArray (rcs (List.map (f (nd f to st k)) (List.range n)))))))) ?_ (hop := fun _ => o_loadI1 (Int.toNat (↑(nd f to st k) : Int) * 1) u1)
          refine kp 34 (.int IntKind.i64 (↑to : Int)) ?_
          refine kp 35 (.iface 93 (Value.iface (Int.toNat (↑to : Int) * 2) (Value.agg (List.toArray (rcs (List.map (f (nd f to st k)) (List.range n))))))) ?_ (hop := fun _ => o_indexI (e := 93) (size := 2) (a := (↑to : Int)) g2)
          refine kp 36 (.iface 93 (Value.iface (Int.toNat (↑to : Int) * 2 + 1) (Value.agg (List.toArray (rcs (List.map (f (nd f to st k)) (List.range n))))))) ?_
          refine kp 37 (.int IntKind.i64 (↑(nd f to st (k + 1)) : Int)) ?_ (hop := fun _ => o_loadI1 (Int.toNat (↑to : Int) * 2 + 1) u2)
          refine kp 12 (.int IntKind.i64 (↑(nd f to st (k + 1)) : Int)) ?_
          refine WpOps.nil (thenK_at (Wp.seq (Wp.seq (Wp.text ?_))))
          refine kp 38 (.int IntKind.i64 (↑(nd f to st (k + 1)) : Int)) ?_
          refine kp 39 (.bool (decide ((↑(nd f to st (k + 1)) : Int) < 0))) ?_
          refine kp 40 (.bool (decide ((↑(nd f to st (k + 1)) : Int) < 0))) ?_
          refine kp 41 (.agg #[Value.int .i64 (↑n : Int), Value.iface 48 (Value.iface (List.length ls) (Value.iface x (Value.agg (List.toArray (lcs ls)))))]) ?_
          refine kp 42 (.int IntKind.i64 (↑(nd f to st k) : Int)) ?_
          refine kp 43 (.int IntKind.i64 (↑(nd f to st (k + 1)) : Int)) ?_
          refine fr 44 52 [Value.agg #[Value.int .i64 (↑n : Int), Value.iface 48 (Value.iface (List.length ls) (Value.iface x (Value.agg (List.toArray (lcs ls)))))], Value.int .i64 (↑(nd f to st k) : Int), Value.int .i64 (↑(nd f to st (k + 1)) : Int)] ?_
          refine WpFun.of (c3) ?_
          refine kp 45 (.bool false) ?_ (hop := fun _ => by_fact e3)
          refine kp 46 (.bool false) ?_ (hop := fun _ => o_pickF e2)
          refine WpOps.nil (thenK_at (off' (Wp.skip (thenK_at (Wp.text ?_)))))
          refine kp 48 (.slice (some ⟨1, 0, none⟩) (k + 1) (k + 1)) ?_
          refine kp 49 (.int IntKind.i64 (↑(nd f to st (k + 1)) : Int)) ?_
          refine md 50 (.slice (some ⟨2, 0, none⟩) 1 1) (Blk.mk 3 true [Value.int .i64 (↑(nd f to st (k + 1)) : Int)]) ?_
          refine ra 51 (.slice (some ⟨3, 0, none⟩) (k + 1 + 1) (k + 1 + 1)) (1) (Blk.mk 3 true (pathL f to st k ++ [Value.int .i64 (↑(nd f to st (k + 1)) : Int)])) ?_ (hop := fun _ => o_append (e := 3) (1) (0) (k + 1) _ (k + 1) b1 b2 b3)
          refine kp 10 (.slice (some ⟨3, 0, none⟩) (k + 1 + 1) (k + 1 + 1)) ?_
          refine WpOps.nil (blockK_norm (thenK_at ?_))
          exact ⟨k + 1, by omega, ⟨by omega, upto' hp hh⟩, View.of [0, 3] [nrf n x ls, ⟨3, true, pathL f to st (k + 1)⟩] _ (by decide) rfl ⟨⟨[.int .i64 n, lks x ls], by kernel_rfl, by kernel_rfl, by kernel_rfl⟩, ⟨_, by kernel_rfl, CellsOk.eq (pathL_snoc f to st k) (pathL_flat _ _ _ _)⟩, trivial⟩ ⟨⟨by kernel_rfl, rfl⟩, ⟨by kernel_rfl, rfl⟩, ⟨by kernel_rfl, rfl⟩, ⟨by kernel_rfl, rfl⟩, trivial⟩⟩
  · obtain rfl : k = n := by omega
    have d1 : decide (((k + 1 : Nat) : Int) ≤ k) = false := decide_eq_false (by omega)
    unfold matF nrf lks
    by_cases ha : nd f to st k = to
    · have e1 : (((nd f to st k : Nat) : Int) == (to : Int)) = true := beq_iff_eq.2 (by omega)
      refine Wp.seq (Wp.seq (Wp.text ?_))
      refine kp 15 (.slice (some ⟨1, 0, none⟩) (k + 1) (k + 1)) ?_
      refine kp 16 (.int IntKind.i64 (↑(k + 1) : Int)) ?_
      refine kp 17 (.pointer (some ⟨0, 0, none⟩)) ?_
      refine kp 18 (.int IntKind.i64 (↑k : Int)) ?_
      refine kp 19 (.bool false) ?_ (hop := fun _ => by_fact d1)
      refine WpOps.nil (thenK_at (off' (Wp.exit (thenK_exit (thenK_exit (blockK_hit (thenK_at (Wp.seq (Wp.seq (Wp.text ?_))))))))))
      refine kp 52 (.slice (some ⟨1, 0, none⟩) (k + 1) (k + 1)) ?_
      refine kp 53 (.slice (some ⟨1, 0, none⟩) (k + 1) (k + 1)) ?_
      refine kp 54 (.int IntKind.i64 (↑(k + 1) : Int)) ?_
      refine kp 55 (.int IntKind.i64 (IntKind.wrap .i64 ((↑(k + 1) : Int) - 1))) ?_
      refine kp 56 (.pointer (some (Addr.mk 1 (0 + Int.toNat (IntKind.wrap .i64 ((↑(k + 1) : Int) - 1)) * 1) none))) ?_ (hop := fun _ => o_indexAddr (a := IntKind.wrap IntKind.i64 ((↑(k + 1) : Int) - 1)) (bl := 1) (off := 0) (size := 1) 3 (k + 1) g0)
      refine kp 57 (.int IntKind.i64 (↑(nd f to st k) : Int)) ?_ (hop := fun _ => o_load1 (1) (0 + Int.toNat (IntKind.wrap IntKind.i64 ((↑(k + 1) : Int) - 1)) * 1) u0)
      refine kp 58 (.int IntKind.i64 (↑to : Int)) ?_
      refine kp 59 (.bool true) ?_ (hop := fun _ => by_fact e1)
      refine WpOps.nil (thenK_at (on' (Wp.seq (Wp.text ?_))))
      refine kp 60 (.slice (some ⟨1, 0, none⟩) (k + 1) (k + 1)) ?_
      refine kp 8 (.slice (some ⟨1, 0, none⟩) (k + 1) (k + 1)) ?_
      refine kp 9 (.int IntKind.i64 0) ?_
      refine WpOps.nil (thenK_at (Wp.ret (thenK_ret ?_)))
      refine endK_retn [Value.slice (some (Addr.mk 1 0 none)) (k + 1) (k + 1), Value.int IntKind.i64 0] (Value.tuple #[Value.slice (some (Addr.mk 1 0 none)) (k + 1) (k + 1), Value.int IntKind.i64 0]) (by kernel_rfl) (by kernel_rfl) ?_
      have hw : howP k c f to st = 0 := by
        unfold howP
        rw [stopP_end hp, if_pos ha]
      rw [hw, stopP_end hp]
      exact tup2_ice (path_ice (by kernel_rfl) (by rw [pathL_len]; omega) (pathL_flat _ _ _ _)) rfl
    · have e1 : (((nd f to st k : Nat) : Int) == (to : Int)) = false := beq_eq_false_iff_ne.2 (by omega)
      refine Wp.seq (Wp.seq (Wp.text ?_))
      refine kp 15 (.slice (some ⟨1, 0, none⟩) (k + 1) (k + 1)) ?_
      refine kp 16 (.int IntKind.i64 (↑(k + 1) : Int)) ?_
      refine kp 17 (.pointer (some ⟨0, 0, none⟩)) ?_
      refine kp 18 (.int IntKind.i64 (↑k : Int)) ?_
      refine kp 19 (.bool false) ?_ (hop := fun _ => by_fact d1)
      refine WpOps.nil (thenK_at (off' (Wp.exit (thenK_exit (thenK_exit (blockK_hit (thenK_at (Wp.seq (Wp.seq (Wp.text ?_))))))))))
      refine kp 52 (.slice (some ⟨1, 0, none⟩) (k + 1) (k + 1)) ?_
      refine kp 53 (.slice (some ⟨1, 0, none⟩) (k + 1) (k + 1)) ?_
      refine kp 54 (.int IntKind.i64 (↑(k + 1) : Int)) ?_
      refine kp 55 (.int IntKind.i64 (IntKind.wrap .i64 ((↑(k + 1) : Int) - 1))) ?_
      refine kp 56 (.pointer (some (Addr.mk 1 (0 + Int.toNat (IntKind.wrap .i64 ((↑(k + 1) : Int) - 1)) * 1) none))) ?_ (hop := fun _ => o_indexAddr (a := IntKind.wrap IntKind.i64 ((↑(k + 1) : Int) - 1)) (bl := 1) (off := 0) (size := 1) 3 (k + 1) g0)
      refine kp 57 (.int IntKind.i64 (↑(nd f to st k) : Int)) ?_ (hop := fun _ => o_load1 (1) (0 + Int.toNat (IntKind.wrap IntKind.i64 ((↑(k + 1) : Int) - 1)) * 1) u0)
      refine kp 58 (.int IntKind.i64 (↑to : Int)) ?_
      refine kp 59 (.bool false) ?_ (hop := fun _ => by_fact e1)
      refine WpOps.nil (thenK_at (off' (Wp.skip (thenK_at (Wp.seq (Wp.text ?_))))))
      refine kp 61 (.slice (some ⟨1, 0, none⟩) (k + 1) (k + 1)) ?_
      refine kp 8 (.slice (some ⟨1, 0, none⟩) (k + 1) (k + 1)) ?_
      refine kp 9 (.int IntKind.i64 2) ?_
      refine WpOps.nil (thenK_at (Wp.ret ?_))
      refine endK_retn [Value.slice (some (Addr.mk 1 0 none)) (k + 1) (k + 1), Value.int IntKind.i64 2] (Value.tuple #[Value.slice (some (Addr.mk 1 0 none)) (k + 1) (k + 1), Value.int IntKind.i64 2]) (by kernel_rfl) (by kernel_rfl) ?_
      have hw : howP k c f to st = 2 := by
        unfold howP
        rw [stopP_end hp, if_neg ha, if_neg (by omega)]
      rw [hw, stopP_end hp]
      exact tup2_ice (path_ice (by kernel_rfl) (by rw [pathL_len]; omega) (pathL_flat _ _ _ _)) rfl
end Go.Proofs.Ytfjkanjmggbofaa.D
