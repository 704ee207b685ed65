/- The least costs, of the document. -/
import Derived.Test.YtfjkanjmggbofaaFwLem
import Derived.Test.YtfjkanjmggbofaaFwCons
import Derived.Test.YtfjkanjmggbofaaV12t
namespace Go.Proofs.Ytfjkanjmggbofaa.D
open Go.Fw Go.RowKit

/-- The first cells of a row. -/
def crow (d : Mx) (i j : Nat) : List Value := (List.range j).map fun b => Value.int .i64 (d i b)
theorem crow_flat (d : Mx) (i j : Nat) : (crow d i j).all flat = true := by
  rw [List.all_eq_true]
  intro v hv
  obtain ⟨b, _, rfl⟩ := List.mem_map.1 hv
  rfl
theorem crow_len (d : Mx) (i j : Nat) : (crow d i j).length = j := by simp [crow]
theorem crow_snoc {d : Mx} {i j : Nat} {v : Int} (h : d i j = v) : crow d i j ++ [.int .i64 v] = crow d i (j + 1) := by
  unfold crow
  rw [List.range_succ, List.map_append, ← h]
  rfl
def crows (d : Mx) (N i : Nat) : List (List Value) := (matC N d).take i
theorem crows_len {d : Mx} {N i : Nat} (h : i ≤ N) : (crows d N i).length = i := by unfold crows; rw [List.length_take, matC_len]; omega
theorem crows_flat {d : Mx} {N i : Nat} {r : List Value} (h : r ∈ crows d N i) : r.all flat = true := matC_flat (List.mem_of_mem_take h)
theorem crows_snoc {d : Mx} {N i : Nat} (h : i < N) : crows d N i ++ [crow d i N] = crows d N (i + 1) := by
  unfold crows
  rw [List.take_add_one, matC_at h]
  rfl
/-- The memory ahead of row i. -/
def pH (N x : Nat) (ls : List Lk) (d : Mx) (i : Nat) : Heap := if i = 0 then heapOf [nrf N x ls] else mH [nrf N x ls, ⟨61, true, rowsV 2 N i⟩] 3 (crows d N i)
/-- .. with j costs of row i. -/
def qH (N x : Nat) (ls : List Lk) (d : Mx) (i j : Nat) : Heap := if j = 0 then mH [nrf N x ls, ⟨61, true, rowsV 2 N i⟩] 3 (crows d N i) else mH [nrf N x ls, ⟨61, true, rowsV 2 N i⟩] 3 (crows d N i ++ [crow d i j])
theorem pH_z {N x : Nat} {ls : List Lk} {d : Mx} {i : Nat} (h : i = 0) : pH N x ls d i = heapOf [nrf N x ls] := if_pos h
theorem pH_own {N x : Nat} {ls : List Lk} {d : Mx} {i : Nat} (h : ¬ i = 0) : pH N x ls d i = mH [nrf N x ls, ⟨61, true, rowsV 2 N i⟩] 3 (crows d N i) := if_neg h
theorem qH_z {N x : Nat} {ls : List Lk} {d : Mx} {i j : Nat} (h : j = 0) : qH N x ls d i j = mH [nrf N x ls, ⟨61, true, rowsV 2 N i⟩] 3 (crows d N i) := if_pos h
theorem qH_own {N x : Nat} {ls : List Lk} {d : Mx} {i j : Nat} (h : ¬ j = 0) : qH N x ls d i j = mH [nrf N x ls, ⟨61, true, rowsV 2 N i⟩] 3 (crows d N i ++ [crow d i j]) := if_neg h
theorem qH_last {N x : Nat} {ls : List Lk} {d : Mx} {i j : Nat} (hi : i ≤ N) : (mH [nrf N x ls, ⟨61, true, rowsV 2 N i⟩] 3 (crows d N i ++ [crow d i j])).get (i + 2) = some ⟨3, true, crow d i j⟩ := mH_row (pre := [nrf N x ls, ⟨61, true, rowsV 2 N i⟩]) (by rw [List.getElem?_append_right (by rw [crows_len hi]; exact Nat.le_refl _), crows_len hi, Nat.sub_self]; rfl)
theorem qH_row {N x : Nat} {ls : List Lk} {d : Mx} {i j k : Nat} {r : List Value} (h : (crows d N i)[k]? = some r) : (mH [nrf N x ls, ⟨61, true, rowsV 2 N i⟩] 3 (crows d N i ++ [crow d i j])).get (k + 2) = some ⟨3, true, r⟩ := mH_row (pre := [nrf N x ls, ⟨61, true, rowsV 2 N i⟩]) (by rw [List.getElem?_append_left (List.getElem?_eq_some_iff.1 h).1]; exact h)
theorem pH_row {N x : Nat} {ls : List Lk} {d : Mx} {i k : Nat} {r : List Value} (h : (crows d N i)[k]? = some r) : (mH [nrf N x ls, ⟨61, true, rowsV 2 N i⟩] 3 (crows d N i)).get (k + 2) = some ⟨3, true, r⟩ := mH_row (pre := [nrf N x ls, ⟨61, true, rowsV 2 N i⟩]) h
theorem f24 : E.funcs 24 = some Try.f24 := by kernel_rfl
theorem best24_bad (N : Int) (x : Nat) (ls : List Lk) (hv : Fun E 26 [netV N x ls] (.bool false)) : Fun E 24 [netV N x ls] (.tuple #[FS 61 0 2 #[], .int .i64 1]) := by
  refine Fun.ofN f24 rfl (of_decide_eq_true (by kernel_rfl)) (by kernel_rfl) ?_
  unfold netV at hv ⊢
  unfold lks at hv ⊢
  refine Wp.seq (Wp.text ?_)
  refine md 1 (.pointer (some ⟨0, 0, none⟩)) (Blk.mk 34 true [Value.int .i64 N, Value.iface 48 (Value.iface (List.length ls) (Value.iface x (Value.agg (List.toArray (lcs ls)))))]) ?_
  refine kp 2 (.slice none 0 0) ?_
  refine kp 3 (.int IntKind.i64 0) ?_
  refine WpOps.nil (thenK_at (Wp.seq (Wp.seq (Wp.text ?_))))
  refine kp 12 (.agg #[Value.int .i64 N, Value.iface 48 (Value.iface (List.length ls) (Value.iface x (Value.agg (List.toArray (lcs ls)))))]) ?_
  refine fr 13 26 [Value.agg #[Value.int .i64 N, Value.iface 48 (Value.iface (List.length ls) (Value.iface x (Value.agg (List.toArray (lcs ls)))))]] ?_
  refine WpFun.of (hv) ?_
  refine kp 14 (.bool true) ?_
  refine WpOps.nil (thenK_at (on' (Wp.seq (Wp.text ?_))))
  refine kp 2 (.slice none 0 0) ?_
  refine kp 3 (.int IntKind.i64 1) ?_
  refine WpOps.nil (thenK_at (Wp.ret (thenK_ret ?_)))
  refine endK_retn [Value.slice none 0 0, Value.int IntKind.i64 1] (Value.tuple #[Value.slice none 0 0, Value.int IntKind.i64 1]) (by kernel_rfl) (by kernel_rfl) ?_
  have h61 : (E.types 61).map TI.size = some 1 := by kernel_rfl
  obtain ⟨ti, ht, _⟩ := Option.map_eq_some_iff.1 h61
  exact ⟨_, by kernel_rfl, .tuple (.cons (.c (.inr ⟨rfl, 61, ti, ht, rfl⟩)) (.cons (.c (.inl rfl)) .nil))⟩
set_option maxHeartbeats 8000000 in
theorem best24 (N x : Nat) (ls : List Lk) (g : Good N ls) (hz : ls.length ≤ 17592186044416) (hv : Fun E 26 [netV N x ls] (.bool true)) : Fun E 24 [netV N x ls] (.tuple #[matF 61 3 N (matC N (rall N (d0 (cF ls)) N)), .int .i64 0]) := by
  refine Fun.of f24 rfl (of_decide_eq_true (by kernel_rfl)) rfl ?_
  have hN := g.hN
  have c1 : ∀ i v : Nat, Fun E 52 [netV N x ls, .int .i64 i, .int .i64 v] (.int .i64 (cF ls i v)) := fun i v => cost52 N x ls i v hz
  have hcr := g.range
  have hcd := g.diag
  generalize cF ls = c at c1 hcr hcd ⊢
  have hb0 := bnd_d0 hcr
  have hd1 : ∀ i j, i = j → d0 c i j = 0 := fun i j h => by subst h; unfold d0; rw [if_neg (by simp)]; exact hcd i
  have hd2 : ∀ i j, ¬ i = j → c i j = 0 → d0 c i j = 16 := fun i j h h0 => if_pos ⟨h0, h⟩
  have hd3 : ∀ i j, ¬ i = j → ¬ c i j = 0 → d0 c i j = c i j := fun i j h h0 => if_neg fun h1 => h0 h1.1
  generalize d0 c = d at hb0 hd1 hd2 hd3 ⊢
  unfold netV at c1 hv ⊢
  unfold lks at c1 hv ⊢
  refine Wp.seq (Wp.text ?_)
  refine md 1 (.pointer (some ⟨0, 0, none⟩)) (Blk.mk 34 true [Value.int .i64 (↑N : Int), Value.iface 48 (Value.iface (List.length ls) (Value.iface x (Value.agg (List.toArray (lcs ls)))))]) ?_
  refine kp 2 (.slice none 0 0) ?_
  refine kp 3 (.int IntKind.i64 0) ?_
  refine WpOps.nil (thenK_at (Wp.seq (Wp.seq (Wp.text ?_))))
  refine kp 12 (.agg #[Value.int .i64 (↑N : Int), Value.iface 48 (Value.iface (List.length ls) (Value.iface x (Value.agg (List.toArray (lcs ls)))))]) ?_
  refine fr 13 26 [Value.agg #[Value.int .i64 (↑N : Int), Value.iface 48 (Value.iface (List.length ls) (Value.iface x (Value.agg (List.toArray (lcs ls)))))]] ?_
  refine WpFun.of (hv) ?_
  refine kp 14 (.bool false) ?_
  refine WpOps.nil (thenK_at (off' (Wp.skip (thenK_at (Wp.seq (Wp.text ?_))))))
  refine kp 4 (.slice none 0 0) ?_
  refine WpOps.nil (thenK_at (Wp.seq (Wp.seq (Wp.text ?_))))
  refine kp 5 (.int IntKind.i64 0) ?_
  refine WpOps.nil (thenK_at (Wp.block ?_))
  refine Wp.loop (G := Nat) (fun i => layj [(1, .pointer (some ⟨0, 0, none⟩)), (4, oV 1 i), (5, .int .i64 i)]) (fun i => pH N x ls d i) (fun i => N - i) (fun i => i ≤ N) 0
    (View.of [0] [nrf N x ls] _ (by decide) rfl ⟨⟨[.int .i64 N, lks x ls], by kernel_rfl, by kernel_rfl, by kernel_rfl⟩, trivial⟩ ⟨⟨by kernel_rfl, rfl⟩, ⟨by kernel_rfl, rfl⟩, ⟨by kernel_rfl, rfl⟩, trivial⟩) (Nat.zero_le _) ?_
  intro i hi
  by_cases hlt : i < N
  · have d1 : decide ((i : Int) < N) = true := decide_eq_true (by omega)
    by_cases hi0 : i = 0
    · rw [oV_z hi0, pH_z hi0]
      unfold nrf lks
      refine Wp.seq (Wp.seq (Wp.text ?_))
      refine kp 15 (.int IntKind.i64 (↑i : Int)) ?_
      refine kp 16 (.pointer (some ⟨0, 0, none⟩)) ?_
      refine kp 17 (.int IntKind.i64 (↑N : Int)) ?_
      refine kp 18 (.bool true) ?_ (hop := fun _ => by_fact d1)
      refine WpOps.nil (thenK_at (on' (Wp.skip (thenK_at (Wp.seq (Wp.block (Wp.seq (Wp.text ?_))))))))
      refine kp 6 (.slice none 0 0) ?_
      refine WpOps.nil (thenK_at (Wp.seq (Wp.seq (Wp.text ?_))))
      refine kp 7 (.int IntKind.i64 0) ?_
      refine WpOps.nil (thenK_at (Wp.block ?_))
      refine Wp.loop (G := Nat) (fun j => layj [(1, .pointer (some ⟨0, 0, none⟩)), (4, .slice none 0 0), (5, .int .i64 i), (6, oV 1 j), (7, .int .i64 j)]) (fun j => heapOf (nrf N x ls :: oB 3 j (crow d i j))) (fun j => N - j) (fun j => j ≤ N) 0
        (View.of [0] [nrf N x ls] _ (by decide) rfl ⟨⟨[.int .i64 N, lks x ls], by kernel_rfl, by kernel_rfl, by kernel_rfl⟩, trivial⟩ ⟨⟨by kernel_rfl, rfl⟩, ⟨by kernel_rfl, rfl⟩, ⟨by kernel_rfl, rfl⟩, ⟨by kernel_rfl, rfl⟩, ⟨by kernel_rfl, rfl⟩, trivial⟩) (Nat.zero_le _) ?_
      intro j hj
      by_cases hlt2 : j < N
      · have d2 : decide ((j : Int) < N) = true := decide_eq_true (by omega)
        have c2 := c1 i j
        by_cases hj0 : j = 0
        · rw [oV_z hj0, oB_z hj0]
          have e1 : ((i : Int) == (j : Int)) = true := beq_iff_eq.2 (by omega)
          have e3 := crow_snoc (hd1 i j (by omega))
          have e0 : c i j = 0 := by rw [show i = j by omega]; exact hcd j
          rw [e0] at c2
          clear c1
          unfold nrf lks
          refine Wp.seq (Wp.seq (Wp.text ?_))
          refine kp 21 (.int IntKind.i64 (↑j : Int)) ?_
          refine kp 22 (.pointer (some ⟨0, 0, none⟩)) ?_
          refine kp 23 (.int IntKind.i64 (↑N : Int)) ?_
          refine kp 24 (.bool true) ?_ (hop := fun _ => by_fact d2)
          refine WpOps.nil (thenK_at (on' (Wp.skip (thenK_at (Wp.seq (Wp.block (Wp.seq (Wp.text ?_))))))))
          refine kp 27 (.agg #[Value.int .i64 (↑N : Int), Value.iface 48 (Value.iface (List.length ls) (Value.iface x (Value.agg (List.toArray (lcs ls)))))]) ?_
          refine kp 28 (.int IntKind.i64 (↑i : Int)) ?_
          refine kp 29 (.int IntKind.i64 (↑j : Int)) ?_
          refine fr 30 52 [Value.agg #[Value.int .i64 (↑N : Int), Value.iface 48 (Value.iface (List.length ls) (Value.iface x (Value.agg (List.toArray (lcs ls)))))], Value.int .i64 (↑i : Int), Value.int .i64 (↑j : Int)] ?_
          refine WpFun.of (c2) ?_
          refine kp 8 (.int IntKind.i64 0) ?_
          refine WpOps.nil (thenK_at (Wp.seq (Wp.seq (Wp.text ?_))))
          refine kp 31 (.int IntKind.i64 0) ?_
          refine kp 32 (.bool true) ?_
          refine WpOps.nil (thenK_at (on' (Wp.text ?_)))
          refine kp 8 (.int IntKind.i64 16) ?_
          refine WpOps.nil (thenK_at (Wp.seq (Wp.seq (Wp.text ?_))))
          refine kp 33 (.int IntKind.i64 (↑i : Int)) ?_
          refine kp 34 (.int IntKind.i64 (↑j : Int)) ?_
          refine kp 35 (.bool true) ?_ (hop := fun _ => by_fact e1)
          refine WpOps.nil (thenK_at (on' (Wp.text ?_)))
          refine kp 8 (.int IntKind.i64 0) ?_
          refine WpOps.nil (thenK_at (Wp.text ?_))
          refine kp 36 (.slice none 0 0) ?_
          refine kp 37 (.int IntKind.i64 0) ?_
          refine md 38 (.slice (some ⟨1, 0, none⟩) 1 1) (Blk.mk 3 true [Value.int .i64 0]) ?_
          refine md 39 (.slice (some ⟨2, 0, none⟩) 1 1) (Blk.mk 3 true [Value.int .i64 0]) ?_
          refine kp 6 (.slice (some ⟨2, 0, none⟩) 1 1) ?_
          refine WpOps.nil (blockK_norm (thenK_at (Wp.text ?_)))
          refine kp 25 (.int IntKind.i64 (↑j : Int)) ?_
          refine kp 26 (.int IntKind.i64 (IntKind.wrap .i64 ((↑j : Int) + 1))) ?_
          refine kp 7 (.int IntKind.i64 (IntKind.wrap .i64 ((↑j : Int) + 1))) ?_
          refine WpOps.nil (thenK_at ?_)
          subst hj0
          refine ⟨0 + 1, by omega, by omega, ?_⟩
          try dsimp only
          rw [oV_own (by omega), oB_own (by omega)]
          exact View.of [0, 2] [nrf N x ls, ⟨3, true, crow d i (0 + 1)⟩] _ (by decide) rfl ⟨⟨[.int .i64 N, lks x ls], by kernel_rfl, by kernel_rfl, by kernel_rfl⟩, ⟨_, by kernel_rfl, CellsOk.eq e3 (crow_flat _ _ _)⟩, trivial⟩ ⟨⟨by kernel_rfl, rfl⟩, ⟨by kernel_rfl, rfl⟩, ⟨by kernel_rfl, rfl⟩, ⟨by kernel_rfl, rfl⟩, ⟨by kernel_rfl, rfl⟩, trivial⟩
        · rw [oV_own hj0, oB_own hj0]
          have e1 : ((i : Int) == (j : Int)) = false := beq_eq_false_iff_ne.2 (by omega)
          have b1 : ¬ (j + 1 ≤ j) := by omega
          have b2 : 1 ≤ 8 ∧ (j + 1) * 8 ≤ 140737488355328 ∧ 1 = 1 ∧ j + 1 ≤ 9223372036854775807 := by omega
          have b3 := cells_whole (crow d i j) (j * 1) (by rw [crow_len]; omega)
          by_cases e0 : c i j = 0
          · have e3 := crow_snoc (hd2 i j (by omega) e0)
            rw [e0] at c2
            clear c1
            unfold nrf lks
            refine Wp.seq (Wp.seq (Wp.text ?_))
            refine kp 21 (.int IntKind.i64 (↑j : Int)) ?_
            refine kp 22 (.pointer (some ⟨0, 0, none⟩)) ?_
            refine kp 23 (.int IntKind.i64 (↑N : Int)) ?_
            refine kp 24 (.bool true) ?_ (hop := fun _ => by_fact d2)
            refine WpOps.nil (thenK_at (on' (Wp.skip (thenK_at (Wp.seq (Wp.block (Wp.seq (Wp.text ?_))))))))
            refine kp 27 (.agg #[Value.int .i64 (↑N : Int), Value.iface 48 (Value.iface (List.length ls) (Value.iface x (Value.agg (List.toArray (lcs ls)))))]) ?_
            refine kp 28 (.int IntKind.i64 (↑i : Int)) ?_
            refine kp 29 (.int IntKind.i64 (↑j : Int)) ?_
            refine fr 30 52 [Value.agg #[Value.int .i64 (↑N : Int), Value.iface 48 (Value.iface (List.length ls) (Value.iface x (Value.agg (List.toArray (lcs ls)))))], Value.int .i64 (↑i : Int), Value.int .i64 (↑j : Int)] ?_
            refine WpFun.of (c2) ?_
            refine kp 8 (.int IntKind.i64 0) ?_
            refine WpOps.nil (thenK_at (Wp.seq (Wp.seq (Wp.text ?_))))
            refine kp 31 (.int IntKind.i64 0) ?_
            refine kp 32 (.bool true) ?_
            refine WpOps.nil (thenK_at (on' (Wp.text ?_)))
            refine kp 8 (.int IntKind.i64 16) ?_
            refine WpOps.nil (thenK_at (Wp.seq (Wp.seq (Wp.text ?_))))
            refine kp 33 (.int IntKind.i64 (↑i : Int)) ?_
            refine kp 34 (.int IntKind.i64 (↑j : Int)) ?_
            refine kp 35 (.bool false) ?_ (hop := fun _ => by_fact e1)
            refine WpOps.nil (thenK_at (off' (Wp.skip (thenK_at (Wp.text ?_)))))
            refine kp 36 (.slice (some ⟨1, 0, none⟩) j j) ?_
            refine kp 37 (.int IntKind.i64 16) ?_
            refine md 38 (.slice (some ⟨2, 0, none⟩) 1 1) (Blk.mk 3 true [Value.int .i64 16]) ?_
            refine ra 39 (.slice (some ⟨3, 0, none⟩) (j + 1) (j + 1)) (1) (Blk.mk 3 true (crow d i j ++ [Value.int .i64 16])) ?_ (hop := fun _ => o_append (e := 3) (1) (0) (j) _ (j) b1 b2 b3)
            refine kp 6 (.slice (some ⟨3, 0, none⟩) (j + 1) (j + 1)) ?_
            refine WpOps.nil (blockK_norm (thenK_at (Wp.text ?_)))
            refine kp 25 (.int IntKind.i64 (↑j : Int)) ?_
            refine kp 26 (.int IntKind.i64 (IntKind.wrap .i64 ((↑j : Int) + 1))) ?_
            refine kp 7 (.int IntKind.i64 (IntKind.wrap .i64 ((↑j : Int) + 1))) ?_
            refine WpOps.nil (thenK_at ?_)
            refine ⟨j + 1, by omega, by omega, ?_⟩
            try dsimp only
            rw [oV_own (by omega), oB_own (by omega)]
            exact View.of [0, 3] [nrf N x ls, ⟨3, true, crow d i (j + 1)⟩] _ (by decide) rfl ⟨⟨[.int .i64 N, lks x ls], by kernel_rfl, by kernel_rfl, by kernel_rfl⟩, ⟨_, by kernel_rfl, CellsOk.eq e3 (crow_flat _ _ _)⟩, trivial⟩ ⟨⟨by kernel_rfl, rfl⟩, ⟨by kernel_rfl, rfl⟩, ⟨by kernel_rfl, rfl⟩, ⟨by kernel_rfl, rfl⟩, ⟨congrArg (Value.int .i64) (wr _ (by omega) (by omega)), rfl⟩, trivial⟩
          · have e3 := crow_snoc (hd3 i j (by omega) e0)
            have e4 : (c i j == 0) = false := by simpa using e0
            clear c1
            unfold nrf lks
            refine Wp.seq (Wp.seq (Wp.text ?_))
            refine kp 21 (.int IntKind.i64 (↑j : Int)) ?_
            refine kp 22 (.pointer (some ⟨0, 0, none⟩)) ?_
            refine kp 23 (.int IntKind.i64 (↑N : Int)) ?_
            refine kp 24 (.bool true) ?_ (hop := fun _ => by_fact d2)
            refine WpOps.nil (thenK_at (on' (Wp.skip (thenK_at (Wp.seq (Wp.block (Wp.seq (Wp.text ?_))))))))
            refine kp 27 (.agg #[Value.int .i64 (↑N : Int), Value.iface 48 (Value.iface (List.length ls) (Value.iface x (Value.agg (List.toArray (lcs ls)))))]) ?_
            refine kp 28 (.int IntKind.i64 (↑i : Int)) ?_
            refine kp 29 (.int IntKind.i64 (↑j : Int)) ?_
            refine fr 30 52 [Value.agg #[Value.int .i64 (↑N : Int), Value.iface 48 (Value.iface (List.length ls) (Value.iface x (Value.agg (List.toArray (lcs ls)))))], Value.int .i64 (↑i : Int), Value.int .i64 (↑j : Int)] ?_
            refine WpFun.of (c2) ?_
            refine kp 8 (.int IntKind.i64 (c i j)) ?_
            refine WpOps.nil (thenK_at (Wp.seq (Wp.seq (Wp.text ?_))))
            refine kp 31 (.int IntKind.i64 (c i j)) ?_
            refine kp 32 (.bool false) ?_ (hop := fun _ => by_fact e4)
            refine WpOps.nil (thenK_at (off' (Wp.skip (thenK_at (Wp.seq (Wp.seq (Wp.text ?_)))))))
            refine kp 33 (.int IntKind.i64 (↑i : Int)) ?_
            refine kp 34 (.int IntKind.i64 (↑j : Int)) ?_
            refine kp 35 (.bool false) ?_ (hop := fun _ => by_fact e1)
            refine WpOps.nil (thenK_at (off' (Wp.skip (thenK_at (Wp.text ?_)))))
            refine kp 36 (.slice (some ⟨1, 0, none⟩) j j) ?_
            refine kp 37 (.int IntKind.i64 (c i j)) ?_
            refine md 38 (.slice (some ⟨2, 0, none⟩) 1 1) (Blk.mk 3 true [Value.int .i64 (c i j)]) ?_
            refine ra 39 (.slice (some ⟨3, 0, none⟩) (j + 1) (j + 1)) (1) (Blk.mk 3 true (crow d i j ++ [Value.int .i64 (c i j)])) ?_ (hop := fun _ => o_append (e := 3) (1) (0) (j) _ (j) b1 b2 b3)
            refine kp 6 (.slice (some ⟨3, 0, none⟩) (j + 1) (j + 1)) ?_
            refine WpOps.nil (blockK_norm (thenK_at (Wp.text ?_)))
            refine kp 25 (.int IntKind.i64 (↑j : Int)) ?_
            refine kp 26 (.int IntKind.i64 (IntKind.wrap .i64 ((↑j : Int) + 1))) ?_
            refine kp 7 (.int IntKind.i64 (IntKind.wrap .i64 ((↑j : Int) + 1))) ?_
            refine WpOps.nil (thenK_at ?_)
            refine ⟨j + 1, by omega, by omega, ?_⟩
            try dsimp only
            rw [oV_own (by omega), oB_own (by omega)]
            exact View.of [0, 3] [nrf N x ls, ⟨3, true, crow d i (j + 1)⟩] _ (by decide) rfl ⟨⟨[.int .i64 N, lks x ls], by kernel_rfl, by kernel_rfl, by kernel_rfl⟩, ⟨_, by kernel_rfl, CellsOk.eq e3 (crow_flat _ _ _)⟩, trivial⟩ ⟨⟨by kernel_rfl, rfl⟩, ⟨by kernel_rfl, rfl⟩, ⟨by kernel_rfl, rfl⟩, ⟨by kernel_rfl, rfl⟩, ⟨congrArg (Value.int .i64) (wr _ (by omega) (by omega)), rfl⟩, trivial⟩
      · obtain rfl : j = N := by omega
        have d2 : decide ((j : Int) < j) = false := decide_eq_false (by omega)
        rw [oV_own (by omega), oB_own (by omega)]
        unfold nrf lks
        refine Wp.seq (Wp.seq (Wp.text ?_))
        refine kp 21 (.int IntKind.i64 (↑j : Int)) ?_
        refine kp 22 (.pointer (some ⟨0, 0, none⟩)) ?_
        refine kp 23 (.int IntKind.i64 (↑j : Int)) ?_
        refine kp 24 (.bool false) ?_ (hop := fun _ => by_fact d2)
        refine WpOps.nil (thenK_at (off' (Wp.exit (thenK_exit (thenK_exit (blockK_hit (thenK_at (Wp.text ?_))))))))
        refine kp 40 (.slice none 0 0) ?_
        refine kp 41 (.slice (some ⟨1, 0, none⟩) j j) ?_
        refine md 42 (.slice (some ⟨2, 0, none⟩) 1 1) (Blk.mk 61 true [Value.slice (some ⟨1, 0, none⟩) j j]) ?_
        refine md 43 (.slice (some ⟨3, 0, none⟩) 1 1) (Blk.mk 61 true [Value.slice (some ⟨1, 0, none⟩) j j]) ?_
        refine kp 4 (.slice (some ⟨3, 0, none⟩) 1 1) ?_
        refine WpOps.nil (blockK_norm (thenK_at (Wp.text ?_)))
        refine kp 19 (.int IntKind.i64 (↑i : Int)) ?_
        refine kp 20 (.int IntKind.i64 (IntKind.wrap .i64 ((↑i : Int) + 1))) ?_
        refine kp 5 (.int IntKind.i64 (IntKind.wrap .i64 ((↑i : Int) + 1))) ?_
        refine WpOps.nil (thenK_at ?_)
        subst hi0
        refine ⟨0 + 1, by omega, by omega, ?_⟩
        try dsimp only
        rw [oV_own (by omega), pH_own (by omega)]
        have hs : crows d j (0 + 1) = [crow d 0 j] := by rw [← crows_snoc hlt]; rfl
        rw [hs]
        refine View.of [0, 3, 1] [nrf j x ls, ⟨61, true, rowsV 2 j (0 + 1)⟩, ⟨3, true, crow d 0 j⟩] _ (by decide) rfl ⟨⟨[.int .i64 j, lks x ls], by kernel_rfl, by kernel_rfl, by kernel_rfl⟩, ⟨[.slice (some ⟨1, 0, none⟩) j j], by kernel_rfl, by kernel_rfl, by kernel_rfl⟩, ⟨_, by kernel_rfl, CellsOk.eq rfl (crow_flat _ _ _)⟩, trivial⟩ ⟨⟨by kernel_rfl, rfl⟩, ⟨by kernel_rfl, rfl⟩, ⟨by kernel_rfl, rfl⟩, trivial⟩
    · rw [oV_own hi0, pH_own hi0]
      have n0 : (mH [nrf N x ls, ⟨61, true, rowsV 2 N i⟩] 3 (crows d N i)).get 0 = some ⟨34, true, [.int .i64 N, FS 48 ls.length x (lcs ls).toArray]⟩ := rfl
      refine Wp.seq (Wp.seq (Wp.text ?_))
      refine kp 15 (.int IntKind.i64 (↑i : Int)) ?_
      refine kp 16 (.pointer (some ⟨0, 0, none⟩)) ?_
      refine kp 17 (.int IntKind.i64 (↑N : Int)) ?_
      refine kp 18 (.bool true) ?_ (hop := fun _ => by_fact d1)
      refine WpOps.nil (thenK_at (on' (Wp.skip (thenK_at (Wp.seq (Wp.block (Wp.seq (Wp.text ?_))))))))
      refine kp 6 (.slice none 0 0) ?_
      refine WpOps.nil (thenK_at (Wp.seq (Wp.seq (Wp.text ?_))))
      refine kp 7 (.int IntKind.i64 0) ?_
      refine WpOps.nil (thenK_at (Wp.block ?_))
      refine Wp.loop (G := Nat) (fun j => layj [(1, .pointer (some ⟨0, 0, none⟩)), (4, .slice (some ⟨1, 0, none⟩) i i), (5, .int .i64 i), (6, oV (i + 2) j), (7, .int .i64 j)]) (fun j => qH N x ls d i j) (fun j => N - j) (fun j => j ≤ N) 0
        ?_ (Nat.zero_le _) ?_
      · rw [qH_z rfl]
        refine View.mat [nrf N x ls, ⟨61, true, rowsV 2 N i⟩] 3 (crows d N i) _ (Nat.zero_le _) (pre2 ⟨rfl, rfl⟩ ⟨rfl, rowsV_ok (by simp [crows_len hi])⟩) (fun k r h => ⟨pH_row h, okCs_flat (crows_flat (List.mem_of_getElem? h))⟩) ⟨⟨by kernel_rfl, okV_ptr (by simp; omega)⟩, ⟨by kernel_rfl, okV_sl (by simp; omega)⟩, ⟨by kernel_rfl, rfl⟩, ⟨by kernel_rfl, rfl⟩, ⟨by kernel_rfl, rfl⟩, trivial⟩
      intro j hj
      by_cases hlt2 : j < N
      · have d2 : decide ((j : Int) < N) = true := decide_eq_true (by omega)
        have c2 := c1 i j
        by_cases hj0 : j = 0
        · rw [oV_z hj0, qH_z hj0]
          have e1 : ((i : Int) == (j : Int)) = false := beq_eq_false_iff_ne.2 (by omega)
          have hnx : (mH [nrf N x ls, ⟨61, true, rowsV 2 N i⟩] 3 (crows d N i)).next = i + 2 := by rw [mH_next]; simp [crows_len hi]; omega
          have n1 : ∀ z : Int, ((mH [nrf N x ls, ⟨61, true, rowsV 2 N i⟩] 3 (crows d N i)).alloc ⟨3, true, [.int .i64 z]⟩).get (mH [nrf N x ls, ⟨61, true, rowsV 2 N i⟩] 3 (crows d N i)).next = some ⟨3, true, [.int .i64 z]⟩ := by simp
          by_cases e0 : c i j = 0
          · have e3 := crow_snoc (hd2 i j (by omega) e0)
            have n2 := n1 16
            rw [e0] at c2
            clear c1
            refine Wp.seq (Wp.seq (Wp.text ?_))
            refine kp 21 (.int IntKind.i64 (↑j : Int)) ?_
            refine kp 22 (.pointer (some ⟨0, 0, none⟩)) ?_
            refine kp 23 (.int IntKind.i64 (↑N : Int)) ?_
            refine kp 24 (.bool true) ?_ (hop := fun _ => by_fact d2)
            refine WpOps.nil (thenK_at (on' (Wp.skip (thenK_at (Wp.seq (Wp.block (Wp.seq (Wp.text ?_))))))))
            refine kp 27 (.agg #[Value.int .i64 (↑N : Int), Value.iface 48 (Value.iface (List.length ls) (Value.iface x (Value.agg (List.toArray (lcs ls)))))]) ?_
            refine kp 28 (.int IntKind.i64 (↑i : Int)) ?_
            refine kp 29 (.int IntKind.i64 (↑j : Int)) ?_
            refine fr 30 52 [Value.agg #[Value.int .i64 (↑N : Int), Value.iface 48 (Value.iface (List.length ls) (Value.iface x (Value.agg (List.toArray (lcs ls)))))], Value.int .i64 (↑i : Int), Value.int .i64 (↑j : Int)] ?_
            refine WpFun.of (c2) ?_
            refine kp 8 (.int IntKind.i64 0) ?_
            refine WpOps.nil (thenK_at (Wp.seq (Wp.seq (Wp.text ?_))))
            refine kp 31 (.int IntKind.i64 0) ?_
            refine kp 32 (.bool true) ?_
            refine WpOps.nil (thenK_at (on' (Wp.text ?_)))
            refine kp 8 (.int IntKind.i64 16) ?_
            refine WpOps.nil (thenK_at (Wp.seq (Wp.seq (Wp.text ?_))))
            refine kp 33 (.int IntKind.i64 (↑i : Int)) ?_
            refine kp 34 (.int IntKind.i64 (↑j : Int)) ?_
            refine kp 35 (.bool false) ?_ (hop := fun _ => by_fact e1)
            refine WpOps.nil (thenK_at (off' (Wp.skip (thenK_at (Wp.text ?_)))))
            refine kp 36 (.slice none 0 0) ?_
            refine kp 37 (.int IntKind.i64 16) ?_
            refine md 38 (.slice (some (Addr.mk (Heap.next (mH [nrf N x ls, Blk.mk 61 true (rowsV 2 N i)] 3 (crows d N i))) 0 none)) 1 1) (Blk.mk 3 true [Value.int .i64 16]) ?_
            refine md 39 (.slice (some (Addr.mk (Heap.next (Heap.alloc (mH [nrf N x ls, Blk.mk 61 true (rowsV 2 N i)] 3 (crows d N i)) (Blk.mk 3 true [Value.int .i64 16]))) 0 none)) 1 1) (Blk.mk 3 true [Value.int .i64 16]) ?_ (hop := fun _ => o_append0 (e := 3) (size := 1) (bytes := 8) (zl := 1) _ (of_decide_eq_false (by kernel_rfl)) (of_decide_eq_true (by kernel_rfl)) (by kernel_rfl) (by kernel_rfl) (by kernel_rfl) (src_ofH (Heap.next (mH [nrf N x ls, Blk.mk 61 true (rowsV 2 N i)] 3 (crows d N i))) (0) n2 (by kernel_rfl) (by kernel_rfl) (by kernel_rfl)))
            refine kp 6 (.slice (some (Addr.mk (Heap.next (Heap.alloc (mH [nrf N x ls, Blk.mk 61 true (rowsV 2 N i)] 3 (crows d N i)) (Blk.mk 3 true [Value.int .i64 16]))) 0 none)) 1 1) ?_
            refine WpOps.nil (blockK_norm (thenK_at (Wp.text ?_)))
            refine kp 25 (.int IntKind.i64 (↑j : Int)) ?_
            refine kp 26 (.int IntKind.i64 (IntKind.wrap .i64 ((↑j : Int) + 1))) ?_
            refine kp 7 (.int IntKind.i64 (IntKind.wrap .i64 ((↑j : Int) + 1))) ?_
            refine WpOps.nil (thenK_at ?_)
            subst hj0
            refine ⟨0 + 1, by omega, by omega, ?_⟩
            try dsimp only
            rw [oV_own (by omega), qH_own (by omega)]
            refine View.matL (nrf N x ls) 3 61 N (crows d N i) (crow d i (0 + 1)) i (i + 3) _ (crows_len hi) (by omega) ?_ (nrf_flat _ _ _) ?_ (fun k r h => ⟨?_, crows_flat (List.mem_of_getElem? h)⟩) ?_ (crow_flat _ _ _) ⟨⟨by kernel_rfl, okV_ptr (by omega)⟩, ⟨by kernel_rfl, okV_sl (by omega)⟩, ⟨by kernel_rfl, rfl⟩, ⟨congrArg (fun b => Value.slice (some ⟨b, 0, none⟩) 1 1) (show _ = if i + 2 = i + 2 then i + 3 else i + 2 by rw [if_pos rfl]; simp only [Heap.next_alloc, Heap.next_set, hnx]), okV_sl (by omega)⟩, ⟨congrArg (Value.int .i64) (wr _ (by omega) (by omega)), rfl⟩, trivial⟩
            · rw [Heap.get_alloc, if_neg (by simp only [Heap.next_alloc, Heap.next_set, hnx]; omega), Heap.get_alloc, if_neg (by rw [hnx]; omega)]
              rfl
            · rw [Heap.get_alloc, if_neg (by simp only [Heap.next_alloc, Heap.next_set, hnx]; omega), Heap.get_alloc, if_neg (by rw [hnx]; omega)]
              rfl
            · have hk : k < i := by
                have := (List.getElem?_eq_some_iff.1 h).1
                rwa [crows_len hi] at this
              rw [Heap.get_alloc, if_neg (by simp only [Heap.next_alloc, Heap.next_set, hnx]; omega), Heap.get_alloc, if_neg (by rw [hnx]; omega)]
              exact pH_row h
            · rw [Heap.get_alloc, if_pos (by simp only [Heap.next_alloc, Heap.next_set, hnx]), ← e3]
              rfl
          · have e3 := crow_snoc (hd3 i j (by omega) e0)
            have n2 := n1 (c i j)
            have e4 : (c i j == 0) = false := by simpa using e0
            clear c1
            refine Wp.seq (Wp.seq (Wp.text ?_))
            refine kp 21 (.int IntKind.i64 (↑j : Int)) ?_
            refine kp 22 (.pointer (some ⟨0, 0, none⟩)) ?_
            refine kp 23 (.int IntKind.i64 (↑N : Int)) ?_
            refine kp 24 (.bool true) ?_ (hop := fun _ => by_fact d2)
            refine WpOps.nil (thenK_at (on' (Wp.skip (thenK_at (Wp.seq (Wp.block (Wp.seq (Wp.text ?_))))))))
            refine kp 27 (.agg #[Value.int .i64 (↑N : Int), Value.iface 48 (Value.iface (List.length ls) (Value.iface x (Value.agg (List.toArray (lcs ls)))))]) ?_
            refine kp 28 (.int IntKind.i64 (↑i : Int)) ?_
            refine kp 29 (.int IntKind.i64 (↑j : Int)) ?_
            refine fr 30 52 [Value.agg #[Value.int .i64 (↑N : Int), Value.iface 48 (Value.iface (List.length ls) (Value.iface x (Value.agg (List.toArray (lcs ls)))))], Value.int .i64 (↑i : Int), Value.int .i64 (↑j : Int)] ?_
            refine WpFun.of (c2) ?_
            refine kp 8 (.int IntKind.i64 (c i j)) ?_
            refine WpOps.nil (thenK_at (Wp.seq (Wp.seq (Wp.text ?_))))
            refine kp 31 (.int IntKind.i64 (c i j)) ?_
            refine kp 32 (.bool false) ?_ (hop := fun _ => by_fact e4)
            refine WpOps.nil (thenK_at (off' (Wp.skip (thenK_at (Wp.seq (Wp.seq (Wp.text ?_)))))))
            refine kp 33 (.int IntKind.i64 (↑i : Int)) ?_
            refine kp 34 (.int IntKind.i64 (↑j : Int)) ?_
            refine kp 35 (.bool false) ?_ (hop := fun _ => by_fact e1)
            refine WpOps.nil (thenK_at (off' (Wp.skip (thenK_at (Wp.text ?_)))))
            refine kp 36 (.slice none 0 0) ?_
            refine kp 37 (.int IntKind.i64 (c i j)) ?_
            refine md 38 (.slice (some (Addr.mk (Heap.next (mH [nrf N x ls, Blk.mk 61 true (rowsV 2 N i)] 3 (crows d N i))) 0 none)) 1 1) (Blk.mk 3 true [Value.int .i64 (c i j)]) ?_
            refine md 39 (.slice (some (Addr.mk (Heap.next (Heap.alloc (mH [nrf N x ls, Blk.mk 61 true (rowsV 2 N i)] 3 (crows d N i)) (Blk.mk 3 true [Value.int .i64 (c i j)]))) 0 none)) 1 1) (Blk.mk 3 true [Value.int .i64 (c i j)]) ?_ (hop := fun _ => o_append0 (e := 3) (size := 1) (bytes := 8) (zl := 1) _ (of_decide_eq_false (by kernel_rfl)) (of_decide_eq_true (by kernel_rfl)) (by kernel_rfl) (by kernel_rfl) (by kernel_rfl) (src_ofH (Heap.next (mH [nrf N x ls, Blk.mk 61 true (rowsV 2 N i)] 3 (crows d N i))) (0) n2 (by kernel_rfl) (by kernel_rfl) (by kernel_rfl)))
            refine kp 6 (.slice (some (Addr.mk (Heap.next (Heap.alloc (mH [nrf N x ls, Blk.mk 61 true (rowsV 2 N i)] 3 (crows d N i)) (Blk.mk 3 true [Value.int .i64 (c i j)]))) 0 none)) 1 1) ?_
            refine WpOps.nil (blockK_norm (thenK_at (Wp.text ?_)))
            refine kp 25 (.int IntKind.i64 (↑j : Int)) ?_
            refine kp 26 (.int IntKind.i64 (IntKind.wrap .i64 ((↑j : Int) + 1))) ?_
            refine kp 7 (.int IntKind.i64 (IntKind.wrap .i64 ((↑j : Int) + 1))) ?_
            refine WpOps.nil (thenK_at ?_)
            subst hj0
            refine ⟨0 + 1, by omega, by omega, ?_⟩
            try dsimp only
            rw [oV_own (by omega), qH_own (by omega)]
            refine View.matL (nrf N x ls) 3 61 N (crows d N i) (crow d i (0 + 1)) i (i + 3) _ (crows_len hi) (by omega) ?_ (nrf_flat _ _ _) ?_ (fun k r h => ⟨?_, crows_flat (List.mem_of_getElem? h)⟩) ?_ (crow_flat _ _ _) ⟨⟨by kernel_rfl, okV_ptr (by omega)⟩, ⟨by kernel_rfl, okV_sl (by omega)⟩, ⟨by kernel_rfl, rfl⟩, ⟨congrArg (fun b => Value.slice (some ⟨b, 0, none⟩) 1 1) (show _ = if i + 2 = i + 2 then i + 3 else i + 2 by rw [if_pos rfl]; simp only [Heap.next_alloc, Heap.next_set, hnx]), okV_sl (by omega)⟩, ⟨congrArg (Value.int .i64) (wr _ (by omega) (by omega)), rfl⟩, trivial⟩
            · rw [Heap.get_alloc, if_neg (by simp only [Heap.next_alloc, Heap.next_set, hnx]; omega), Heap.get_alloc, if_neg (by rw [hnx]; omega)]
              rfl
            · rw [Heap.get_alloc, if_neg (by simp only [Heap.next_alloc, Heap.next_set, hnx]; omega), Heap.get_alloc, if_neg (by rw [hnx]; omega)]
              rfl
            · have hk : k < i := by
                have := (List.getElem?_eq_some_iff.1 h).1
                rwa [crows_len hi] at this
              rw [Heap.get_alloc, if_neg (by simp only [Heap.next_alloc, Heap.next_set, hnx]; omega), Heap.get_alloc, if_neg (by rw [hnx]; omega)]
              exact pH_row h
            · rw [Heap.get_alloc, if_pos (by simp only [Heap.next_alloc, Heap.next_set, hnx]), ← e3]
              rfl
        · rw [oV_own hj0, qH_own hj0]
          have n0 : (mH [nrf N x ls, ⟨61, true, rowsV 2 N i⟩] 3 (crows d N i ++ [crow d i j])).get 0 = some ⟨34, true, [.int .i64 N, FS 48 ls.length x (lcs ls).toArray]⟩ := rfl
          have hnx : (mH [nrf N x ls, ⟨61, true, rowsV 2 N i⟩] 3 (crows d N i ++ [crow d i j])).next = i + 3 := by rw [mH_next]; simp [crows_len hi]; omega
          have n1 : ∀ z : Int, ((mH [nrf N x ls, ⟨61, true, rowsV 2 N i⟩] 3 (crows d N i ++ [crow d i j])).alloc ⟨3, true, [.int .i64 z]⟩).get (mH [nrf N x ls, ⟨61, true, rowsV 2 N i⟩] 3 (crows d N i ++ [crow d i j])).next = some ⟨3, true, [.int .i64 z]⟩ := by simp
          have n2 : ∀ z : Int, ((mH [nrf N x ls, ⟨61, true, rowsV 2 N i⟩] 3 (crows d N i ++ [crow d i j])).alloc ⟨3, true, [.int .i64 z]⟩).get (i + 2) = some ⟨3, true, crow d i j⟩ := by
            intro z
            rw [Heap.get_alloc, if_neg (by omega)]
            exact qH_last hi
          have b1 : ¬ (j + 1 ≤ j) := by omega
          have b2 : 1 ≤ 8 ∧ (j + 1) * 8 ≤ 140737488355328 ∧ 1 = 1 ∧ j + 1 ≤ 9223372036854775807 := by omega
          have b3 := cells_whole (crow d i j) (j * 1) (by rw [crow_len]; omega)
          by_cases hij : i = j
          · have e1 : ((i : Int) == (j : Int)) = true := beq_iff_eq.2 (by omega)
            have e0 : c i j = 0 := by rw [hij]; exact hcd j
            have e3 := crow_snoc (hd1 i j hij)
            have n3 := n1 0
            have n4 := n2 0
            rw [e0] at c2
            clear c1
            refine Wp.seq (Wp.seq (Wp.text ?_))
            refine kp 21 (.int IntKind.i64 (↑j : Int)) ?_
            refine kp 22 (.pointer (some ⟨0, 0, none⟩)) ?_
            refine kp 23 (.int IntKind.i64 (↑N : Int)) ?_
            refine kp 24 (.bool true) ?_ (hop := fun _ => by_fact d2)
            refine WpOps.nil (thenK_at (on' (Wp.skip (thenK_at (Wp.seq (Wp.block (Wp.seq (Wp.text ?_))))))))
            refine kp 27 (.agg #[Value.int .i64 (↑N : Int), Value.iface 48 (Value.iface (List.length ls) (Value.iface x (Value.agg (List.toArray (lcs ls)))))]) ?_
            refine kp 28 (.int IntKind.i64 (↑i : Int)) ?_
            refine kp 29 (.int IntKind.i64 (↑j : Int)) ?_
            refine fr 30 52 [Value.agg #[Value.int .i64 (↑N : Int), Value.iface 48 (Value.iface (List.length ls) (Value.iface x (Value.agg (List.toArray (lcs ls)))))], Value.int .i64 (↑i : Int), Value.int .i64 (↑j : Int)] ?_
            refine WpFun.of (c2) ?_
            refine kp 8 (.int IntKind.i64 0) ?_
            refine WpOps.nil (thenK_at (Wp.seq (Wp.seq (Wp.text ?_))))
            refine kp 31 (.int IntKind.i64 0) ?_
            refine kp 32 (.bool true) ?_
            refine WpOps.nil (thenK_at (on' (Wp.text ?_)))
            refine kp 8 (.int IntKind.i64 16) ?_
            refine WpOps.nil (thenK_at (Wp.seq (Wp.seq (Wp.text ?_))))
            refine kp 33 (.int IntKind.i64 (↑i : Int)) ?_
            refine kp 34 (.int IntKind.i64 (↑j : Int)) ?_
            refine kp 35 (.bool true) ?_ (hop := fun _ => by_fact e1)
            refine WpOps.nil (thenK_at (on' (Wp.text ?_)))
            refine kp 8 (.int IntKind.i64 0) ?_
            refine WpOps.nil (thenK_at (Wp.text ?_))
            refine kp 36 (.slice (some (Addr.mk (i + 2) 0 none)) j j) ?_
            refine kp 37 (.int IntKind.i64 0) ?_
            refine md 38 (.slice (some (Addr.mk (Heap.next (mH [nrf N x ls, Blk.mk 61 true (rowsV 2 N i)] 3 (crows d N i ++ [crow d i j]))) 0 none)) 1 1) (Blk.mk 3 true [Value.int .i64 0]) ?_
            refine ra 39 (.slice (some (Addr.mk (Heap.next (Heap.set (Heap.alloc (mH [nrf N x ls, Blk.mk 61 true (rowsV 2 N i)] 3 (crows d N i ++ [crow d i j])) (Blk.mk 3 true [Value.int .i64 0])) (i + 2) none)) 0 none)) (j + 1) (j + 1)) (i + 2) (Blk.mk 3 true (crow d i j ++ [Value.int .i64 0])) ?_ (hop := fun _ => o_append (e := 3) (i + 2) (0) (j) _ (j) b1 b2 (own_ofH n4 b3) (by kernel_rfl) (by kernel_rfl) (by kernel_rfl) (src_ofH (Heap.next (mH [nrf N x ls, Blk.mk 61 true (rowsV 2 N i)] 3 (crows d N i ++ [crow d i j]))) (0) n3 (by kernel_rfl) (by kernel_rfl) (by kernel_rfl)))
            refine kp 6 (.slice (some (Addr.mk (Heap.next (Heap.set (Heap.alloc (mH [nrf N x ls, Blk.mk 61 true (rowsV 2 N i)] 3 (crows d N i ++ [crow d i j])) (Blk.mk 3 true [Value.int .i64 0])) (i + 2) none)) 0 none)) (j + 1) (j + 1)) ?_
            refine WpOps.nil (blockK_norm (thenK_at (Wp.text ?_)))
            refine kp 25 (.int IntKind.i64 (↑j : Int)) ?_
            refine kp 26 (.int IntKind.i64 (IntKind.wrap .i64 ((↑j : Int) + 1))) ?_
            refine kp 7 (.int IntKind.i64 (IntKind.wrap .i64 ((↑j : Int) + 1))) ?_
            refine WpOps.nil (thenK_at ?_)
            refine ⟨j + 1, by omega, by omega, ?_⟩
            try dsimp only
            rw [oV_own (by omega), qH_own (by omega)]
            refine View.matL (nrf N x ls) 3 61 N (crows d N i) (crow d i (j + 1)) i (i + 4) _ (crows_len hi) (by omega) ?_ (nrf_flat _ _ _) ?_ (fun k r h => ⟨?_, crows_flat (List.mem_of_getElem? h)⟩) ?_ (crow_flat _ _ _) ⟨⟨by kernel_rfl, okV_ptr (by omega)⟩, ⟨by kernel_rfl, okV_sl (by omega)⟩, ⟨by kernel_rfl, rfl⟩, ⟨congrArg (fun b => Value.slice (some ⟨b, 0, none⟩) (j + 1) (j + 1)) (show _ = if i + 2 = i + 2 then i + 4 else i + 2 by rw [if_pos rfl]; simp only [Heap.next_alloc, Heap.next_set, hnx]), okV_sl (by omega)⟩, ⟨congrArg (Value.int .i64) (wr _ (by omega) (by omega)), rfl⟩, trivial⟩
            · rw [Heap.get_alloc, if_neg (by simp only [Heap.next_alloc, Heap.next_set, hnx]; omega), Heap.get_set, if_neg (by omega), Heap.get_alloc, if_neg (by rw [hnx]; omega)]
              rfl
            · rw [Heap.get_alloc, if_neg (by simp only [Heap.next_alloc, Heap.next_set, hnx]; omega), Heap.get_set, if_neg (by omega), Heap.get_alloc, if_neg (by rw [hnx]; omega)]
              rfl
            · have hk : k < i := by
                have := (List.getElem?_eq_some_iff.1 h).1
                rwa [crows_len hi] at this
              rw [Heap.get_alloc, if_neg (by simp only [Heap.next_alloc, Heap.next_set, hnx]; omega), Heap.get_set, if_neg (by omega), Heap.get_alloc, if_neg (by rw [hnx]; omega)]
              exact qH_row h
            · rw [Heap.get_alloc, if_pos (by simp only [Heap.next_alloc, Heap.next_set, hnx]), ← e3]
          · have e1 : ((i : Int) == (j : Int)) = false := beq_eq_false_iff_ne.2 (by omega)
            by_cases e0 : c i j = 0
            · have e3 := crow_snoc (hd2 i j hij e0)
              have n3 := n1 16
              have n4 := n2 16
              rw [e0] at c2
              clear c1
              refine Wp.seq (Wp.seq (Wp.text ?_))
              refine kp 21 (.int IntKind.i64 (↑j : Int)) ?_
              refine kp 22 (.pointer (some ⟨0, 0, none⟩)) ?_
              refine kp 23 (.int IntKind.i64 (↑N : Int)) ?_
              refine kp 24 (.bool true) ?_ (hop := fun _ => by_fact d2)
              refine WpOps.nil (thenK_at (on' (Wp.skip (thenK_at (Wp.seq (Wp.block (Wp.seq (Wp.text ?_))))))))
              refine kp 27 (.agg #[Value.int .i64 (↑N : Int), Value.iface 48 (Value.iface (List.length ls) (Value.iface x (Value.agg (List.toArray (lcs ls)))))]) ?_
              refine kp 28 (.int IntKind.i64 (↑i : Int)) ?_
              refine kp 29 (.int IntKind.i64 (↑j : Int)) ?_
              refine fr 30 52 [Value.agg #[Value.int .i64 (↑N : Int), Value.iface 48 (Value.iface (List.length ls) (Value.iface x (Value.agg (List.toArray (lcs ls)))))], Value.int .i64 (↑i : Int), Value.int .i64 (↑j : Int)] ?_
              refine WpFun.of (c2) ?_
              refine kp 8 (.int IntKind.i64 0) ?_
              refine WpOps.nil (thenK_at (Wp.seq (Wp.seq (Wp.text ?_))))
              refine kp 31 (.int IntKind.i64 0) ?_
              refine kp 32 (.bool true) ?_
              refine WpOps.nil (thenK_at (on' (Wp.text ?_)))
              refine kp 8 (.int IntKind.i64 16) ?_
              refine WpOps.nil (thenK_at (Wp.seq (Wp.seq (Wp.text ?_))))
              refine kp 33 (.int IntKind.i64 (↑i : Int)) ?_
              refine kp 34 (.int IntKind.i64 (↑j : Int)) ?_
              refine kp 35 (.bool false) ?_ (hop := fun _ => by_fact e1)
              refine WpOps.nil (thenK_at (off' (Wp.skip (thenK_at (Wp.text ?_)))))
              refine kp 36 (.slice (some (Addr.mk (i + 2) 0 none)) j j) ?_
              refine kp 37 (.int IntKind.i64 16) ?_
              refine md 38 (.slice (some (Addr.mk (Heap.next (mH [nrf N x ls, Blk.mk 61 true (rowsV 2 N i)] 3 (crows d N i ++ [crow d i j]))) 0 none)) 1 1) (Blk.mk 3 true [Value.int .i64 16]) ?_
              refine ra 39 (.slice (some (Addr.mk (Heap.next (Heap.set (Heap.alloc (mH [nrf N x ls, Blk.mk 61 true (rowsV 2 N i)] 3 (crows d N i ++ [crow d i j])) (Blk.mk 3 true [Value.int .i64 16])) (i + 2) none)) 0 none)) (j + 1) (j + 1)) (i + 2) (Blk.mk 3 true (crow d i j ++ [Value.int .i64 16])) ?_ (hop := fun _ => o_append (e := 3) (i + 2) (0) (j) _ (j) b1 b2 (own_ofH n4 b3) (by kernel_rfl) (by kernel_rfl) (by kernel_rfl) (src_ofH (Heap.next (mH [nrf N x ls, Blk.mk 61 true (rowsV 2 N i)] 3 (crows d N i ++ [crow d i j]))) (0) n3 (by kernel_rfl) (by kernel_rfl) (by kernel_rfl)))
              refine kp 6 (.slice (some (Addr.mk (Heap.next (Heap.set (Heap.alloc (mH [nrf N x ls, Blk.mk 61 true (rowsV 2 N i)] 3 (crows d N i ++ [crow d i j])) (Blk.mk 3 true [Value.int .i64 16])) (i + 2) none)) 0 none)) (j + 1) (j + 1)) ?_
              refine WpOps.nil (blockK_norm (thenK_at (Wp.text ?_)))
              refine kp 25 (.int IntKind.i64 (↑j : Int)) ?_
              refine kp 26 (.int IntKind.i64 (IntKind.wrap .i64 ((↑j : Int) + 1))) ?_
              refine kp 7 (.int IntKind.i64 (IntKind.wrap .i64 ((↑j : Int) + 1))) ?_
              refine WpOps.nil (thenK_at ?_)
              refine ⟨j + 1, by omega, by omega, ?_⟩
              try dsimp only
              rw [oV_own (by omega), qH_own (by omega)]
              refine View.matL (nrf N x ls) 3 61 N (crows d N i) (crow d i (j + 1)) i (i + 4) _ (crows_len hi) (by omega) ?_ (nrf_flat _ _ _) ?_ (fun k r h => ⟨?_, crows_flat (List.mem_of_getElem? h)⟩) ?_ (crow_flat _ _ _) ⟨⟨by kernel_rfl, okV_ptr (by omega)⟩, ⟨by kernel_rfl, okV_sl (by omega)⟩, ⟨by kernel_rfl, rfl⟩, ⟨congrArg (fun b => Value.slice (some ⟨b, 0, none⟩) (j + 1) (j + 1)) (show _ = if i + 2 = i + 2 then i + 4 else i + 2 by rw [if_pos rfl]; simp only [Heap.next_alloc, Heap.next_set, hnx]), okV_sl (by omega)⟩, ⟨congrArg (Value.int .i64) (wr _ (by omega) (by omega)), rfl⟩, trivial⟩
              · rw [Heap.get_alloc, if_neg (by simp only [Heap.next_alloc, Heap.next_set, hnx]; omega), Heap.get_set, if_neg (by omega), Heap.get_alloc, if_neg (by rw [hnx]; omega)]
                rfl
              · rw [Heap.get_alloc, if_neg (by simp only [Heap.next_alloc, Heap.next_set, hnx]; omega), Heap.get_set, if_neg (by omega), Heap.get_alloc, if_neg (by rw [hnx]; omega)]
                rfl
              · have hk : k < i := by
                  have := (List.getElem?_eq_some_iff.1 h).1
                  rwa [crows_len hi] at this
                rw [Heap.get_alloc, if_neg (by simp only [Heap.next_alloc, Heap.next_set, hnx]; omega), Heap.get_set, if_neg (by omega), Heap.get_alloc, if_neg (by rw [hnx]; omega)]
                exact qH_row h
              · rw [Heap.get_alloc, if_pos (by simp only [Heap.next_alloc, Heap.next_set, hnx]), ← e3]
            · have e3 := crow_snoc (hd3 i j hij e0)
              have n3 := n1 (c i j)
              have n4 := n2 (c i j)
              have e4 : (c i j == 0) = false := by simpa using e0
              clear c1
              refine Wp.seq (Wp.seq (Wp.text ?_))
              refine kp 21 (.int IntKind.i64 (↑j : Int)) ?_
              refine kp 22 (.pointer (some ⟨0, 0, none⟩)) ?_
              refine kp 23 (.int IntKind.i64 (↑N : Int)) ?_
              refine kp 24 (.bool true) ?_ (hop := fun _ => by_fact d2)
              refine WpOps.nil (thenK_at (on' (Wp.skip (thenK_at (Wp.seq (Wp.block (Wp.seq (Wp.text ?_))))))))
              refine kp 27 (.agg #[Value.int .i64 (↑N : Int), Value.iface 48 (Value.iface (List.length ls) (Value.iface x (Value.agg (List.toArray (lcs ls)))))]) ?_
              refine kp 28 (.int IntKind.i64 (↑i : Int)) ?_
              refine kp 29 (.int IntKind.i64 (↑j : Int)) ?_
              refine fr 30 52 [Value.agg #[Value.int .i64 (↑N : Int), Value.iface 48 (Value.iface (List.length ls) (Value.iface x (Value.agg (List.toArray (lcs ls)))))], Value.int .i64 (↑i : Int), Value.int .i64 (↑j : Int)] ?_
              refine WpFun.of (c2) ?_
              refine kp 8 (.int IntKind.i64 (c i j)) ?_
              refine WpOps.nil (thenK_at (Wp.seq (Wp.seq (Wp.text ?_))))
              refine kp 31 (.int IntKind.i64 (c i j)) ?_
              refine kp 32 (.bool false) ?_ (hop := fun _ => by_fact e4)
              refine WpOps.nil (thenK_at (off' (Wp.skip (thenK_at (Wp.seq (Wp.seq (Wp.text ?_)))))))
              refine kp 33 (.int IntKind.i64 (↑i : Int)) ?_
              refine kp 34 (.int IntKind.i64 (↑j : Int)) ?_
              refine kp 35 (.bool false) ?_ (hop := fun _ => by_fact e1)
              refine WpOps.nil (thenK_at (off' (Wp.skip (thenK_at (Wp.text ?_)))))
              refine kp 36 (.slice (some (Addr.mk (i + 2) 0 none)) j j) ?_
              refine kp 37 (.int IntKind.i64 (c i j)) ?_
              refine md 38 (.slice (some (Addr.mk (Heap.next (mH [nrf N x ls, Blk.mk 61 true (rowsV 2 N i)] 3 (crows d N i ++ [crow d i j]))) 0 none)) 1 1) (Blk.mk 3 true [Value.int .i64 (c i j)]) ?_
              refine ra 39 (.slice (some (Addr.mk (Heap.next (Heap.set (Heap.alloc (mH [nrf N x ls, Blk.mk 61 true (rowsV 2 N i)] 3 (crows d N i ++ [crow d i j])) (Blk.mk 3 true [Value.int .i64 (c i j)])) (i + 2) none)) 0 none)) (j + 1) (j + 1)) (i + 2) (Blk.mk 3 true (crow d i j ++ [Value.int .i64 (c i j)])) ?_ (hop := fun _ => o_append (e := 3) (i + 2) (0) (j) _ (j) b1 b2 (own_ofH n4 b3) (by kernel_rfl) (by kernel_rfl) (by kernel_rfl) (src_ofH (Heap.next (mH [nrf N x ls, Blk.mk 61 true (rowsV 2 N i)] 3 (crows d N i ++ [crow d i j]))) (0) n3 (by kernel_rfl) (by kernel_rfl) (by kernel_rfl)))
              refine kp 6 (.slice (some (Addr.mk (Heap.next (Heap.set (Heap.alloc (mH [nrf N x ls, Blk.mk 61 true (rowsV 2 N i)] 3 (crows d N i ++ [crow d i j])) (Blk.mk 3 true [Value.int .i64 (c i j)])) (i + 2) none)) 0 none)) (j + 1) (j + 1)) ?_
              refine WpOps.nil (blockK_norm (thenK_at (Wp.text ?_)))
              refine kp 25 (.int IntKind.i64 (↑j : Int)) ?_
              refine kp 26 (.int IntKind.i64 (IntKind.wrap .i64 ((↑j : Int) + 1))) ?_
              refine kp 7 (.int IntKind.i64 (IntKind.wrap .i64 ((↑j : Int) + 1))) ?_
              refine WpOps.nil (thenK_at ?_)
              refine ⟨j + 1, by omega, by omega, ?_⟩
              try dsimp only
              rw [oV_own (by omega), qH_own (by omega)]
              refine View.matL (nrf N x ls) 3 61 N (crows d N i) (crow d i (j + 1)) i (i + 4) _ (crows_len hi) (by omega) ?_ (nrf_flat _ _ _) ?_ (fun k r h => ⟨?_, crows_flat (List.mem_of_getElem? h)⟩) ?_ (crow_flat _ _ _) ⟨⟨by kernel_rfl, okV_ptr (by omega)⟩, ⟨by kernel_rfl, okV_sl (by omega)⟩, ⟨by kernel_rfl, rfl⟩, ⟨congrArg (fun b => Value.slice (some ⟨b, 0, none⟩) (j + 1) (j + 1)) (show _ = if i + 2 = i + 2 then i + 4 else i + 2 by rw [if_pos rfl]; simp only [Heap.next_alloc, Heap.next_set, hnx]), okV_sl (by omega)⟩, ⟨congrArg (Value.int .i64) (wr _ (by omega) (by omega)), rfl⟩, trivial⟩
              · rw [Heap.get_alloc, if_neg (by simp only [Heap.next_alloc, Heap.next_set, hnx]; omega), Heap.get_set, if_neg (by omega), Heap.get_alloc, if_neg (by rw [hnx]; omega)]
                rfl
              · rw [Heap.get_alloc, if_neg (by simp only [Heap.next_alloc, Heap.next_set, hnx]; omega), Heap.get_set, if_neg (by omega), Heap.get_alloc, if_neg (by rw [hnx]; omega)]
                rfl
              · have hk : k < i := by
                  have := (List.getElem?_eq_some_iff.1 h).1
                  rwa [crows_len hi] at this
                rw [Heap.get_alloc, if_neg (by simp only [Heap.next_alloc, Heap.next_set, hnx]; omega), Heap.get_set, if_neg (by omega), Heap.get_alloc, if_neg (by rw [hnx]; omega)]
                exact qH_row h
              · rw [Heap.get_alloc, if_pos (by simp only [Heap.next_alloc, Heap.next_set, hnx]), ← e3]
      · obtain rfl : j = N := by omega
        have d2 : decide ((j : Int) < j) = false := decide_eq_false (by omega)
        rw [oV_own (by omega), qH_own (by omega)]
        have n0 : (mH [nrf j x ls, ⟨61, true, rowsV 2 j i⟩] 3 (crows d j i ++ [crow d i j])).get 0 = some ⟨34, true, [.int .i64 j, FS 48 ls.length x (lcs ls).toArray]⟩ := rfl
        have hnx : (mH [nrf j x ls, ⟨61, true, rowsV 2 j i⟩] 3 (crows d j i ++ [crow d i j])).next = i + 3 := by rw [mH_next]; simp [crows_len hi]; omega
        have n1 : ((mH [nrf j x ls, ⟨61, true, rowsV 2 j i⟩] 3 (crows d j i ++ [crow d i j])).alloc ⟨61, true, [.slice (some ⟨i + 2, 0, none⟩) j j]⟩).get (mH [nrf j x ls, ⟨61, true, rowsV 2 j i⟩] 3 (crows d j i ++ [crow d i j])).next = some ⟨61, true, [.slice (some ⟨i + 2, 0, none⟩) j j]⟩ := by simp
        have n2 : ((mH [nrf j x ls, ⟨61, true, rowsV 2 j i⟩] 3 (crows d j i ++ [crow d i j])).alloc ⟨61, true, [.slice (some ⟨i + 2, 0, none⟩) j j]⟩).get 1 = some ⟨61, true, rowsV 2 j i⟩ := by
          rw [Heap.get_alloc, if_neg (by omega)]
          rfl
        have b1 : ¬ (i + 1 ≤ i) := by omega
        have b2 : 1 ≤ 24 ∧ (i + 1) * 24 ≤ 140737488355328 ∧ 1 = 1 ∧ i + 1 ≤ 9223372036854775807 := by omega
        have b3 := cells_whole (rowsV 2 j i) (i * 1) (by rw [rowsV_len]; omega)
        refine Wp.seq (Wp.seq (Wp.text ?_))
        refine kp 21 (.int IntKind.i64 (↑j : Int)) ?_
        refine kp 22 (.pointer (some ⟨0, 0, none⟩)) ?_
        refine kp 23 (.int IntKind.i64 (↑j : Int)) ?_
        refine kp 24 (.bool false) ?_ (hop := fun _ => by_fact d2)
        refine WpOps.nil (thenK_at (off' (Wp.exit (thenK_exit (thenK_exit (blockK_hit (thenK_at (Wp.text ?_))))))))
        refine kp 40 (.slice (some ⟨1, 0, none⟩) i i) ?_
        refine kp 41 (.slice (some (Addr.mk (i + 2) 0 none)) j j) ?_
        refine md 42 (.slice (some (Addr.mk (Heap.next (mH [nrf j x ls, Blk.mk 61 true (rowsV 2 j i)] 3 (crows d j i ++ [crow d i j]))) 0 none)) 1 1) (Blk.mk 61 true [Value.slice (some (Addr.mk (i + 2) 0 none)) j j]) ?_
        refine ra 43 (.slice (some (Addr.mk (Heap.next (Heap.set (Heap.alloc (mH [nrf j x ls, Blk.mk 61 true (rowsV 2 j i)] 3 (crows d j i ++ [crow d i j])) (Blk.mk 61 true [Value.slice (some (Addr.mk (i + 2) 0 none)) j j])) 1 none)) 0 none)) (i + 1) (i + 1)) (1) (Blk.mk 61 true (rowsV 2 j i ++ [Value.slice (some (Addr.mk (i + 2) 0 none)) j j])) ?_ (hop := fun _ => o_append (e := 61) (1) (0) (i) _ (i) b1 b2 b3 (by kernel_rfl) (by kernel_rfl) (by kernel_rfl) (src_ofH (Heap.next (mH [nrf j x ls, Blk.mk 61 true (rowsV 2 j i)] 3 (crows d j i ++ [crow d i j]))) (0) n1 (by kernel_rfl) (by kernel_rfl) (by kernel_rfl)))
        refine kp 4 (.slice (some (Addr.mk (Heap.next (Heap.set (Heap.alloc (mH [nrf j x ls, Blk.mk 61 true (rowsV 2 j i)] 3 (crows d j i ++ [crow d i j])) (Blk.mk 61 true [Value.slice (some (Addr.mk (i + 2) 0 none)) j j])) 1 none)) 0 none)) (i + 1) (i + 1)) ?_
        refine WpOps.nil (blockK_norm (thenK_at (Wp.text ?_)))
        refine kp 19 (.int IntKind.i64 (↑i : Int)) ?_
        refine kp 20 (.int IntKind.i64 (IntKind.wrap .i64 ((↑i : Int) + 1))) ?_
        refine kp 5 (.int IntKind.i64 (IntKind.wrap .i64 ((↑i : Int) + 1))) ?_
        refine WpOps.nil (thenK_at ?_)
        refine ⟨i + 1, by omega, by omega, ?_⟩
        try dsimp only
        rw [oV_own (by omega), pH_own (by omega)]
        refine View.matO (nrf j x ls) 3 61 j (crows d j (i + 1)) (i + 1) (i + 4) _ (crows_len hlt) (by omega) ?_ (nrf_flat _ _ _) ?_ (fun k r h => ⟨?_, crows_flat (List.mem_of_getElem? h)⟩) ⟨⟨by kernel_rfl, okV_ptr (by omega)⟩, ⟨congrArg (fun b => Value.slice (some ⟨b, 0, none⟩) (i + 1) (i + 1)) (show _ = if 1 = 1 then i + 4 else 1 by rw [if_pos rfl]; simp only [Heap.next_alloc, Heap.next_set, hnx]), okV_sl (by omega)⟩, ⟨congrArg (Value.int .i64) (wr _ (by omega) (by omega)), rfl⟩, trivial⟩
        · rw [Heap.get_alloc, if_neg (by simp only [Heap.next_alloc, Heap.next_set, hnx]; omega), Heap.get_set, if_neg (by omega), Heap.get_alloc, if_neg (by rw [hnx]; omega)]
          rfl
        · rw [Heap.get_alloc, if_pos (by simp only [Heap.next_alloc, Heap.next_set, hnx]), rowsV_succ]
        · have hk : k < i + 1 := by
            have := (List.getElem?_eq_some_iff.1 h).1
            rwa [crows_len hlt] at this
          rw [Heap.get_alloc, if_neg (by simp only [Heap.next_alloc, Heap.next_set, hnx]; omega), Heap.get_set, if_neg (by omega), Heap.get_alloc, if_neg (by rw [hnx]; omega)]
          rw [← crows_snoc hlt] at h
          by_cases e : k = i
          · subst e
            rw [List.getElem?_append_right (by rw [crows_len hi]; exact Nat.le_refl _), crows_len hi, Nat.sub_self] at h
            obtain rfl : crow d k j = r := Option.some.inj h
            exact qH_last hi
          · rw [List.getElem?_append_left (by rw [crows_len hi]; omega)] at h
            exact qH_row h
  · obtain rfl : N = i := by omega
    have d1 : decide ((N : Int) < N) = false := decide_eq_false (by omega)
    rw [oV_own (by omega), pH_own (by omega)]
    have e0 : mH [nrf N x ls, ⟨61, true, rowsV 2 N N⟩] 3 (crows d N N) = bH (nrf N x ls) N d := by
      unfold bH crows
      rw [List.take_of_length_le (by rw [matC_len]; exact Nat.le_refl _)]
    rw [e0]
    clear c1 hd1 hd2 hd3
    have n0 : (bH (nrf N x ls) N d).get 0 = some ⟨34, true, [.int .i64 N, FS 48 ls.length x (lcs ls).toArray]⟩ := rfl
    refine Wp.seq (Wp.seq (Wp.text ?_))
    refine kp 15 (.int IntKind.i64 (↑N : Int)) ?_
    refine kp 16 (.pointer (some ⟨0, 0, none⟩)) ?_
    refine kp 17 (.int IntKind.i64 (↑N : Int)) ?_
    refine kp 18 (.bool false) ?_ (hop := fun _ => by_fact d1)
    refine WpOps.nil (thenK_at (off' (Wp.exit (thenK_exit (thenK_exit (blockK_hit (thenK_at (Wp.seq (Wp.seq (Wp.text ?_))))))))))
    refine kp 9 (.int IntKind.i64 0) ?_
    refine WpOps.nil (thenK_at (Wp.block ?_))
    refine Wp.loop (G := Nat) (fun k => layj [(1, .pointer (some ⟨0, 0, none⟩)), (4, .slice (some ⟨1, 0, none⟩) N N), (9, .int .i64 k)]) (fun k => bH (nrf N x ls) N (rall N d k)) (fun k => N - k) (fun k => k ≤ N) 0
      (bView rfl rfl rfl (fun i hi => bH_row hi) ⟨⟨by kernel_rfl, okV_ptr (by omega)⟩, ⟨by kernel_rfl, okV_sl (by omega)⟩, ⟨by kernel_rfl, rfl⟩, trivial⟩) (Nat.zero_le _) ?_
    intro k hk
    have hbk := bnd_rall (n := N) hb0 k
    have n0 : (bH (nrf N x ls) N (rall N d k)).get 0 = some ⟨34, true, [.int .i64 N, FS 48 ls.length x (lcs ls).toArray]⟩ := rfl
    by_cases hltk : k < N
    · have d3 : decide ((k : Int) < N) = true := decide_eq_true (by omega)
      refine Wp.seq (Wp.seq (Wp.text ?_))
      refine kp 44 (.int IntKind.i64 (↑k : Int)) ?_
      refine kp 45 (.pointer (some ⟨0, 0, none⟩)) ?_
      refine kp 46 (.int IntKind.i64 (↑N : Int)) ?_
      refine kp 47 (.bool true) ?_ (hop := fun _ => by_fact d3)
      refine WpOps.nil (thenK_at (on' (Wp.skip (thenK_at (Wp.seq (Wp.block (Wp.seq (Wp.text ?_))))))))
      refine kp 10 (.int IntKind.i64 0) ?_
      refine WpOps.nil (thenK_at (Wp.block ?_))
      refine Wp.loop (G := Nat) (fun a => layj [(1, .pointer (some ⟨0, 0, none⟩)), (4, .slice (some ⟨1, 0, none⟩) N N), (9, .int .i64 k), (10, .int .i64 a)]) (fun a => bH (nrf N x ls) N (rmat N (rall N d k) k a)) (fun a => N - a) (fun a => a ≤ N) 0
        (bView rfl rfl rfl (fun i hi => bH_row hi) ⟨⟨by kernel_rfl, okV_ptr (by omega)⟩, ⟨by kernel_rfl, okV_sl (by omega)⟩, ⟨by kernel_rfl, rfl⟩, ⟨by kernel_rfl, rfl⟩, trivial⟩) (Nat.zero_le _) ?_
      intro a ha
      have hbi := bnd_rmat (n := N) hbk k a
      have n0 : (bH (nrf N x ls) N (rmat N (rall N d k) k a)).get 0 = some ⟨34, true, [.int .i64 N, FS 48 ls.length x (lcs ls).toArray]⟩ := rfl
      by_cases hlti : a < N
      · have d4 : decide ((a : Int) < N) = true := decide_eq_true (by omega)
        refine Wp.seq (Wp.seq (Wp.text ?_))
        refine kp 50 (.int IntKind.i64 (↑a : Int)) ?_
        refine kp 51 (.pointer (some ⟨0, 0, none⟩)) ?_
        refine kp 52 (.int IntKind.i64 (↑N : Int)) ?_
        refine kp 53 (.bool true) ?_ (hop := fun _ => by_fact d4)
        refine WpOps.nil (thenK_at (on' (Wp.skip (thenK_at (Wp.seq (Wp.block (Wp.seq (Wp.text ?_))))))))
        refine kp 11 (.int IntKind.i64 0) ?_
        refine WpOps.nil (thenK_at (Wp.block ?_))
        refine Wp.loop (G := Nat) (fun w => layj [(1, .pointer (some ⟨0, 0, none⟩)), (4, .slice (some ⟨1, 0, none⟩) N N), (9, .int .i64 k), (10, .int .i64 a), (11, .int .i64 w)]) (fun w => bH (nrf N x ls) N (rrow (rmat N (rall N d k) k a) k a w)) (fun w => N - w) (fun w => w ≤ N) 0
          (bView rfl rfl rfl (fun i hi => bH_row hi) ⟨⟨by kernel_rfl, okV_ptr (by omega)⟩, ⟨by kernel_rfl, okV_sl (by omega)⟩, ⟨by kernel_rfl, rfl⟩, ⟨by kernel_rfl, rfl⟩, ⟨by kernel_rfl, rfl⟩, trivial⟩) (Nat.zero_le _) ?_
        intro w hw
        have hbw := bnd_rrow hbi k a w
        have hrs : rrow (rmat N (rall N d k) k a) k a (w + 1) = relax (rrow (rmat N (rall N d k) k a) k a w) k a w := rfl
        have hrv : w = N → rmat N (rall N d k) k (a + 1) = rrow (rmat N (rall N d k) k a) k a w := fun e => by rw [e]; rfl
        generalize rrow (rmat N (rall N d k) k a) k a w = dd at hbw hrs hrv ⊢
        have n0 : (bH (nrf N x ls) N dd).get 0 = some ⟨34, true, [.int .i64 N, FS 48 ls.length x (lcs ls).toArray]⟩ := rfl
        by_cases hltw : w < N
        · have d5 : decide ((w : Int) < N) = true := decide_eq_true (by omega)
          have g1 : 0 ≤ (a : Int) ∧ (a : Int) < N := by omega
          have g2 : 0 ≤ (w : Int) ∧ (w : Int) < N := by omega
          have g3 : 0 ≤ (k : Int) ∧ (k : Int) < N := by omega
          have u1 := hdr hlti
          have u1' := hdr hltk
          have m1 := bH_row (x0 := nrf N x ls) (d := dd) hlti
          have m1' := bH_row (x0 := nrf N x ls) (d := dd) hltk
          have u2 := cell0 (d := dd) (i := a) hltw
          have u3 := cell0 (d := dd) (i := a) hltk
          have u4 := cell0 (d := dd) (i := k) hltw
          have b1 := hbw a k
          have b2 := hbw k w
          have x2 : 1 ≠ a + 2 := by omega
          have q1 : ∀ z : Int, true = true ∧ 0 + (w : Int).toNat * 1 + [Value.int .i64 z].length ≤ ((List.range N).map fun j => Value.int .i64 (dd a j)).length := fun z => ⟨rfl, by simp; omega⟩
          have q2 := q1 (if IntKind.i64.wrap (dd a k + dd k w) < dd a w then IntKind.i64.wrap (dd a k + dd k w) else dd a w)
          refine Wp.seq (Wp.seq (Wp.text ?_))
          refine kp 56 (.int IntKind.i64 (↑w : Int)) ?_
          refine kp 57 (.pointer (some ⟨0, 0, none⟩)) ?_
          refine kp 58 (.int IntKind.i64 (↑N : Int)) ?_
          refine kp 59 (.bool true) ?_ (hop := fun _ => by_fact d5)
          refine WpOps.nil (thenK_at (on' (Wp.skip (thenK_at (Wp.seq (Wp.block ?_))))))
          refine Wp.region (by kernel_rfl) ?_
          refine kp 62 (.slice (some ⟨1, 0, none⟩) N N) ?_
          refine kp 63 (.int IntKind.i64 (↑a : Int)) ?_
          refine kp 64 (.pointer (some (Addr.mk 1 (0 + Int.toNat (↑a : Int) * 1) none))) ?_ (hop := fun _ => o_indexAddr (a := (↑a : Int)) (bl := 1) (off := 0) (size := 1) 61 (N) g1)
          refine kp 65 (.slice (some (Addr.mk (a + 2) 0 none)) N N) ?_ (hop := fun _ => o_load1 (1) (0 + Int.toNat (↑a : Int) * 1) u1)
          refine kp 66 (.int IntKind.i64 (↑w : Int)) ?_
          refine kp 67 (.slice (some ⟨1, 0, none⟩) N N) ?_
          refine kp 68 (.int IntKind.i64 (↑a : Int)) ?_
          refine kp 69 (.pointer (some (Addr.mk 1 (0 + Int.toNat (↑a : Int) * 1) none))) ?_ (hop := fun _ => o_indexAddr (a := (↑a : Int)) (bl := 1) (off := 0) (size := 1) 61 (N) g1)
          refine kp 70 (.slice (some (Addr.mk (a + 2) 0 none)) N N) ?_ (hop := fun _ => o_load1 (1) (0 + Int.toNat (↑a : Int) * 1) u1)
          refine kp 71 (.int IntKind.i64 (↑w : Int)) ?_
          refine kp 72 (.pointer (some (Addr.mk (a + 2) (0 + Int.toNat (↑w : Int) * 1) none))) ?_ (hop := fun _ => o_indexAddr (a := (↑w : Int)) (bl := a + 2) (off := 0) (size := 1) 3 (N) g2)
          refine kp 73 (.int IntKind.i64 (dd a w)) ?_ (hop := fun _ => o_load1H (a + 2) (0 + Int.toNat (↑w : Int) * 1) m1 u2)
          refine kp 74 (.slice (some ⟨1, 0, none⟩) N N) ?_
          refine kp 75 (.int IntKind.i64 (↑a : Int)) ?_
          refine kp 76 (.pointer (some (Addr.mk 1 (0 + Int.toNat (↑a : Int) * 1) none))) ?_ (hop := fun _ => o_indexAddr (a := (↑a : Int)) (bl := 1) (off := 0) (size := 1) 61 (N) g1)
          refine kp 77 (.slice (some (Addr.mk (a + 2) 0 none)) N N) ?_ (hop := fun _ => o_load1 (1) (0 + Int.toNat (↑a : Int) * 1) u1)
          refine kp 78 (.int IntKind.i64 (↑k : Int)) ?_
          refine kp 79 (.pointer (some (Addr.mk (a + 2) (0 + Int.toNat (↑k : Int) * 1) none))) ?_ (hop := fun _ => o_indexAddr (a := (↑k : Int)) (bl := a + 2) (off := 0) (size := 1) 3 (N) g3)
          refine kp 80 (.int IntKind.i64 (dd a k)) ?_ (hop := fun _ => o_load1H (a + 2) (0 + Int.toNat (↑k : Int) * 1) m1 u3)
          refine kp 81 (.slice (some ⟨1, 0, none⟩) N N) ?_
          refine kp 82 (.int IntKind.i64 (↑k : Int)) ?_
          refine kp 83 (.pointer (some (Addr.mk 1 (0 + Int.toNat (↑k : Int) * 1) none))) ?_ (hop := fun _ => o_indexAddr (a := (↑k : Int)) (bl := 1) (off := 0) (size := 1) 61 (N) g3)
          refine kp 84 (.slice (some (Addr.mk (k + 2) 0 none)) N N) ?_ (hop := fun _ => o_load1 (1) (0 + Int.toNat (↑k : Int) * 1) u1')
          refine kp 85 (.int IntKind.i64 (↑w : Int)) ?_
          refine kp 86 (.pointer (some (Addr.mk (k + 2) (0 + Int.toNat (↑w : Int) * 1) none))) ?_ (hop := fun _ => o_indexAddr (a := (↑w : Int)) (bl := k + 2) (off := 0) (size := 1) 3 (N) g2)
          refine kp 87 (.int IntKind.i64 (dd k w)) ?_ (hop := fun _ => o_load1H (k + 2) (0 + Int.toNat (↑w : Int) * 1) m1' u4)
          refine kp 88 (.int IntKind.i64 (IntKind.wrap .i64 (dd a k + dd k w))) ?_
          refine kp 89 (.int IntKind.i64 (if IntKind.wrap .i64 (dd a k + dd k w) < dd a w then IntKind.wrap .i64 (dd a k + dd k w) else dd a w)) ?_
          refine kp 90 (.pointer (some (Addr.mk (a + 2) (0 + Int.toNat (↑w : Int) * 1) none))) ?_ (hop := fun _ => o_indexAddr (a := (↑w : Int)) (bl := a + 2) (off := 0) (size := 1) 3 (N) g2)
          refine ld (.tuple #[]) (a + 2) (Blk.mk 3 true (List.set (List.map (fun j => Value.int .i64 (dd a j)) (List.range N)) (0 + Int.toNat (↑w : Int) * 1) (Value.int .i64 (if IntKind.wrap .i64 (dd a k + dd k w) < dd a w then IntKind.wrap .i64 (dd a k + dd k w) else dd a w)))) ?_ (hop := fun _ => o_storeH (v := Value.int IntKind.i64 (if IntKind.wrap IntKind.i64 (dd a k + dd k w) < dd a w then IntKind.wrap IntKind.i64 (dd a k + dd k w) else dd a w)) (xs := [Value.int IntKind.i64 (if IntKind.wrap IntKind.i64 (dd a k + dd k w) < dd a w then IntKind.wrap IntKind.i64 (dd a k + dd k w) else dd a w)]) (a + 2) (0 + Int.toNat (↑w : Int) * 1) m1 q2)
          refine WpOps.nil (blockK_norm (thenK_at (Wp.text ?_)))
          refine kp 60 (.int IntKind.i64 (↑w : Int)) ?_
          refine kp 61 (.int IntKind.i64 (IntKind.wrap .i64 ((↑w : Int) + 1))) ?_
          refine kp 11 (.int IntKind.i64 (IntKind.wrap .i64 ((↑w : Int) + 1))) ?_
          refine WpOps.nil (thenK_at ?_)
          refine ⟨w + 1, by omega, by omega, ?_⟩
          have hm : (if IntKind.i64.wrap (dd a k + dd k w) < dd a w then IntKind.i64.wrap (dd a k + dd k w) else dd a w) = min (dd a w) (dd a k + dd k w) := by
            rw [wr _ (by omega) (by omega)]
            split <;> omega
          rw [hrs]
          unfold relax
          rw [← hm]
          refine bView rfl ?_ ?_ (fun b hb => ?_) ⟨⟨by kernel_rfl, okV_ptr (by omega)⟩, ⟨by kernel_rfl, okV_sl (by omega)⟩, ⟨by kernel_rfl, rfl⟩, ⟨by kernel_rfl, rfl⟩, ⟨congrArg (Value.int .i64) (wr _ (by omega) (by omega)), rfl⟩, trivial⟩
          · rw [Heap.get_set, if_neg (by omega)]
            rfl
          · rw [Heap.get_set, if_neg (by omega)]
            rfl
          · rw [Heap.get_set]
            by_cases e : b = a
            · subst e
              rw [if_pos rfl, Int.toNat_natCast, Nat.zero_add, Nat.mul_one, putC_set]
            · rw [if_neg (by omega), bH_row hb, putC_row _ _ e]
        · have ew : w = N := by omega
          have hrv' := hrv ew
          obtain rfl : N = w := ew.symm
          have d5 : decide ((N : Int) < N) = false := decide_eq_false (by omega)
          refine Wp.seq (Wp.seq (Wp.text ?_))
          refine kp 56 (.int IntKind.i64 (↑N : Int)) ?_
          refine kp 57 (.pointer (some ⟨0, 0, none⟩)) ?_
          refine kp 58 (.int IntKind.i64 (↑N : Int)) ?_
          refine kp 59 (.bool false) ?_ (hop := fun _ => by_fact d1)
          refine WpOps.nil (thenK_at (off' (Wp.exit (thenK_exit (thenK_exit (blockK_hit (blockK_norm (thenK_at (Wp.text ?_)))))))))
          refine kp 54 (.int IntKind.i64 (↑a : Int)) ?_
          refine kp 55 (.int IntKind.i64 (IntKind.wrap .i64 ((↑a : Int) + 1))) ?_
          refine kp 10 (.int IntKind.i64 (IntKind.wrap .i64 ((↑a : Int) + 1))) ?_
          refine WpOps.nil (thenK_at ?_)
          refine ⟨a + 1, by omega, by omega, ?_⟩
          rw [hrv']
          exact bView rfl rfl rfl (fun i hi => bH_row hi) ⟨⟨by kernel_rfl, okV_ptr (by omega)⟩, ⟨by kernel_rfl, okV_sl (by omega)⟩, ⟨by kernel_rfl, rfl⟩, ⟨congrArg (Value.int .i64) (wr _ (by omega) (by omega)), rfl⟩, trivial⟩
      · have ea : a = N := by omega
        have hrv : rall N d (k + 1) = rmat N (rall N d k) k a := by rw [ea]; rfl
        obtain rfl : N = a := ea.symm
        have d4 : decide ((N : Int) < N) = false := decide_eq_false (by omega)
        refine Wp.seq (Wp.seq (Wp.text ?_))
        refine kp 50 (.int IntKind.i64 (↑N : Int)) ?_
        refine kp 51 (.pointer (some ⟨0, 0, none⟩)) ?_
        refine kp 52 (.int IntKind.i64 (↑N : Int)) ?_
        refine kp 53 (.bool false) ?_ (hop := fun _ => by_fact d1)
        refine WpOps.nil (thenK_at (off' (Wp.exit (thenK_exit (thenK_exit (blockK_hit (blockK_norm (thenK_at (Wp.text ?_)))))))))
        refine kp 48 (.int IntKind.i64 (↑k : Int)) ?_
        refine kp 49 (.int IntKind.i64 (IntKind.wrap .i64 ((↑k : Int) + 1))) ?_
        refine kp 9 (.int IntKind.i64 (IntKind.wrap .i64 ((↑k : Int) + 1))) ?_
        refine WpOps.nil (thenK_at ?_)
        refine ⟨k + 1, by omega, by omega, ?_⟩
        rw [hrv]
        exact bView rfl rfl rfl (fun i hi => bH_row hi) ⟨⟨by kernel_rfl, okV_ptr (by omega)⟩, ⟨by kernel_rfl, okV_sl (by omega)⟩, ⟨congrArg (Value.int .i64) (wr _ (by omega) (by omega)), rfl⟩, trivial⟩
    · obtain rfl : N = k := by omega
      have d3 : decide ((N : Int) < N) = false := decide_eq_false (by omega)
      refine Wp.seq (Wp.seq (Wp.text ?_))
      refine kp 44 (.int IntKind.i64 (↑N : Int)) ?_
      refine kp 45 (.pointer (some ⟨0, 0, none⟩)) ?_
      refine kp 46 (.int IntKind.i64 (↑N : Int)) ?_
      refine kp 47 (.bool false) ?_ (hop := fun _ => by_fact d1)
      refine WpOps.nil (thenK_at (off' (Wp.exit (thenK_exit (thenK_exit (blockK_hit (thenK_at (Wp.seq (Wp.text ?_)))))))))
      refine kp 91 (.slice (some ⟨1, 0, none⟩) N N) ?_
      refine kp 2 (.slice (some ⟨1, 0, none⟩) N N) ?_
      refine kp 3 (.int IntKind.i64 0) ?_
      refine WpOps.nil (thenK_at (Wp.ret ?_))
      refine endK_retn [Value.slice (some (Addr.mk 1 0 none)) N N, Value.int IntKind.i64 0] (Value.tuple #[Value.slice (some (Addr.mk 1 0 none)) N N, Value.int IntKind.i64 0]) (by kernel_rfl) (by kernel_rfl) ?_
      have e : iceV E (bH (nrf N x ls) N (rall N d N)) (.slice (some ⟨1, 0, none⟩) N N) = some (matF 61 3 N (matC N (rall N d N))) :=
        mat_ice (p := 2) (size := 1) (by kernel_rfl) (by kernel_rfl) matC_len rfl (fun i r h => mH_row (pre := [nrf N x ls, ⟨61, true, rowsV 2 N N⟩]) h) (fun r h => matC_row h) (fun r h => matC_flat h)
      exact pair_ice (show iceW E _ _ = _ from e)
end Go.Proofs.Ytfjkanjmggbofaa.D
