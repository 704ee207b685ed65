/- The document's tables of the beginning; a round of the program as a value. -/
import Derived.Test.YtfjkanjmggbofaaFwLem
import Derived.Test.YtfjkanjmggbofaaV12g
namespace Go.Proofs.Ytfjkanjmggbofaa.D
open Go.Fw Go.RowKit

theorem tabM_ice {h : Heap} (e1 e N : Nat) (f : Nat → Nat → Rt) : iceV E h (tabM e1 e N f) = some (tabM e1 e N f) := by
  rw [tabM_eq]
  exact matF_ice _ _ _ _
theorem roundF42 (N x : Nat) (ls : List Lk) (f : Nat → Nat → Rt) (poison : Bool) (hN : 1 ≤ N ∧ N ≤ 20) (hl : ∀ l ∈ ls, okLk N l) (hz : ls.length ≤ 17592186044416) (hf : ∀ i j, i < N → j < N → 0 ≤ (f i j).1 ∧ (f i j).1 ≤ 16) :
    Fun E 42 [netV N x ls, tabM 45 47 N f, .bool poison] (tabM 45 47 N (roundF N (cAt ls) poison f)) := by
  refine (round42 N x ls f poison hN hl hz hf).toFun ?_ (tabM_ice _ _ _ _)
  rw [tabM_eq]
  refine mat_ice (p := 1) (size := 2) (by kernel_rfl) (by kernel_rfl) rowsM_len rfl (fun i r h => ?_) (fun r h => rowsM_row h) (fun r h => rowsM_flat h)
  exact mH_row (pre := [⟨45, true, rowsV 1 N N⟩]) h

/-! ## the beginning -/
def firstF (i j : Nat) : Rt := if i = j then (0, i) else (16, -1)
/-- The first cells of a row. -/
def frow (i j : Nat) : List Value := rcs ((List.range j).map (firstF i))
theorem frow_flat (i j : Nat) : (frow i j).all flat = true := rcs_flat _
theorem frow_len (i j : Nat) : (frow i j).length = j * 2 := by unfold frow; rw [rcs_len, List.length_map, List.length_range]
theorem frow_eq {i j : Nat} (h : i = j) : frow i j ++ [.int .i64 0, .int .i64 i] = frow i (j + 1) := by
  unfold frow
  rw [List.range_succ, List.map_append]
  unfold rcs
  rw [List.flatMap_append]
  simp [firstF, h, rc]
theorem frow_ne {i j : Nat} (h : ¬ i = j) : frow i j ++ [.int .i64 16, .int .i64 (-1)] = frow i (j + 1) := by
  unfold frow
  rw [List.range_succ, List.map_append]
  unfold rcs
  rw [List.flatMap_append]
  simp [firstF, h, rc]
def frows (N i : Nat) : List (List Value) := (rowsM N firstF).take i
theorem frows_len {N i : Nat} (h : i ≤ N) : (frows N i).length = i := by unfold frows; rw [List.length_take, rowsM_len]; omega
theorem frows_flat {N i : Nat} {r : List Value} (h : r ∈ frows N i) : r.all flat = true := rowsM_flat (List.mem_of_mem_take h)
theorem frows_snoc {N i : Nat} (h : i < N) : frows N i ++ [frow i N] = frows N (i + 1) := by
  unfold frows
  rw [List.take_add_one, rowsM_at h]
  rfl
def nrf (N x : Nat) (ls : List Lk) : Blk := ⟨34, true, [.int .i64 N, lks x ls]⟩
/-- The memory ahead of row i. -/
def fH (N x : Nat) (ls : List Lk) (i : Nat) : Heap := if i = 0 then heapOf [nrf N x ls] else mH [nrf N x ls, ⟨92, true, rowsV 2 N i⟩] 93 (frows N i)
/-- .. with j routes of row i. -/
def gH (N x : Nat) (ls : List Lk) (i j : Nat) : Heap := if j = 0 then mH [nrf N x ls, ⟨92, true, rowsV 2 N i⟩] 93 (frows N i) else mH [nrf N x ls, ⟨92, true, rowsV 2 N i⟩] 93 (frows N i ++ [frow i j])
theorem fH_z {N x : Nat} {ls : List Lk} {i : Nat} (h : i = 0) : fH N x ls i = heapOf [nrf N x ls] := if_pos h
theorem fH_own {N x : Nat} {ls : List Lk} {i : Nat} (h : ¬ i = 0) : fH N x ls i = mH [nrf N x ls, ⟨92, true, rowsV 2 N i⟩] 93 (frows N i) := if_neg h
theorem gH_z {N x : Nat} {ls : List Lk} {i j : Nat} (h : j = 0) : gH N x ls i j = mH [nrf N x ls, ⟨92, true, rowsV 2 N i⟩] 93 (frows N i) := if_pos h
theorem gH_own {N x : Nat} {ls : List Lk} {i j : Nat} (h : ¬ j = 0) : gH N x ls i j = mH [nrf N x ls, ⟨92, true, rowsV 2 N i⟩] 93 (frows N i ++ [frow i j]) := if_neg h
theorem gH_last {N x : Nat} {ls : List Lk} {i j : Nat} (hi : i ≤ N) : (mH [nrf N x ls, ⟨92, true, rowsV 2 N i⟩] 93 (frows N i ++ [frow i j])).get (i + 2) = some ⟨93, true, frow i j⟩ := mH_row (pre := [nrf N x ls, ⟨92, true, rowsV 2 N i⟩]) (by rw [List.getElem?_append_right (by rw [frows_len hi]; exact Nat.le_refl _), frows_len hi, Nat.sub_self]; rfl)
theorem gH_row {N x : Nat} {ls : List Lk} {i j k : Nat} {r : List Value} (h : (frows N i)[k]? = some r) : (mH [nrf N x ls, ⟨92, true, rowsV 2 N i⟩] 93 (frows N i ++ [frow i j])).get (k + 2) = some ⟨93, true, r⟩ := mH_row (pre := [nrf N x ls, ⟨92, true, rowsV 2 N i⟩]) (by rw [List.getElem?_append_left (List.getElem?_eq_some_iff.1 h).1]; exact h)
theorem fH_row {N x : Nat} {ls : List Lk} {i k : Nat} {r : List Value} (h : (frows N i)[k]? = some r) : (mH [nrf N x ls, ⟨92, true, rowsV 2 N i⟩] 93 (frows N i)).get (k + 2) = some ⟨93, true, r⟩ := mH_row (pre := [nrf N x ls, ⟨92, true, rowsV 2 N i⟩]) h
theorem nrf_flat (N x : Nat) (ls : List Lk) : (nrf N x ls).cells.all flat = true := rfl
theorem f50 : E.funcs 50 = some Try.f50 := by kernel_rfl
set_option maxHeartbeats 4000000 in
theorem first50 (N x : Nat) (ls : List Lk) (hN : 1 ≤ N ∧ N ≤ 20) : Lent E 50 [netV N x ls] [] (.slice (some ⟨0, 0, none⟩) N N) (⟨92, true, rowsV 1 N N⟩ :: (rowsM N firstF).map (rowB 93)) := by
  refine Lent.of f50 rfl (of_decide_eq_true (by kernel_rfl)) rfl (by simp [List.all_map, rowB, rowsM]) (Nat.zero_le _) rfl (matOk rowsM_len (fun r hr => rowsM_flat hr)) (matRes N) ?_
  unfold netV lks
  refine Wp.seq (Wp.text ?_)
  refine md 1 (.pointer (some ⟨0, 0, none⟩)) (Blk.mk 34 true [Value.int .i64 (↑N : Int), Value.iface 48 (Value.iface (List.length ls) (Value.iface x (Value.agg (List.toArray (lcs ls)))))]) ?_
  refine kp 2 (.slice none 0 0) ?_
  refine WpOps.nil (thenK_at (Wp.seq (Wp.text ?_)))
  refine kp 3 (.slice none 0 0) ?_
  refine WpOps.nil (thenK_at (Wp.seq (Wp.seq (Wp.text ?_))))
  refine kp 4 (.int IntKind.i64 0) ?_
  refine WpOps.nil (thenK_at (Wp.block ?_))
  refine Wp.loop (G := Nat) (fun i => layj [(1, .pointer (some ⟨0, 0, none⟩)), (3, oV 1 i), (4, .int .i64 i)]) (fun i => fH N x ls i) (fun i => N - i) (fun i => i ≤ N) 0
    (View.of [0] [nrf N x ls] _ (by decide) rfl ⟨⟨[.int .i64 N, lks x ls], by kernel_rfl, by kernel_rfl, by kernel_rfl⟩, trivial⟩ ⟨⟨by kernel_rfl, rfl⟩, ⟨by kernel_rfl, rfl⟩, ⟨by kernel_rfl, rfl⟩, trivial⟩) (Nat.zero_le _) ?_
  intro i hi
  by_cases hlt : i < N
  · have d1 : decide ((i : Int) < N) = true := decide_eq_true (by omega)
    by_cases hi0 : i = 0
    · rw [oV_z hi0, fH_z hi0]
      unfold nrf lks
      refine Wp.seq (Wp.seq (Wp.text ?_))
      refine kp 7 (.int IntKind.i64 (↑i : Int)) ?_
      refine kp 8 (.pointer (some ⟨0, 0, none⟩)) ?_
      refine kp 9 (.int IntKind.i64 (↑N : Int)) ?_
      refine kp 10 (.bool true) ?_ (hop := fun _ => by_fact d1)
      refine WpOps.nil (thenK_at (on' (Wp.skip (thenK_at (Wp.seq (Wp.block (Wp.seq (Wp.text ?_))))))))
      refine kp 5 (.slice none 0 0) ?_
      refine WpOps.nil (thenK_at (Wp.seq (Wp.seq (Wp.text ?_))))
      refine kp 6 (.int IntKind.i64 0) ?_
      refine WpOps.nil (thenK_at (Wp.block ?_))
      refine Wp.loop (G := Nat) (fun j => layj [(1, .pointer (some ⟨0, 0, none⟩)), (3, .slice none 0 0), (4, .int .i64 i), (5, oV 1 j), (6, .int .i64 j)]) (fun j => heapOf (nrf N x ls :: oB 93 j (frow i j))) (fun j => N - j) (fun j => j ≤ N) 0
        (View.of [0] [nrf N x ls] _ (by decide) rfl ⟨⟨[.int .i64 N, lks x ls], by kernel_rfl, by kernel_rfl, by kernel_rfl⟩, trivial⟩ ⟨⟨by kernel_rfl, rfl⟩, ⟨by kernel_rfl, rfl⟩, ⟨by kernel_rfl, rfl⟩, ⟨by kernel_rfl, rfl⟩, ⟨by kernel_rfl, rfl⟩, trivial⟩) (Nat.zero_le _) ?_
      intro j hj
      by_cases hlt2 : j < N
      · have d2 : decide ((j : Int) < N) = true := decide_eq_true (by omega)
        by_cases hj0 : j = 0
        · rw [oV_z hj0, oB_z hj0]
          have e1 : ((i : Int) == (j : Int)) = true := beq_iff_eq.2 (by omega)
          have e3 := frow_eq (hi0.trans hj0.symm)
          unfold nrf lks
          refine Wp.seq (Wp.seq (Wp.text ?_))
          refine kp 13 (.int IntKind.i64 (↑j : Int)) ?_
          refine kp 14 (.pointer (some ⟨0, 0, none⟩)) ?_
          refine kp 15 (.int IntKind.i64 (↑N : Int)) ?_
          refine kp 16 (.bool true) ?_ (hop := fun _ => by_fact d2)
          refine WpOps.nil (thenK_at (on' (Wp.skip (thenK_at (Wp.seq (Wp.block (Wp.seq (Wp.text ?_))))))))
          refine kp 19 (.int IntKind.i64 (↑i : Int)) ?_
          refine kp 20 (.int IntKind.i64 (↑j : Int)) ?_
          refine kp 21 (.bool true) ?_ (hop := fun _ => by_fact e1)
          refine WpOps.nil (thenK_at (on' (Wp.text ?_)))
          refine kp 22 (.slice none 0 0) ?_
          refine kp 23 (.int IntKind.i64 (↑i : Int)) ?_
          refine kp 24 (.agg #[Value.int .i64 0, Value.int .i64 (↑i : Int)]) ?_
          refine md 25 (.slice (some ⟨1, 0, none⟩) 1 1) (Blk.mk 93 true [Value.int .i64 0, Value.int .i64 (↑i : Int)]) ?_
          refine md 26 (.slice (some ⟨2, 0, none⟩) 1 1) (Blk.mk 93 true [Value.int .i64 0, Value.int .i64 (↑i : Int)]) ?_
          refine kp 5 (.slice (some ⟨2, 0, none⟩) 1 1) ?_
          refine WpOps.nil (blockK_norm (thenK_at (Wp.text ?_)))
          refine kp 17 (.int IntKind.i64 (↑j : Int)) ?_
          refine kp 18 (.int IntKind.i64 (IntKind.wrap .i64 ((↑j : Int) + 1))) ?_
          refine kp 6 (.int IntKind.i64 (IntKind.wrap .i64 ((↑j : Int) + 1))) ?_
          refine WpOps.nil (thenK_at ?_)
          subst hj0
          refine ⟨0 + 1, by omega, by omega, ?_⟩
          try dsimp only
          rw [oV_own (by omega), oB_own (by omega)]
          exact View.of [0, 2] [nrf N x ls, ⟨93, true, frow i (0 + 1)⟩] _ (by decide) rfl ⟨⟨[.int .i64 N, lks x ls], by kernel_rfl, by kernel_rfl, by kernel_rfl⟩, ⟨_, by kernel_rfl, CellsOk.eq e3 (frow_flat _ _)⟩, trivial⟩ ⟨⟨by kernel_rfl, rfl⟩, ⟨by kernel_rfl, rfl⟩, ⟨by kernel_rfl, rfl⟩, ⟨by kernel_rfl, rfl⟩, ⟨by kernel_rfl, rfl⟩, trivial⟩
        · rw [oV_own hj0, oB_own hj0]
          have e1 : ((i : Int) == (j : Int)) = false := beq_eq_false_iff_ne.2 (by omega)
          have b1 : ¬ (j + 1 ≤ j) := by omega
          have b2 : 1 ≤ 16 ∧ (j + 1) * 16 ≤ 140737488355328 ∧ 2 = 2 ∧ j + 1 ≤ 9223372036854775807 := by omega
          have b3 := cells_whole (frow i j) (j * 2) (frow_len i j)
          have e3 := frow_ne (show ¬ i = j by omega)
          unfold nrf lks
          refine Wp.seq (Wp.seq (Wp.text ?_))
          refine kp 13 (.int IntKind.i64 (↑j : Int)) ?_
          refine kp 14 (.pointer (some ⟨0, 0, none⟩)) ?_
          refine kp 15 (.int IntKind.i64 (↑N : Int)) ?_
          refine kp 16 (.bool true) ?_ (hop := fun _ => by_fact d2)
          refine WpOps.nil (thenK_at (on' (Wp.skip (thenK_at (Wp.seq (Wp.block (Wp.seq (Wp.text ?_))))))))
          refine kp 19 (.int IntKind.i64 (↑i : Int)) ?_
          refine kp 20 (.int IntKind.i64 (↑j : Int)) ?_
          refine kp 21 (.bool false) ?_ (hop := fun _ => by_fact e1)
          refine WpOps.nil (thenK_at (off' (Wp.text ?_)))
          refine kp 27 (.slice (some ⟨1, 0, none⟩) j j) ?_
          refine kp 28 (.agg #[Value.int .i64 16, Value.int .i64 (-1)]) ?_
          refine md 29 (.slice (some ⟨2, 0, none⟩) 1 1) (Blk.mk 93 true [Value.int .i64 16, Value.int .i64 (-1)]) ?_
          refine ra 30 (.slice (some ⟨3, 0, none⟩) (j + 1) (j + 1)) (1) (Blk.mk 93 true (frow i j ++ [Value.int .i64 16, Value.int .i64 (-1)])) ?_ (hop := fun _ => o_append (e := 93) (1) (0) (j) _ (j) b1 b2 b3)
          refine kp 5 (.slice (some ⟨3, 0, none⟩) (j + 1) (j + 1)) ?_
          refine WpOps.nil (blockK_norm (thenK_at (Wp.text ?_)))
          refine kp 17 (.int IntKind.i64 (↑j : Int)) ?_
          refine kp 18 (.int IntKind.i64 (IntKind.wrap .i64 ((↑j : Int) + 1))) ?_
          refine kp 6 (.int IntKind.i64 (IntKind.wrap .i64 ((↑j : Int) + 1))) ?_
          refine WpOps.nil (thenK_at ?_)
          refine ⟨j + 1, by omega, by omega, ?_⟩
          try dsimp only
          rw [oV_own (by omega), oB_own (by omega)]
          exact View.of [0, 3] [nrf N x ls, ⟨93, true, frow i (j + 1)⟩] _ (by decide) rfl ⟨⟨[.int .i64 N, lks x ls], by kernel_rfl, by kernel_rfl, by kernel_rfl⟩, ⟨_, by kernel_rfl, CellsOk.eq e3 (frow_flat _ _)⟩, trivial⟩ ⟨⟨by kernel_rfl, rfl⟩, ⟨by kernel_rfl, rfl⟩, ⟨by kernel_rfl, rfl⟩, ⟨by kernel_rfl, rfl⟩, ⟨congrArg (Value.int .i64) (wr _ (by omega) (by omega)), rfl⟩, trivial⟩
      · obtain rfl : j = N := by omega
        have d2 : decide ((j : Int) < j) = false := decide_eq_false (by omega)
        rw [oV_own (by omega), oB_own (by omega)]
        unfold nrf lks
        refine Wp.seq (Wp.seq (Wp.text ?_))
        refine kp 13 (.int IntKind.i64 (↑j : Int)) ?_
        refine kp 14 (.pointer (some ⟨0, 0, none⟩)) ?_
        refine kp 15 (.int IntKind.i64 (↑j : Int)) ?_
        refine kp 16 (.bool false) ?_ (hop := fun _ => by_fact d2)
        refine WpOps.nil (thenK_at (off' (Wp.exit (thenK_exit (thenK_exit (blockK_hit (thenK_at (Wp.text ?_))))))))
        refine kp 31 (.slice none 0 0) ?_
        refine kp 32 (.slice (some ⟨1, 0, none⟩) j j) ?_
        refine md 33 (.slice (some ⟨2, 0, none⟩) 1 1) (Blk.mk 92 true [Value.slice (some ⟨1, 0, none⟩) j j]) ?_
        refine md 34 (.slice (some ⟨3, 0, none⟩) 1 1) (Blk.mk 92 true [Value.slice (some ⟨1, 0, none⟩) j j]) ?_
        refine kp 3 (.slice (some ⟨3, 0, none⟩) 1 1) ?_
        refine WpOps.nil (blockK_norm (thenK_at (Wp.text ?_)))
        refine kp 11 (.int IntKind.i64 (↑i : Int)) ?_
        refine kp 12 (.int IntKind.i64 (IntKind.wrap .i64 ((↑i : Int) + 1))) ?_
        refine kp 4 (.int IntKind.i64 (IntKind.wrap .i64 ((↑i : Int) + 1))) ?_
        refine WpOps.nil (thenK_at ?_)
        subst hi0
        refine ⟨0 + 1, by omega, by omega, ?_⟩
        try dsimp only
        rw [oV_own (by omega), fH_own (by omega)]
        have hs : frows j (0 + 1) = [frow 0 j] := by rw [← frows_snoc hlt]; rfl
        rw [hs]
        refine View.of [0, 3, 1] [nrf j x ls, ⟨92, true, rowsV 2 j (0 + 1)⟩, ⟨93, true, frow 0 j⟩] _ (by decide) rfl ⟨⟨[.int .i64 j, lks x ls], by kernel_rfl, by kernel_rfl, by kernel_rfl⟩, ⟨[.slice (some ⟨1, 0, none⟩) j j], by kernel_rfl, by kernel_rfl, by kernel_rfl⟩, ⟨_, by kernel_rfl, CellsOk.eq rfl (frow_flat _ _)⟩, trivial⟩ ⟨⟨by kernel_rfl, rfl⟩, ⟨by kernel_rfl, rfl⟩, ⟨by kernel_rfl, rfl⟩, trivial⟩
    · rw [oV_own hi0, fH_own hi0]
      have n0 : (mH [nrf N x ls, ⟨92, true, rowsV 2 N i⟩] 93 (frows N i)).get 0 = some ⟨34, true, [.int .i64 N, FS 48 ls.length x (lcs ls).toArray]⟩ := rfl
      refine Wp.seq (Wp.seq (Wp.text ?_))
      refine kp 7 (.int IntKind.i64 (↑i : Int)) ?_
      refine kp 8 (.pointer (some ⟨0, 0, none⟩)) ?_
      refine kp 9 (.int IntKind.i64 (↑N : Int)) ?_
      refine kp 10 (.bool true) ?_ (hop := fun _ => by_fact d1)
      refine WpOps.nil (thenK_at (on' (Wp.skip (thenK_at (Wp.seq (Wp.block (Wp.seq (Wp.text ?_))))))))
      refine kp 5 (.slice none 0 0) ?_
      refine WpOps.nil (thenK_at (Wp.seq (Wp.seq (Wp.text ?_))))
      refine kp 6 (.int IntKind.i64 0) ?_
      refine WpOps.nil (thenK_at (Wp.block ?_))
      refine Wp.loop (G := Nat) (fun j => layj [(1, .pointer (some ⟨0, 0, none⟩)), (3, .slice (some ⟨1, 0, none⟩) i i), (4, .int .i64 i), (5, oV (i + 2) j), (6, .int .i64 j)]) (fun j => gH N x ls i j) (fun j => N - j) (fun j => j ≤ N) 0
        ?_ (Nat.zero_le _) ?_
      · rw [gH_z rfl]
        refine View.mat [nrf N x ls, ⟨92, true, rowsV 2 N i⟩] 93 (frows N i) _ (Nat.zero_le _) (pre2 ⟨rfl, rfl⟩ ⟨rfl, rowsV_ok (by simp [frows_len hi])⟩) (fun k r h => ⟨fH_row h, okCs_flat (frows_flat (List.mem_of_getElem? h))⟩) ⟨⟨by kernel_rfl, okV_ptr (by simp; omega)⟩, ⟨by kernel_rfl, okV_sl (by simp; omega)⟩, ⟨by kernel_rfl, rfl⟩, ⟨by kernel_rfl, rfl⟩, ⟨by kernel_rfl, rfl⟩, trivial⟩
      intro j hj
      by_cases hlt2 : j < N
      · have d2 : decide ((j : Int) < N) = true := decide_eq_true (by omega)
        by_cases hj0 : j = 0
        · rw [oV_z hj0, gH_z hj0]
          have e1 : ((i : Int) == (j : Int)) = false := beq_eq_false_iff_ne.2 (by omega)
          have hnx : (mH [nrf N x ls, ⟨92, true, rowsV 2 N i⟩] 93 (frows N i)).next = i + 2 := by rw [mH_next]; simp [frows_len hi]; omega
          have n1 : ((mH [nrf N x ls, ⟨92, true, rowsV 2 N i⟩] 93 (frows N i)).alloc ⟨93, true, [.int .i64 16, .int .i64 (-1)]⟩).get (mH [nrf N x ls, ⟨92, true, rowsV 2 N i⟩] 93 (frows N i)).next = some ⟨93, true, [.int .i64 16, .int .i64 (-1)]⟩ := by simp
          have e3 := frow_ne (i := i) (j := j) (by omega)
          refine Wp.seq (Wp.seq (Wp.text ?_))
          refine kp 13 (.int IntKind.i64 (↑j : Int)) ?_
          refine kp 14 (.pointer (some ⟨0, 0, none⟩)) ?_
          refine kp 15 (.int IntKind.i64 (↑N : Int)) ?_
          refine kp 16 (.bool true) ?_ (hop := fun _ => by_fact d2)
          refine WpOps.nil (thenK_at (on' (Wp.skip (thenK_at (Wp.seq (Wp.block (Wp.seq (Wp.text ?_))))))))
          refine kp 19 (.int IntKind.i64 (↑i : Int)) ?_
          refine kp 20 (.int IntKind.i64 (↑j : Int)) ?_
          refine kp 21 (.bool false) ?_ (hop := fun _ => by_fact e1)
          refine WpOps.nil (thenK_at (off' (Wp.text ?_)))
          refine kp 27 (.slice none 0 0) ?_
          refine kp 28 (.agg #[Value.int .i64 16, Value.int .i64 (-1)]) ?_
          refine md 29 (.slice (some (Addr.mk (Heap.next (mH [nrf N x ls, Blk.mk 92 true (rowsV 2 N i)] 93 (frows N i))) 0 none)) 1 1) (Blk.mk 93 true [Value.int .i64 16, Value.int .i64 (-1)]) ?_
          refine md 30 (.slice (some (Addr.mk (Heap.next (Heap.alloc (mH [nrf N x ls, Blk.mk 92 true (rowsV 2 N i)] 93 (frows N i)) (Blk.mk 93 true [Value.int .i64 16, Value.int .i64 (-1)]))) 0 none)) 1 1) (Blk.mk 93 true [Value.int .i64 16, Value.int .i64 (-1)]) ?_ (hop := fun _ => o_append0 (e := 93) (size := 2) (bytes := 16) (zl := 2) _ (of_decide_eq_false (by kernel_rfl)) (of_decide_eq_true (by kernel_rfl)) (by kernel_rfl) (by kernel_rfl) (by kernel_rfl) (src_ofH (Heap.next (mH [nrf N x ls, Blk.mk 92 true (rowsV 2 N i)] 93 (frows N i))) (0) n1 (by kernel_rfl) (by kernel_rfl) (by kernel_rfl)))
          refine kp 5 (.slice (some (Addr.mk (Heap.next (Heap.alloc (mH [nrf N x ls, Blk.mk 92 true (rowsV 2 N i)] 93 (frows N i)) (Blk.mk 93 true [Value.int .i64 16, Value.int .i64 (-1)]))) 0 none)) 1 1) ?_
          refine WpOps.nil (blockK_norm (thenK_at (Wp.text ?_)))
          refine kp 17 (.int IntKind.i64 (↑j : Int)) ?_
          refine kp 18 (.int IntKind.i64 (IntKind.wrap .i64 ((↑j : Int) + 1))) ?_
          refine kp 6 (.int IntKind.i64 (IntKind.wrap .i64 ((↑j : Int) + 1))) ?_
          refine WpOps.nil (thenK_at ?_)
          subst hj0
          refine ⟨0 + 1, by omega, by omega, ?_⟩
          try dsimp only
          rw [oV_own (by omega), gH_own (by omega)]
          refine View.matL (nrf N x ls) 93 92 N (frows N i) (frow i (0 + 1)) i (i + 3) _ (frows_len hi) (by omega) ?_ (nrf_flat _ _ _) ?_ (fun k r h => ⟨?_, frows_flat (List.mem_of_getElem? h)⟩) ?_ (frow_flat _ _) ⟨⟨by kernel_rfl, okV_ptr (by omega)⟩, ⟨by kernel_rfl, okV_sl (by omega)⟩, ⟨by kernel_rfl, rfl⟩, ⟨congrArg (fun b => Value.slice (some ⟨b, 0, none⟩) 1 1) (show _ = if i + 2 = i + 2 then i + 3 else i + 2 by rw [if_pos rfl]; simp only [Heap.next_alloc, Heap.next_set, hnx]), okV_sl (by omega)⟩, ⟨congrArg (Value.int .i64) (wr _ (by omega) (by omega)), rfl⟩, trivial⟩
          · rw [Heap.get_alloc, if_neg (by simp only [Heap.next_alloc, Heap.next_set, hnx]; omega), Heap.get_alloc, if_neg (by rw [hnx]; omega)]
            rfl
          · rw [Heap.get_alloc, if_neg (by simp only [Heap.next_alloc, Heap.next_set, hnx]; omega), Heap.get_alloc, if_neg (by rw [hnx]; omega)]
            rfl
          · have hk : k < i := by
              have := (List.getElem?_eq_some_iff.1 h).1
              rwa [frows_len hi] at this
            rw [Heap.get_alloc, if_neg (by simp only [Heap.next_alloc, Heap.next_set, hnx]; omega), Heap.get_alloc, if_neg (by rw [hnx]; omega)]
            exact fH_row h
          · rw [Heap.get_alloc, if_pos (by simp only [Heap.next_alloc, Heap.next_set, hnx]), ← e3]
            rfl
        · rw [oV_own hj0, gH_own hj0]
          by_cases hij : i = j
          · have e1 : ((i : Int) == (j : Int)) = true := beq_iff_eq.2 (by omega)
            have hnx : (mH [nrf N x ls, ⟨92, true, rowsV 2 N i⟩] 93 (frows N i ++ [frow i j])).next = i + 3 := by rw [mH_next]; simp [frows_len hi]; omega
            have n1 : ((mH [nrf N x ls, ⟨92, true, rowsV 2 N i⟩] 93 (frows N i ++ [frow i j])).alloc ⟨93, true, [.int .i64 0, .int .i64 i]⟩).get (mH [nrf N x ls, ⟨92, true, rowsV 2 N i⟩] 93 (frows N i ++ [frow i j])).next = some ⟨93, true, [.int .i64 0, .int .i64 i]⟩ := by simp
            have n2 : ((mH [nrf N x ls, ⟨92, true, rowsV 2 N i⟩] 93 (frows N i ++ [frow i j])).alloc ⟨93, true, [.int .i64 0, .int .i64 i]⟩).get (i + 2) = some ⟨93, true, frow i j⟩ := by
              rw [Heap.get_alloc, if_neg (by omega)]
              exact gH_last hi
            have b1 : ¬ (j + 1 ≤ j) := by omega
            have b2 : 1 ≤ 16 ∧ (j + 1) * 16 ≤ 140737488355328 ∧ 2 = 2 ∧ j + 1 ≤ 9223372036854775807 := by omega
            have b3 := cells_whole (frow i j) (j * 2) (frow_len i j)
            have e3 := frow_eq hij
            refine Wp.seq (Wp.seq (Wp.text ?_))
            refine kp 13 (.int IntKind.i64 (↑j : Int)) ?_
            refine kp 14 (.pointer (some ⟨0, 0, none⟩)) ?_
            refine kp 15 (.int IntKind.i64 (↑N : Int)) ?_
            refine kp 16 (.bool true) ?_ (hop := fun _ => by_fact d2)
            refine WpOps.nil (thenK_at (on' (Wp.skip (thenK_at (Wp.seq (Wp.block (Wp.seq (Wp.text ?_))))))))
            refine kp 19 (.int IntKind.i64 (↑i : Int)) ?_
            refine kp 20 (.int IntKind.i64 (↑j : Int)) ?_
            refine kp 21 (.bool true) ?_ (hop := fun _ => by_fact e1)
            refine WpOps.nil (thenK_at (on' (Wp.text ?_)))
            refine kp 22 (.slice (some (Addr.mk (i + 2) 0 none)) j j) ?_
            refine kp 23 (.int IntKind.i64 (↑i : Int)) ?_
            refine kp 24 (.agg #[Value.int .i64 0, Value.int .i64 (↑i : Int)]) ?_
            refine md 25 (.slice (some (Addr.mk (Heap.next (mH [nrf N x ls, Blk.mk 92 true (rowsV 2 N i)] 93 (frows N i ++ [frow i j]))) 0 none)) 1 1) (Blk.mk 93 true [Value.int .i64 0, Value.int .i64 (↑i : Int)]) ?_
            refine ra 26 (.slice (some (Addr.mk (Heap.next (Heap.set (Heap.alloc (mH [nrf N x ls, Blk.mk 92 true (rowsV 2 N i)] 93 (frows N i ++ [frow i j])) (Blk.mk 93 true [Value.int .i64 0, Value.int .i64 (↑i : Int)])) (i + 2) none)) 0 none)) (j + 1) (j + 1)) (i + 2) (Blk.mk 93 true (frow i j ++ [Value.int .i64 0, Value.int .i64 (↑i : Int)])) ?_ (hop := fun _ => o_append (e := 93) (i + 2) (0) (j) _ (j) b1 b2 (own_ofH n2 b3) (by kernel_rfl) (by kernel_rfl) (by kernel_rfl) (src_ofH (Heap.next (mH [nrf N x ls, Blk.mk 92 true (rowsV 2 N i)] 93 (frows N i ++ [frow i j]))) (0) n1 (by kernel_rfl) (by kernel_rfl) (by kernel_rfl)))
            refine kp 5 (.slice (some (Addr.mk (Heap.next (Heap.set (Heap.alloc (mH [nrf N x ls, Blk.mk 92 true (rowsV 2 N i)] 93 (frows N i ++ [frow i j])) (Blk.mk 93 true [Value.int .i64 0, Value.int .i64 (↑i : Int)])) (i + 2) none)) 0 none)) (j + 1) (j + 1)) ?_
            refine WpOps.nil (blockK_norm (thenK_at (Wp.text ?_)))
            refine kp 17 (.int IntKind.i64 (↑j : Int)) ?_
            refine kp 18 (.int IntKind.i64 (IntKind.wrap .i64 ((↑j : Int) + 1))) ?_
            refine kp 6 (.int IntKind.i64 (IntKind.wrap .i64 ((↑j : Int) + 1))) ?_
            refine WpOps.nil (thenK_at ?_)
            refine ⟨j + 1, by omega, by omega, ?_⟩
            try dsimp only
            rw [oV_own (by omega), gH_own (by omega)]
            refine View.matL (nrf N x ls) 93 92 N (frows N i) (frow i (j + 1)) i (i + 4) _ (frows_len hi) (by omega) ?_ (nrf_flat _ _ _) ?_ (fun k r h => ⟨?_, frows_flat (List.mem_of_getElem? h)⟩) ?_ (frow_flat _ _) ⟨⟨by kernel_rfl, okV_ptr (by omega)⟩, ⟨by kernel_rfl, okV_sl (by omega)⟩, ⟨by kernel_rfl, rfl⟩, ⟨congrArg (fun b => Value.slice (some ⟨b, 0, none⟩) (j + 1) (j + 1)) (show _ = if i + 2 = i + 2 then i + 4 else i + 2 by rw [if_pos rfl]; simp only [Heap.next_alloc, Heap.next_set, hnx]), okV_sl (by omega)⟩, ⟨congrArg (Value.int .i64) (wr _ (by omega) (by omega)), rfl⟩, trivial⟩
            · rw [Heap.get_alloc, if_neg (by simp only [Heap.next_alloc, Heap.next_set, hnx]; omega), Heap.get_set, if_neg (by omega), Heap.get_alloc, if_neg (by rw [hnx]; omega)]
              rfl
            · rw [Heap.get_alloc, if_neg (by simp only [Heap.next_alloc, Heap.next_set, hnx]; omega), Heap.get_set, if_neg (by omega), Heap.get_alloc, if_neg (by rw [hnx]; omega)]
              rfl
            · have hk : k < i := by
                have := (List.getElem?_eq_some_iff.1 h).1
                rwa [frows_len hi] at this
              rw [Heap.get_alloc, if_neg (by simp only [Heap.next_alloc, Heap.next_set, hnx]; omega), Heap.get_set, if_neg (by omega), Heap.get_alloc, if_neg (by rw [hnx]; omega)]
              exact gH_row h
            · rw [Heap.get_alloc, if_pos (by simp only [Heap.next_alloc, Heap.next_set, hnx]), ← e3]
          · have e1 : ((i : Int) == (j : Int)) = false := beq_eq_false_iff_ne.2 (by omega)
            have hnx : (mH [nrf N x ls, ⟨92, true, rowsV 2 N i⟩] 93 (frows N i ++ [frow i j])).next = i + 3 := by rw [mH_next]; simp [frows_len hi]; omega
            have n1 : ((mH [nrf N x ls, ⟨92, true, rowsV 2 N i⟩] 93 (frows N i ++ [frow i j])).alloc ⟨93, true, [.int .i64 16, .int .i64 (-1)]⟩).get (mH [nrf N x ls, ⟨92, true, rowsV 2 N i⟩] 93 (frows N i ++ [frow i j])).next = some ⟨93, true, [.int .i64 16, .int .i64 (-1)]⟩ := by simp
            have n2 : ((mH [nrf N x ls, ⟨92, true, rowsV 2 N i⟩] 93 (frows N i ++ [frow i j])).alloc ⟨93, true, [.int .i64 16, .int .i64 (-1)]⟩).get (i + 2) = some ⟨93, true, frow i j⟩ := by
              rw [Heap.get_alloc, if_neg (by omega)]
              exact gH_last hi
            have b1 : ¬ (j + 1 ≤ j) := by omega
            have b2 : 1 ≤ 16 ∧ (j + 1) * 16 ≤ 140737488355328 ∧ 2 = 2 ∧ j + 1 ≤ 9223372036854775807 := by omega
            have b3 := cells_whole (frow i j) (j * 2) (frow_len i j)
            have e3 := frow_ne hij
            refine Wp.seq (Wp.seq (Wp.text ?_))
            refine kp 13 (.int IntKind.i64 (↑j : Int)) ?_
            refine kp 14 (.pointer (some ⟨0, 0, none⟩)) ?_
            refine kp 15 (.int IntKind.i64 (↑N : Int)) ?_
            refine kp 16 (.bool true) ?_ (hop := fun _ => by_fact d2)
            refine WpOps.nil (thenK_at (on' (Wp.skip (thenK_at (Wp.seq (Wp.block (Wp.seq (Wp.text ?_))))))))
            refine kp 19 (.int IntKind.i64 (↑i : Int)) ?_
            refine kp 20 (.int IntKind.i64 (↑j : Int)) ?_
            refine kp 21 (.bool false) ?_ (hop := fun _ => by_fact e1)
            refine WpOps.nil (thenK_at (off' (Wp.text ?_)))
            refine kp 27 (.slice (some (Addr.mk (i + 2) 0 none)) j j) ?_
            refine kp 28 (.agg #[Value.int .i64 16, Value.int .i64 (-1)]) ?_
            refine md 29 (.slice (some (Addr.mk (Heap.next (mH [nrf N x ls, Blk.mk 92 true (rowsV 2 N i)] 93 (frows N i ++ [frow i j]))) 0 none)) 1 1) (Blk.mk 93 true [Value.int .i64 16, Value.int .i64 (-1)]) ?_
            refine ra 30 (.slice (some (Addr.mk (Heap.next (Heap.set (Heap.alloc (mH [nrf N x ls, Blk.mk 92 true (rowsV 2 N i)] 93 (frows N i ++ [frow i j])) (Blk.mk 93 true [Value.int .i64 16, Value.int .i64 (-1)])) (i + 2) none)) 0 none)) (j + 1) (j + 1)) (i + 2) (Blk.mk 93 true (frow i j ++ [Value.int .i64 16, Value.int .i64 (-1)])) ?_ (hop := fun _ => o_append (e := 93) (i + 2) (0) (j) _ (j) b1 b2 (own_ofH n2 b3) (by kernel_rfl) (by kernel_rfl) (by kernel_rfl) (src_ofH (Heap.next (mH [nrf N x ls, Blk.mk 92 true (rowsV 2 N i)] 93 (frows N i ++ [frow i j]))) (0) n1 (by kernel_rfl) (by kernel_rfl) (by kernel_rfl)))
            refine kp 5 (.slice (some (Addr.mk (Heap.next (Heap.set (Heap.alloc (mH [nrf N x ls, Blk.mk 92 true (rowsV 2 N i)] 93 (frows N i ++ [frow i j])) (Blk.mk 93 true [Value.int .i64 16, Value.int .i64 (-1)])) (i + 2) none)) 0 none)) (j + 1) (j + 1)) ?_
            refine WpOps.nil (blockK_norm (thenK_at (Wp.text ?_)))
            refine kp 17 (.int IntKind.i64 (↑j : Int)) ?_
            refine kp 18 (.int IntKind.i64 (IntKind.wrap .i64 ((↑j : Int) + 1))) ?_
            refine kp 6 (.int IntKind.i64 (IntKind.wrap .i64 ((↑j : Int) + 1))) ?_
            refine WpOps.nil (thenK_at ?_)
            refine ⟨j + 1, by omega, by omega, ?_⟩
            try dsimp only
            rw [oV_own (by omega), gH_own (by omega)]
            refine View.matL (nrf N x ls) 93 92 N (frows N i) (frow i (j + 1)) i (i + 4) _ (frows_len hi) (by omega) ?_ (nrf_flat _ _ _) ?_ (fun k r h => ⟨?_, frows_flat (List.mem_of_getElem? h)⟩) ?_ (frow_flat _ _) ⟨⟨by kernel_rfl, okV_ptr (by omega)⟩, ⟨by kernel_rfl, okV_sl (by omega)⟩, ⟨by kernel_rfl, rfl⟩, ⟨congrArg (fun b => Value.slice (some ⟨b, 0, none⟩) (j + 1) (j + 1)) (show _ = if i + 2 = i + 2 then i + 4 else i + 2 by rw [if_pos rfl]; simp only [Heap.next_alloc, Heap.next_set, hnx]), okV_sl (by omega)⟩, ⟨congrArg (Value.int .i64) (wr _ (by omega) (by omega)), rfl⟩, trivial⟩
            · rw [Heap.get_alloc, if_neg (by simp only [Heap.next_alloc, Heap.next_set, hnx]; omega), Heap.get_set, if_neg (by omega), Heap.get_alloc, if_neg (by rw [hnx]; omega)]
              rfl
            · rw [Heap.get_alloc, if_neg (by simp only [Heap.next_alloc, Heap.next_set, hnx]; omega), Heap.get_set, if_neg (by omega), Heap.get_alloc, if_neg (by rw [hnx]; omega)]
              rfl
            · have hk : k < i := by
                have := (List.getElem?_eq_some_iff.1 h).1
                rwa [frows_len hi] at this
              rw [Heap.get_alloc, if_neg (by simp only [Heap.next_alloc, Heap.next_set, hnx]; omega), Heap.get_set, if_neg (by omega), Heap.get_alloc, if_neg (by rw [hnx]; omega)]
              exact gH_row h
            · rw [Heap.get_alloc, if_pos (by simp only [Heap.next_alloc, Heap.next_set, hnx]), ← e3]
      · obtain rfl : j = N := by omega
        have d2 : decide ((j : Int) < j) = false := decide_eq_false (by omega)
        rw [oV_own (by omega), gH_own (by omega)]
        have hnx : (mH [nrf j x ls, ⟨92, true, rowsV 2 j i⟩] 93 (frows j i ++ [frow i j])).next = i + 3 := by rw [mH_next]; simp [frows_len hi]; omega
        have n1 : ((mH [nrf j x ls, ⟨92, true, rowsV 2 j i⟩] 93 (frows j i ++ [frow i j])).alloc ⟨92, true, [.slice (some ⟨i + 2, 0, none⟩) j j]⟩).get (mH [nrf j x ls, ⟨92, true, rowsV 2 j i⟩] 93 (frows j i ++ [frow i j])).next = some ⟨92, true, [.slice (some ⟨i + 2, 0, none⟩) j j]⟩ := by simp
        have n2 : ((mH [nrf j x ls, ⟨92, true, rowsV 2 j i⟩] 93 (frows j i ++ [frow i j])).alloc ⟨92, true, [.slice (some ⟨i + 2, 0, none⟩) j j]⟩).get 1 = some ⟨92, true, rowsV 2 j i⟩ := by
          rw [Heap.get_alloc, if_neg (by omega)]
          rfl
        have b1 : ¬ (i + 1 ≤ i) := by omega
        have b2 : 1 ≤ 24 ∧ (i + 1) * 24 ≤ 140737488355328 ∧ 1 = 1 ∧ i + 1 ≤ 9223372036854775807 := by omega
        have b3 := cells_whole (rowsV 2 j i) (i * 1) (by rw [rowsV_len]; omega)
        refine Wp.seq (Wp.seq (Wp.text ?_))
        refine kp 13 (.int IntKind.i64 (↑j : Int)) ?_
        refine kp 14 (.pointer (some ⟨0, 0, none⟩)) ?_
        refine kp 15 (.int IntKind.i64 (↑j : Int)) ?_
        refine kp 16 (.bool false) ?_ (hop := fun _ => by_fact d2)
        refine WpOps.nil (thenK_at (off' (Wp.exit (thenK_exit (thenK_exit (blockK_hit (thenK_at (Wp.text ?_))))))))
        refine kp 31 (.slice (some ⟨1, 0, none⟩) i i) ?_
        refine kp 32 (.slice (some (Addr.mk (i + 2) 0 none)) j j) ?_
        refine md 33 (.slice (some (Addr.mk (Heap.next (mH [nrf j x ls, Blk.mk 92 true (rowsV 2 j i)] 93 (frows j i ++ [frow i j]))) 0 none)) 1 1) (Blk.mk 92 true [Value.slice (some (Addr.mk (i + 2) 0 none)) j j]) ?_
        refine ra 34 (.slice (some (Addr.mk (Heap.next (Heap.set (Heap.alloc (mH [nrf j x ls, Blk.mk 92 true (rowsV 2 j i)] 93 (frows j i ++ [frow i j])) (Blk.mk 92 true [Value.slice (some (Addr.mk (i + 2) 0 none)) j j])) 1 none)) 0 none)) (i + 1) (i + 1)) (1) (Blk.mk 92 true (rowsV 2 j i ++ [Value.slice (some (Addr.mk (i + 2) 0 none)) j j])) ?_ (hop := fun _ => o_append (e := 92) (1) (0) (i) _ (i) b1 b2 b3 (by kernel_rfl) (by kernel_rfl) (by kernel_rfl) (src_ofH (Heap.next (mH [nrf j x ls, Blk.mk 92 true (rowsV 2 j i)] 93 (frows j i ++ [frow i j]))) (0) n1 (by kernel_rfl) (by kernel_rfl) (by kernel_rfl)))
        refine kp 3 (.slice (some (Addr.mk (Heap.next (Heap.set (Heap.alloc (mH [nrf j x ls, Blk.mk 92 true (rowsV 2 j i)] 93 (frows j i ++ [frow i j])) (Blk.mk 92 true [Value.slice (some (Addr.mk (i + 2) 0 none)) j j])) 1 none)) 0 none)) (i + 1) (i + 1)) ?_
        refine WpOps.nil (blockK_norm (thenK_at (Wp.text ?_)))
        refine kp 11 (.int IntKind.i64 (↑i : Int)) ?_
        refine kp 12 (.int IntKind.i64 (IntKind.wrap .i64 ((↑i : Int) + 1))) ?_
        refine kp 4 (.int IntKind.i64 (IntKind.wrap .i64 ((↑i : Int) + 1))) ?_
        refine WpOps.nil (thenK_at ?_)
        refine ⟨i + 1, by omega, by omega, ?_⟩
        try dsimp only
        rw [oV_own (by omega), fH_own (by omega)]
        refine View.matO (nrf j x ls) 93 92 j (frows j (i + 1)) (i + 1) (i + 4) _ (frows_len hlt) (by omega) ?_ (nrf_flat _ _ _) ?_ (fun k r h => ⟨?_, frows_flat (List.mem_of_getElem? h)⟩) ⟨⟨by kernel_rfl, okV_ptr (by omega)⟩, ⟨congrArg (fun b => Value.slice (some ⟨b, 0, none⟩) (i + 1) (i + 1)) (show _ = if 1 = 1 then i + 4 else 1 by rw [if_pos rfl]; simp only [Heap.next_alloc, Heap.next_set, hnx]), okV_sl (by omega)⟩, ⟨congrArg (Value.int .i64) (wr _ (by omega) (by omega)), rfl⟩, trivial⟩
        · rw [Heap.get_alloc, if_neg (by simp only [Heap.next_alloc, Heap.next_set, hnx]; omega), Heap.get_set, if_neg (by omega), Heap.get_alloc, if_neg (by rw [hnx]; omega)]
          rfl
        · rw [Heap.get_alloc, if_pos (by simp only [Heap.next_alloc, Heap.next_set, hnx]), rowsV_succ]
        · have hk : k < i + 1 := by
            have := (List.getElem?_eq_some_iff.1 h).1
            rwa [frows_len hlt] at this
          rw [Heap.get_alloc, if_neg (by simp only [Heap.next_alloc, Heap.next_set, hnx]; omega), Heap.get_set, if_neg (by omega), Heap.get_alloc, if_neg (by rw [hnx]; omega)]
          rw [← frows_snoc hlt] at h
          by_cases e : k = i
          · subst e
            rw [List.getElem?_append_right (by rw [frows_len hi]; exact Nat.le_refl _), frows_len hi, Nat.sub_self] at h
            obtain rfl : frow k j = r := Option.some.inj h
            exact gH_last hi
          · rw [List.getElem?_append_left (by rw [frows_len hi]; omega)] at h
            exact gH_row h
  · obtain rfl : i = N := by omega
    have d1 : decide ((i : Int) < i) = false := decide_eq_false (by omega)
    rw [oV_own (by omega), fH_own (by omega)]
    have n0 : (mH [nrf i x ls, ⟨92, true, rowsV 2 i i⟩] 93 (frows i i)).get 0 = some ⟨34, true, [.int .i64 i, FS 48 ls.length x (lcs ls).toArray]⟩ := rfl
    refine Wp.seq (Wp.seq (Wp.text ?_))
    refine kp 7 (.int IntKind.i64 (↑i : Int)) ?_
    refine kp 8 (.pointer (some ⟨0, 0, none⟩)) ?_
    refine kp 9 (.int IntKind.i64 (↑i : Int)) ?_
    refine kp 10 (.bool false) ?_ (hop := fun _ => by_fact d1)
    refine WpOps.nil (thenK_at (off' (Wp.exit (thenK_exit (thenK_exit (blockK_hit (thenK_at (Wp.seq (Wp.text ?_)))))))))
    refine kp 35 (.slice (some ⟨1, 0, none⟩) i i) ?_
    refine kp 2 (.slice (some ⟨1, 0, none⟩) i i) ?_
    refine WpOps.nil (thenK_at (Wp.ret ?_))
    refine endK_retn [Value.slice (some (Addr.mk 1 0 none)) i i] (Value.slice (some (Addr.mk 1 0 none)) i i) (by kernel_rfl) (by kernel_rfl) ?_
    have e := lentMat (E := E) [nrf i x ls, ⟨92, true, rowsV 2 i i⟩] 93 92 (rowsM i firstF) 1 i rowsM_len rfl (fun r hr => rowsM_flat hr)
    have e1 : frows i i = rowsM i firstF := List.take_of_length_le (by rw [rowsM_len]; exact Nat.le_refl _)
    rw [e1]
    exact e
end Go.Proofs.Ytfjkanjmggbofaa.D
