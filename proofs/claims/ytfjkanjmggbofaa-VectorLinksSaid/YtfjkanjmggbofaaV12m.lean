/- The tables of the beginning, of both. -/
import Derived.Test.YtfjkanjmggbofaaFwLem
import Derived.Test.YtfjkanjmggbofaaFwCons
import Derived.Test.YtfjkanjmggbofaaV12l
namespace Go.Proofs.Ytfjkanjmggbofaa.D
open Go.Fw Go.RowKit

def far : List Value := [.int .i64 16, .int .i64 (-1)]
def rep (N : Nat) : List Value := rcs (List.replicate N (16, -1))
theorem repeat49 (N : Nat) (hN : 1 ≤ N ∧ N ≤ 20) : Lent E 49 [.slice (some ⟨0, 0, none⟩) 1 1, .int .i64 N] [⟨47, true, far⟩] (.slice (some ⟨1, 0, none⟩) N N) [⟨47, true, far⟩, ⟨47, true, rep N⟩] := by
  rcases (by omega : N = 1 ∨ N = 2 ∨ N = 3 ∨ N = 4 ∨ N = 5 ∨ N = 6 ∨ N = 7 ∨ N = 8 ∨ N = 9 ∨ N = 10 ∨ N = 11 ∨ N = 12 ∨ N = 13 ∨ N = 14 ∨ N = 15 ∨ N = 16 ∨ N = 17 ∨ N = 18 ∨ N = 19 ∨ N = 20) with rfl | rfl | rfl | rfl | rfl | rfl | rfl | rfl | rfl | rfl | rfl | rfl | rfl | rfl | rfl | rfl | rfl | rfl | rfl | rfl <;> exact Lent.closed11 (b := 1) 80 rfl rfl rfl rfl rfl (by decide) (by kernel_rfl)
theorem rep_row {N v : Nat} (h : v < N) : (List.replicate N ((16, -1) : Rt)).set v (0, (v : Int)) = (List.range N).map (firstF v) := by
  apply List.ext_getElem?
  intro j
  rw [List.getElem?_set]
  by_cases hj : j < N
  · by_cases e : v = j
    · subst e
      simp [hj, firstF]
    · simp [hj, e, firstF]
  · by_cases e : v = j
    · omega
    · simp [hj, e]
theorem oc_mv {N v k : Nat} (h : v < N) : (oc N v).set v (.slice (some ⟨k, 0, none⟩) N N) = (oc N (v + 1)).map (mvC (v + 2) k) := by
  have e : (oc N (v + 1)).map (mvC (v + 2) k) = rowsV 2 N v ++ .slice (some ⟨k, 0, none⟩) N N :: List.replicate (N - (v + 1)) (.slice none 0 0) := by
    unfold oc
    rw [List.map_append, rowsV_succ, List.map_append, map_mvC_rows (.inr (by omega)), List.map_replicate, List.append_assoc]
    show _ ++ (Value.slice (some ⟨if v + 2 = v + 2 then k else v + 2, 0, none⟩) N N :: _) = _
    rw [if_pos rfl]
    rfl
  rw [e]
  unfold oc
  rw [List.set_append_right _ _ (by rw [rowsV_len]; exact Nat.le_refl _), rowsV_len, Nat.sub_self, show N - v = (N - (v + 1)) + 1 by omega, List.replicate_succ, List.set_cons_zero]
def stH (N x : Nat) (ls : List Lk) (v : Nat) : Heap := mH [nv N x ls, ⟨45, true, oc N v⟩] 47 (frows N v)
theorem pair_ice {hp : Heap} {v u : Value} {k : IntKind} {n : Int} (hv : iceW E hp v = some u) : iceV E hp (.tuple #[v, .int k n]) = some (.tuple #[u, .int k n]) := by
  have h2 : mapO (iceW E hp) [v, .int k n] = some [u, .int k n] := by
    simp only [mapO, hv]
    rfl
  show (mapO (iceW E hp) [v, .int k n]).map _ = _
  rw [h2]
  rfl
theorem f21 : E.funcs 21 = some Try.f21 := by kernel_rfl
set_option maxHeartbeats 4000000 in
theorem start21 (N x : Nat) (ls : List Lk) (hN : 1 ≤ N ∧ N ≤ 20) (hv : Fun E 25 [netV N x ls] (.bool true)) : Fun E 21 [netV N x ls] (.tuple #[tabM 45 47 N firstF, .int .i64 0]) := by
  have hu : iceV E Heap.none (.tuple #[tabM 45 47 N firstF, .int .i64 0]) = some (.tuple #[tabM 45 47 N firstF, .int .i64 0]) := by
    rw [tabM_eq]
    rfl
  refine Fun.of f21 rfl (of_decide_eq_true (by kernel_rfl)) hu ?_
  unfold netV at hv ⊢
  unfold lks at hv ⊢
  have m1 : 0 ≤ (N : Int) ∧ (N : Int) = N ∧ ((24 : Nat) : Int) * N ≤ 281474976710656 ∧ (N : Int) ≤ 9223372036854775807 := by omega
  refine Wp.seq (Wp.text ?_)
  refine md 1 (.pointer (some ⟨0, 0, none⟩)) (Blk.mk 24 true [Value.int .i64 (↑N : Int), Value.iface 48 (Value.iface (List.length ls) (Value.iface x (Value.agg (List.toArray (lcs ls)))))]) ?_
  refine kp 2 (.slice none 0 0) ?_
  refine kp 3 (.int IntKind.i64 0) ?_
  refine WpOps.nil (thenK_at (Wp.seq (Wp.seq (Wp.text ?_))))
  refine kp 6 (.agg #[Value.int .i64 (↑N : Int), Value.iface 48 (Value.iface (List.length ls) (Value.iface x (Value.agg (List.toArray (lcs ls)))))]) ?_
  refine fr 7 25 [Value.agg #[Value.int .i64 (↑N : Int), Value.iface 48 (Value.iface (List.length ls) (Value.iface x (Value.agg (List.toArray (lcs ls)))))]] ?_
  refine WpFun.of (hv) ?_
  refine kp 8 (.bool false) ?_
  refine WpOps.nil (thenK_at (off' (Wp.skip (thenK_at (Wp.seq (Wp.text ?_))))))
  refine kp 9 (.pointer (some ⟨0, 0, none⟩)) ?_
  refine kp 10 (.int IntKind.i64 (↑N : Int)) ?_
  refine md 11 (.slice (some ⟨1, 0, none⟩) (Int.toNat (↑N : Int)) (Int.toNat (↑N : Int))) (Blk.mk 45 true (zeros [Value.slice none 0 0] (Int.toNat (↑N : Int)))) ?_ (hop := fun _ => o_makeSlice (e := 45) m1)
  refine kp 4 (.slice (some ⟨1, 0, none⟩) (Int.toNat (↑N : Int)) (Int.toNat (↑N : Int))) ?_
  refine WpOps.nil (thenK_at (Wp.seq (Wp.seq (Wp.text ?_))))
  refine kp 12 (.slice (some ⟨1, 0, none⟩) (Int.toNat (↑N : Int)) (Int.toNat (↑N : Int))) ?_
  refine kp 13 (.int IntKind.i64 (↑(Int.toNat (↑N : Int)) : Int)) ?_
  refine kp 14 (.int IntKind.i64 0) ?_
  refine WpOps.nil (thenK_at (Wp.block ?_))
  refine Wp.loop (G := Nat) (fun v => layj [(1, .pointer (some ⟨0, 0, none⟩)), (4, .slice (some ⟨1, 0, none⟩) N N), (13, .int .i64 N), (14, .int .i64 v)]) (fun v => stH N x ls v) (fun v => N - v) (fun v => v ≤ N) 0
    ?_ (Nat.zero_le _) ?_
  · refine View.mat [nv N x ls, ⟨45, true, oc N 0⟩] 47 [] _ (Nat.zero_le _) (pre2 ⟨rfl, rfl⟩ ⟨?_, oc_ok N 0 _ (by simp)⟩) (fun i r h => by simp at h) ⟨⟨by kernel_rfl, rfl⟩, ⟨by kernel_rfl, okV_sl (by simp)⟩, ⟨by kernel_rfl, rfl⟩, ⟨by kernel_rfl, rfl⟩, trivial⟩
    show some _ = some _
    have e1 := zeros_rep (Value.slice none 0 0) N
    simp only [oc, rowsV, List.range_zero, List.map_nil, List.nil_append, Nat.sub_zero]
    rw [← e1]
    rfl
  intro v hv2
  by_cases hlt : v < N
  · have d1 : decide ((v : Int) < N) = true := decide_eq_true (by omega)
    have g1 : 0 ≤ (v : Int) ∧ (v : Int) < N := by omega
    have hnx : (stH N x ls v).next = v + 2 := by unfold stH; rw [mH_next, frows_len hv2]; simp; omega
    have n0 : ((stH N x ls v).alloc ⟨47, true, [.int .i64 16, .int .i64 (-1)]⟩).get (stH N x ls v).next = some ⟨47, true, [.int .i64 16, .int .i64 (-1)]⟩ := by simp
    have c1 := repeat49 N hN
    refine Wp.seq (Wp.text ?_)
    refine kp 15 (.bool true) ?_ (hop := fun _ => by_fact d1)
    refine WpOps.nil (thenK_at (Wp.seq (on' (Wp.skip (thenK_at (Wp.seq (Wp.block (Wp.seq (Wp.text ?_)))))))))
    refine kp 16 (.int IntKind.i64 (↑v : Int)) ?_
    refine kp 5 (.int IntKind.i64 (↑v : Int)) ?_
    refine WpOps.nil (thenK_at (Wp.seq (Wp.text ?_)))
    refine kp 17 (.slice (some ⟨1, 0, none⟩) N N) ?_
    refine kp 18 (.int IntKind.i64 (↑v : Int)) ?_
    refine kp 19 (.agg #[Value.int .i64 16, Value.int .i64 (-1)]) ?_
    refine md 20 (.slice (some (Addr.mk (Heap.next (stH N x ls v)) 0 none)) 1 1) (Blk.mk 47 true [Value.int .i64 16, Value.int .i64 (-1)]) ?_
    refine kp 21 (.pointer (some ⟨0, 0, none⟩)) ?_
    refine kp 22 (.int IntKind.i64 (↑N : Int)) ?_
    refine cl 23 49 [Value.slice (some (Addr.mk (Heap.next (stH N x ls v)) 0 none)) 1 1, Value.int .i64 (↑N : Int)] ?_
    refine WpCall.lent11 c1 n0 rfl (rcs_flat _) rfl ?_
    have n1 : (((stH N x ls v).alloc ⟨47, true, [.int .i64 16, .int .i64 (-1)]⟩).alloc ⟨47, true, rep N⟩).get 1 = some ⟨45, true, oc N v⟩ := by
      rw [Heap.get_alloc, if_neg (by simp only [Heap.next_alloc]; omega), Heap.get_alloc, if_neg (by omega)]
      rfl
    have q1 : true = true ∧ 0 + (v : Int).toNat * 1 + [Value.slice (some ⟨((stH N x ls v).alloc ⟨47, true, [.int .i64 16, .int .i64 (-1)]⟩).next, 0, none⟩) N N].length ≤ (oc N v).length := ⟨rfl, by rw [oc_len hv2]; simp; omega⟩
    have u1 : ((oc N v).set (0 + (v : Int).toNat * 1) (.slice (some ⟨((stH N x ls v).alloc ⟨47, true, [.int .i64 16, .int .i64 (-1)]⟩).next, 0, none⟩) N N))[0 + (v : Int).toNat * 1]? = some (.slice (some ⟨((stH N x ls v).alloc ⟨47, true, [.int .i64 16, .int .i64 (-1)]⟩).next, 0, none⟩) N N) := by
      rw [List.getElem?_set, if_pos rfl, if_pos (by rw [oc_len hv2]; simp; omega)]
    have n2 : ((((stH N x ls v).alloc ⟨47, true, [.int .i64 16, .int .i64 (-1)]⟩).alloc ⟨47, true, rep N⟩).set 1 (some ⟨45, true, (oc N v).set (0 + (v : Int).toNat * 1) (.slice (some ⟨((stH N x ls v).alloc ⟨47, true, [.int .i64 16, .int .i64 (-1)]⟩).next, 0, none⟩) N N)⟩)).get 1 = some ⟨45, true, (oc N v).set (0 + (v : Int).toNat * 1) (.slice (some ⟨((stH N x ls v).alloc ⟨47, true, [.int .i64 16, .int .i64 (-1)]⟩).next, 0, none⟩) N N)⟩ := by
      rw [Heap.get_set, if_pos rfl]
    have n3 : ((((stH N x ls v).alloc ⟨47, true, [.int .i64 16, .int .i64 (-1)]⟩).alloc ⟨47, true, rep N⟩).set 1 (some ⟨45, true, (oc N v).set (0 + (v : Int).toNat * 1) (.slice (some ⟨((stH N x ls v).alloc ⟨47, true, [.int .i64 16, .int .i64 (-1)]⟩).next, 0, none⟩) N N)⟩)).get ((stH N x ls v).alloc ⟨47, true, [.int .i64 16, .int .i64 (-1)]⟩).next = some ⟨47, true, rep N⟩ := by
      rw [Heap.get_set, if_neg (by simp only [Heap.next_alloc]; omega), Heap.get_alloc, if_pos rfl]
    have q2 : true = true ∧ 0 + (v : Int).toNat * 2 + [Value.int .i64 0, .int .i64 v].length ≤ (rep N).length := ⟨rfl, by unfold rep; rw [rcs_len, List.length_replicate]; simp; omega⟩
    refine kp 24 (.pointer (some (Addr.mk 1 (0 + Int.toNat (↑v : Int) * 1) none))) ?_ (hop := fun _ => o_indexAddr (a := (↑v : Int)) (bl := 1) (off := 0) (size := 1) 45 (N) g1)
    refine ld (.tuple #[]) (1) (Blk.mk 45 true (List.set (oc N v) (0 + Int.toNat (↑v : Int) * 1) (Value.slice (some (Addr.mk (Heap.next (Heap.alloc (stH N x ls v) (Blk.mk 47 true [Value.int .i64 16, Value.int .i64 (-1)]))) 0 none)) N N))) ?_ (hop := fun _ => o_store1 (1) (0 + Int.toNat (↑v : Int) * 1) q1)
    refine WpOps.nil (thenK_at (Wp.text ?_))
    refine kp 25 (.slice (some ⟨1, 0, none⟩) N N) ?_
    refine kp 26 (.int IntKind.i64 (↑v : Int)) ?_
    refine kp 27 (.pointer (some (Addr.mk 1 (0 + Int.toNat (↑v : Int) * 1) none))) ?_ (hop := fun _ => o_indexAddr (a := (↑v : Int)) (bl := 1) (off := 0) (size := 1) 45 (N) g1)
    refine kp 28 (.slice (some (Addr.mk (Heap.next (Heap.alloc (stH N x ls v) (Blk.mk 47 true [Value.int .i64 16, Value.int .i64 (-1)]))) 0 none)) N N) ?_ (hop := fun _ => o_load1 (1) (0 + Int.toNat (↑v : Int) * 1) u1)
    refine kp 29 (.int IntKind.i64 (↑v : Int)) ?_
    refine kp 30 (.int IntKind.i64 (↑v : Int)) ?_
    refine kp 31 (.agg #[Value.int .i64 0, Value.int .i64 (↑v : Int)]) ?_
    refine kp 32 (.pointer (some (Addr.mk (Heap.next (Heap.alloc (stH N x ls v) (Blk.mk 47 true [Value.int .i64 16, Value.int .i64 (-1)]))) (0 + Int.toNat (↑v : Int) * 2) none))) ?_ (hop := fun _ => o_indexAddr (a := (↑v : Int)) (bl := Heap.next (Heap.alloc (stH N x ls v) (Blk.mk 47 true [Value.int IntKind.i64 16, Value.int IntKind.i64 (-1)]))) (off := 0) (size := 2) 47 (N) g1)
    refine ld (.tuple #[]) (Heap.next (Heap.alloc (stH N x ls v) (Blk.mk 47 true [Value.int .i64 16, Value.int .i64 (-1)]))) (Blk.mk 47 true (List.set (List.set (rep N) (0 + Int.toNat (↑v : Int) * 2) (Value.int .i64 0)) (0 + Int.toNat (↑v : Int) * 2 + 1) (Value.int .i64 (↑v : Int)))) ?_ (hop := fun _ => o_storeH (v := Value.agg #[Value.int IntKind.i64 0, Value.int IntKind.i64 (↑v : Int)]) (xs := [Value.int IntKind.i64 0, Value.int IntKind.i64 (↑v : Int)]) (Heap.next (Heap.alloc (stH N x ls v) (Blk.mk 47 true [Value.int IntKind.i64 16, Value.int IntKind.i64 (-1)]))) (0 + Int.toNat (↑v : Int) * 2) n3 q2)
    refine WpOps.nil (blockK_norm (thenK_at (Wp.text ?_)))
    refine kp 33 (.int IntKind.i64 (IntKind.wrap .i64 ((↑v : Int) + 1))) ?_
    refine kp 14 (.int IntKind.i64 (IntKind.wrap .i64 ((↑v : Int) + 1))) ?_
    refine WpOps.nil (thenK_at ?_)
    refine ⟨v + 1, by omega, by omega, ?_⟩
    have hnx2 : ((stH N x ls v).alloc ⟨47, true, [.int .i64 16, .int .i64 (-1)]⟩).next = v + 3 := by rw [Heap.next_alloc, hnx]
    have e1 : frows N (v + 1) = frows N v ++ [frow v N] := (frows_snoc hlt).symm
    rw [show stH N x ls (v + 1) = mH [nv N x ls, ⟨45, true, oc N (v + 1)⟩] 47 (frows N v ++ [frow v N]) by unfold stH; rw [e1]]
    refine View.matK (nv N x ls) ⟨45, true, oc N (v + 1)⟩ ((oc N v).set v (.slice (some ⟨v + 3, 0, none⟩) N N)) 47 (frows N v) (frow v N) v (v + 3) _ (frows_len hv2) (by omega) ?_ rfl ?_ (oc_mv hlt) (oc_ok N (v + 1) _ (by omega)) (fun i r h => ⟨?_, frows_flat (List.mem_of_getElem? h)⟩) ?_ (frow_flat _ _) ⟨⟨by kernel_rfl, okV_ptr (by omega)⟩, ⟨by kernel_rfl, okV_sl (by omega)⟩, ⟨by kernel_rfl, rfl⟩, ⟨congrArg (Value.int .i64) (wr _ (by omega) (by omega)), rfl⟩, trivial⟩
    · rw [Heap.get_set, if_neg (by omega), Heap.get_set, if_neg (by omega), Heap.get_alloc, if_neg (by omega), Heap.get_alloc, if_neg (by omega)]
      rfl
    · rw [Heap.get_set, if_neg (by omega), Heap.get_set, if_pos rfl, hnx2, Int.toNat_natCast, Nat.zero_add, Nat.mul_one]
    · have hi : i < v := by
        have := (List.getElem?_eq_some_iff.1 h).1
        rwa [frows_len hv2] at this
      rw [Heap.get_set, if_neg (by omega), Heap.get_set, if_neg (by omega), Heap.get_alloc, if_neg (by omega), Heap.get_alloc, if_neg (by omega)]
      exact mH_row (pre := [nv N x ls, ⟨45, true, oc N v⟩]) h
    · rw [hnx2, Heap.get_set, if_pos rfl, Int.toNat_natCast, Nat.zero_add]
      unfold rep
      rw [rcs_set, rep_row hlt]
      rfl
  · obtain rfl : v = N := by omega
    have d1 : decide ((v : Int) < v) = false := decide_eq_false (by omega)
    refine Wp.seq (Wp.text ?_)
    refine kp 15 (.bool false) ?_ (hop := fun _ => by_fact d1)
    refine WpOps.nil (thenK_at (Wp.seq (off' (Wp.exit (thenK_exit (thenK_exit (blockK_hit (thenK_at (Wp.seq (Wp.text ?_))))))))))
    refine kp 34 (.slice (some ⟨1, 0, none⟩) v v) ?_
    refine kp 2 (.slice (some ⟨1, 0, none⟩) v v) ?_
    refine kp 3 (.int IntKind.i64 0) ?_
    refine WpOps.nil (thenK_at (Wp.ret ?_))
    refine endK_retn [Value.slice (some (Addr.mk 1 0 none)) v v, Value.int IntKind.i64 0] (Value.tuple #[Value.slice (some (Addr.mk 1 0 none)) v v, Value.int IntKind.i64 0]) (by kernel_rfl) (by kernel_rfl) ?_
    have e : iceV E (stH v x ls v) (.slice (some ⟨1, 0, none⟩) v v) = some (tabM 45 47 v firstF) := by
      rw [tabM_eq]
      refine mat_ice (p := 2) (size := 2) (by kernel_rfl) (by kernel_rfl) rowsM_len ?_ (fun i r h => ?_) (fun r h => rowsM_row h) (fun r h => rowsM_flat h)
      · show some (Blk.mk 45 true (rowsV 2 v v ++ List.replicate (v - v) _)) = _
        rw [Nat.sub_self]
        simp
      · have e1 : frows v v = rowsM v firstF := List.take_of_length_le (by rw [rowsM_len]; exact Nat.le_refl _)
        exact mH_row (pre := [nv v x ls, ⟨45, true, oc v v⟩]) (by rw [e1]; exact h)
    exact pair_ice (show iceW E _ _ = _ from e)
theorem f22 : E.funcs 22 = some Try.f22 := by kernel_rfl
theorem start22 (N x : Nat) (ls : List Lk) (hN : 1 ≤ N ∧ N ≤ 20) (hv : Fun E 26 [netV N x ls] (.bool true)) : Fun E 22 [netV N x ls] (.tuple #[tabM 92 93 N firstF, .int .i64 0]) := by
  have hu : iceV E Heap.none (.tuple #[tabM 92 93 N firstF, .int .i64 0]) = some (.tuple #[tabM 92 93 N firstF, .int .i64 0]) := by
    rw [tabM_eq]
    rfl
  have c1 := first50 N x ls hN
  refine Fun.of f22 rfl (of_decide_eq_true (by kernel_rfl)) hu ?_
  unfold netV at hv c1 ⊢
  unfold lks at hv c1 ⊢
  refine Wp.seq (Wp.text ?_)
  refine md 1 (.pointer (some ⟨0, 0, none⟩)) (Blk.mk 34 true [Value.int .i64 (↑N : Int), Value.iface 48 (Value.iface (List.length ls) (Value.iface x (Value.agg (List.toArray (lcs ls)))))]) ?_
  refine kp 2 (.slice none 0 0) ?_
  refine kp 3 (.int IntKind.i64 0) ?_
  refine WpOps.nil (thenK_at (Wp.seq (Wp.seq (Wp.text ?_))))
  refine kp 4 (.agg #[Value.int .i64 (↑N : Int), Value.iface 48 (Value.iface (List.length ls) (Value.iface x (Value.agg (List.toArray (lcs ls)))))]) ?_
  refine fr 5 26 [Value.agg #[Value.int .i64 (↑N : Int), Value.iface 48 (Value.iface (List.length ls) (Value.iface x (Value.agg (List.toArray (lcs ls)))))]] ?_
  refine WpFun.of (hv) ?_
  refine kp 6 (.bool false) ?_
  refine WpOps.nil (thenK_at (off' (Wp.skip (thenK_at (Wp.seq (Wp.text ?_))))))
  refine kp 7 (.agg #[Value.int .i64 (↑N : Int), Value.iface 48 (Value.iface (List.length ls) (Value.iface x (Value.agg (List.toArray (lcs ls)))))]) ?_
  refine cl 8 50 [Value.agg #[Value.int .i64 (↑N : Int), Value.iface 48 (Value.iface (List.length ls) (Value.iface x (Value.agg (List.toArray (lcs ls)))))]] ?_
  refine WpCall.freshM c1 rowsM_len (fun r hr => rowsM_flat hr) (fun h2 hn hk h0 hr => ?_)
  refine kp 2 (.slice (some ⟨1, 0, none⟩) N N) ?_
  refine kp 3 (.int IntKind.i64 0) ?_
  refine WpOps.nil (thenK_at (Wp.ret ?_))
  refine endK_retn [Value.slice (some (Addr.mk 1 0 none)) N N, Value.int IntKind.i64 0] (Value.tuple #[Value.slice (some (Addr.mk 1 0 none)) N N, Value.int IntKind.i64 0]) (by kernel_rfl) (by kernel_rfl) ?_
  have e : iceV E h2 (.slice (some ⟨1, 0, none⟩) N N) = some (tabM 92 93 N firstF) := by
    rw [tabM_eq]
    exact mat_ice (p := 2) (size := 2) (by kernel_rfl) (by kernel_rfl) rowsM_len h0 (fun i r h => hr i r h) (fun r h => rowsM_row h) (fun r h => rowsM_flat h)
  exact pair_ice (show iceW E _ _ = _ from e)
theorem start21_bad (N : Int) (x : Nat) (ls : List Lk) (hv : Fun E 25 [netV N x ls] (.bool false)) : Fun E 21 [netV N x ls] (.tuple #[FS 45 0 2 #[], .int .i64 1]) := by
  refine Fun.ofN f21 rfl (of_decide_eq_true (by kernel_rfl)) (by kernel_rfl) ?_
  unfold netV at hv ⊢
  unfold lks at hv ⊢
  refine Wp.seq (Wp.text ?_)
  refine md 1 (.pointer (some ⟨0, 0, none⟩)) (Blk.mk 24 true [Value.int .i64 N, Value.iface 48 (Value.iface (List.length ls) (Value.iface x (Value.agg (List.toArray (lcs ls)))))]) ?_
  refine kp 2 (.slice none 0 0) ?_
  refine kp 3 (.int IntKind.i64 0) ?_
  refine WpOps.nil (thenK_at (Wp.seq (Wp.seq (Wp.text ?_))))
  refine kp 6 (.agg #[Value.int .i64 N, Value.iface 48 (Value.iface (List.length ls) (Value.iface x (Value.agg (List.toArray (lcs ls)))))]) ?_
  refine fr 7 25 [Value.agg #[Value.int .i64 N, Value.iface 48 (Value.iface (List.length ls) (Value.iface x (Value.agg (List.toArray (lcs ls)))))]] ?_
  refine WpFun.of (hv) ?_
  refine kp 8 (.bool true) ?_
  refine WpOps.nil (thenK_at (on' (Wp.seq (Wp.text ?_))))
  refine kp 2 (.slice none 0 0) ?_
  refine kp 3 (.int IntKind.i64 1) ?_
  refine WpOps.nil (thenK_at (Wp.ret (thenK_ret ?_)))
  refine endK_retn [Value.slice none 0 0, Value.int IntKind.i64 1] (Value.tuple #[Value.slice none 0 0, Value.int IntKind.i64 1]) (by kernel_rfl) (by kernel_rfl) ?_
  obtain ⟨ti, ht⟩ := E45
  exact ⟨_, by kernel_rfl, .tuple (.cons (.c (.inr ⟨rfl, 45, ti, ht, rfl⟩)) (.cons (.c (.inl rfl)) .nil))⟩
theorem start22_bad (N : Int) (x : Nat) (ls : List Lk) (hv : Fun E 26 [netV N x ls] (.bool false)) : Fun E 22 [netV N x ls] (.tuple #[FS 92 0 2 #[], .int .i64 1]) := by
  refine Fun.ofN f22 rfl (of_decide_eq_true (by kernel_rfl)) (by kernel_rfl) ?_
  unfold netV at hv ⊢
  unfold lks at hv ⊢
  refine Wp.seq (Wp.text ?_)
  refine md 1 (.pointer (some ⟨0, 0, none⟩)) (Blk.mk 34 true [Value.int .i64 N, Value.iface 48 (Value.iface (List.length ls) (Value.iface x (Value.agg (List.toArray (lcs ls)))))]) ?_
  refine kp 2 (.slice none 0 0) ?_
  refine kp 3 (.int IntKind.i64 0) ?_
  refine WpOps.nil (thenK_at (Wp.seq (Wp.seq (Wp.text ?_))))
  refine kp 4 (.agg #[Value.int .i64 N, Value.iface 48 (Value.iface (List.length ls) (Value.iface x (Value.agg (List.toArray (lcs ls)))))]) ?_
  refine fr 5 26 [Value.agg #[Value.int .i64 N, Value.iface 48 (Value.iface (List.length ls) (Value.iface x (Value.agg (List.toArray (lcs ls)))))]] ?_
  refine WpFun.of (hv) ?_
  refine kp 6 (.bool true) ?_
  refine WpOps.nil (thenK_at (on' (Wp.seq (Wp.text ?_))))
  refine kp 2 (.slice none 0 0) ?_
  refine kp 3 (.int IntKind.i64 1) ?_
  refine WpOps.nil (thenK_at (Wp.ret (thenK_ret ?_)))
  refine endK_retn [Value.slice none 0 0, Value.int IntKind.i64 1] (Value.tuple #[Value.slice none 0 0, Value.int IntKind.i64 1]) (by kernel_rfl) (by kernel_rfl) ?_
  obtain ⟨ti, ht⟩ := E92
  exact ⟨_, by kernel_rfl, .tuple (.cons (.c (.inr ⟨rfl, 92, ti, ht, rfl⟩)) (.cons (.c (.inl rfl)) .nil))⟩
end Go.Proofs.Ytfjkanjmggbofaa.D
