/- Tables of the law out of the program's, where those are one's own and stay so. -/
import Derived.Test.YtfjkanjmggbofaaFwLem
import Derived.Test.YtfjkanjmggbofaaFwOver
import Derived.Test.YtfjkanjmggbofaaV12p
namespace Go.Proofs.Ytfjkanjmggbofaa.D
open Go.Fw Go.RowKit

/-- Tables of one's own. -/
def tA (N : Nat) (g : Nat → Nat → Rt) : List Blk := ⟨45, true, rowsV 1 N N⟩ :: (rowsM N g).map (rowB 47)
theorem tA_len (N : Nat) (g : Nat → Nat → Rt) : (tA N g).length = N + 1 := by
  unfold tA
  rw [List.length_cons, List.length_map, rowsM_len]
theorem tA_row {N : Nat} (g : Nat → Nat → Rt) {i : Nat} (h : i < N) : (tA N g)[i + 1]? = some ⟨47, true, rcs ((List.range N).map (g i))⟩ := by
  unfold tA
  rw [List.getElem?_cons_succ, List.getElem?_map, rowsM_at h]
  rfl
theorem tA_ok {N : Nat} {g : Nat → Nat → Rt} {b : Nat} {x : Blk} (h : (tA N g)[b]? = some x) : x.cells.all (okC (tA N g).length) = true := by
  rw [tA_len]
  unfold tA at h
  match b, h with
  | 0, h =>
    obtain rfl := Option.some.inj h
    exact rowsV_ok (by omega)
  | b + 1, h =>
    rw [List.getElem?_cons_succ, List.getElem?_map] at h
    obtain ⟨r, h1, rfl⟩ := Option.map_eq_some_iff.1 h
    exact okCs_flat (rowsM_flat (List.mem_of_getElem? h1))
theorem tA_get {N : Nat} {g : Nat → Nat → Rt} {B : List Blk} {b : Nat} {x : Blk} (h : (tA N g)[b]? = some x) : (heapOf (tA N g ++ B)).get b = some x := by
  show (tA N g ++ B)[b]? = _
  rw [List.getElem?_append_left (List.getElem?_eq_some_iff.1 h).1]
  exact h
theorem tA_nx (N : Nat) (g : Nat → Nat → Rt) (B : List Blk) : (heapOf (tA N g ++ B)).next = N + 1 + B.length := by
  show (tA N g ++ B).length = _
  rw [List.length_append, tA_len]
theorem tA_at (N : Nat) (g : Nat → Nat → Rt) (B : List Blk) (j : Nat) : (heapOf (tA N g ++ B)).get (N + 1 + j) = B[j]? := by
  show (tA N g ++ B)[N + 1 + j]? = _
  rw [List.getElem?_append_right (by rw [tA_len]; omega), tA_len]
  congr 1
  omega
def tL (N : Nat) (g : Nat → Nat → Rt) (v : Nat) : List Rt := (List.range N).map (g v)
theorem tL_len (N : Nat) (g : Nat → Nat → Rt) (v : Nat) : (tL N g v).length = N := by simp [tL]
theorem tT_at {N : Nat} (g : Nat → Nat → Rt) {v : Nat} (h : v < N) : (matT N g).getD v (0, []) = (0, tL N g v) := by simp [matT, tL, List.getD_eq_getElem?_getD, h]
theorem al_get {h : Heap} {y x : Blk} {b : Nat} (hb : b < h.next) (e : h.get b = some x) : (h.alloc y).get b = some x := by
  rw [Heap.get_alloc, if_neg (by omega)]
  exact e
theorem al_nx {h : Heap} {y : Blk} {k : Nat} (e : k = h.next) : (h.alloc y).get k = some y := by
  rw [Heap.get_alloc, if_pos e]
theorem st_get {h : Heap} {z : Option Blk} {b k : Nat} {x : Blk} (hb : b ≠ k) (e : h.get b = some x) : (h.set k z).get b = some x := by
  rw [Heap.get_set, if_neg hb]
  exact e
theorem tA_lt {N : Nat} {g : Nat → Nat → Rt} {b : Nat} {x : Blk} (h : (tA N g)[b]? = some x) : b < N + 1 := by
  have := (List.getElem?_eq_some_iff.1 h).1
  rwa [tA_len] at this
theorem two_at {a c x : Blk} {b d k j : Nat} (h : [a, c][j]? = some x) (h2 : [b, d][j]? = some k) : (a = x ∧ b = k) ∨ (c = x ∧ d = k) := by
  match j, h, h2 with
  | 0, h, h2 => exact .inl ⟨Option.some.inj h, Option.some.inj h2⟩
  | 1, h, h2 => exact .inr ⟨Option.some.inj h, Option.some.inj h2⟩
  | j + 2, h, _ => simp at h
theorem one_at {a x : Blk} {b k j : Nat} (h : [a][j]? = some x) (h2 : [b][j]? = some k) : a = x ∧ b = k := by
  cases j with
  | zero => exact ⟨Option.some.inj h, Option.some.inj h2⟩
  | succ j => simp at h
set_option maxHeartbeats 8000000 in
theorem tables15L (N : Nat) (g : Nat → Nat → Rt) (hN : 1 ≤ N ∧ N ≤ 20) : Lent E 15 [.slice (some ⟨0, 0, none⟩) N N] (tA N g) (tabT (matT N g)) (tA N g) := by
  refine Lent.of f15 rfl (of_decide_eq_true (by kernel_rfl)) (by simp [tA, List.all_map, rowB, rowsM]) (by simp [tA, List.all_map, rowB, rowsM]) (Nat.le_refl _) ?_ ?_ rfl ?_
  · show (decide (0 < (tA N g).length) && true) = true
    rw [tA_len]
    simp
  · rw [List.all_eq_true]
    intro x hx
    obtain ⟨b, hb, rfl⟩ := List.getElem_of_mem hx
    exact tA_ok (List.getElem?_eq_getElem hb)
  have hT : (matT N g).length = N := by simp [matT]
  have hgA : ∀ (B : List Blk) (b : Nat) (x : Blk), (tA N g)[b]? = some x → (heapOf (tA N g ++ B)).get b = some x ∧ x.cells.all (okC (tA N g).length) = true := fun B b x h => ⟨tA_get h, tA_ok h⟩
  rw [show heapOf (tA N g) = heapOf (tA N g ++ []) by rw [List.append_nil]]
  refine Wp.seq (Wp.text ?_)
  refine kp 2 (.slice none 0 0) ?_
  refine WpOps.nil (thenK_at (Wp.seq (Wp.text ?_)))
  refine kp 3 (.slice none 0 0) ?_
  refine WpOps.nil (thenK_at (Wp.seq (Wp.seq (Wp.text ?_))))
  refine kp 4 (.int IntKind.i64 0) ?_
  refine WpOps.nil (thenK_at (Wp.block ?_))
  refine Wp.loop (G := Nat) (fun v => layj [(0, .slice (some ⟨0, 0, none⟩) N N), (3, oV (N + 1) v), (4, .int .i64 v)]) (fun v => heapOf (tA N g ++ oB 92 v (ocs 93 ((matT N g).take v)))) (fun v => N - v) (fun v => v ≤ N) 0
    (View.overI (tA N g) [] [] [(0, .slice (some ⟨0, 0, none⟩) N N), (3, .slice none 0 0), (4, .int .i64 (0 : Nat))] (Nat.le_refl _) rfl List.nodup_nil (fun k hk => absurd hk List.not_mem_nil) (hgA []) (fun j k x h => by simp at h) ⟨told_sl rfl (getD_lo _ (by rw [tA_len]; omega)) (by rw [List.append_nil, tA_len]; omega), told_fl rfl rfl, told_fl rfl rfl, trivial⟩) (Nat.zero_le _) ?_
  intro v hv
  by_cases hlt : v < N
  · have d1 : decide ((v : Int) < N) = true := decide_eq_true (by omega)
    have g1 : 0 ≤ (v : Int) ∧ (v : Int) < N := by omega
    have hsn := ocs_snoc 93 (matT N g) v (by omega)
    rw [tT_at g hlt] at hsn
    have u1 : (rowsV 1 N N)[0 + (v : Int).toNat * 1]? = some (.slice (some ⟨v + 1, 0, none⟩) N N) := by
      rw [Int.toNat_natCast, Nat.zero_add, Nat.mul_one]
      exact rowsV_at hlt
    have hrow := tA_row g hlt
    have hl : (List.range N).map (g v) = tL N g v := rfl
    rw [hl] at hrow
    have hll := tL_len N g v
    generalize tL N g v = l at hsn hrow hl hll
    by_cases hv0 : v = 0
    · rw [oV_z hv0, oB_z hv0]
      refine Wp.seq (Wp.seq (Wp.text ?_))
      refine kp 7 (.int IntKind.i64 (↑v : Int)) ?_
      refine kp 8 (.slice (some ⟨0, 0, none⟩) N N) ?_
      refine kp 9 (.int IntKind.i64 (↑N : Int)) ?_
      refine kp 10 (.bool true) ?_ (hop := fun _ => by_fact d1)
      refine WpOps.nil (thenK_at (on' (Wp.skip (thenK_at (Wp.seq (Wp.block (Wp.seq (Wp.text ?_))))))))
      refine kp 5 (.slice none 0 0) ?_
      refine WpOps.nil (thenK_at (Wp.seq (Wp.seq (Wp.text ?_))))
      refine kp 6 (.int IntKind.i64 0) ?_
      refine WpOps.nil (thenK_at (Wp.block ?_))
      refine Wp.loop (G := Nat) (fun k => layj [(0, .slice (some ⟨0, 0, none⟩) N N), (3, .slice none 0 0), (4, .int .i64 v), (5, oV (N + 1) k), (6, .int .i64 k)]) (fun k => heapOf (tA N g ++ ([] ++ oB 93 k (rcs (l.take k))))) (fun k => N - k) (fun k => k ≤ N) 0
        (View.overI (tA N g) [] [] [(0, .slice (some ⟨0, 0, none⟩) N N), (3, .slice none 0 0), (4, .int .i64 v), (5, .slice none 0 0), (6, .int .i64 (0 : Nat))] (Nat.le_refl _) rfl (by simp) (by simp [tA_len]) (hgA _) (fun j k x h => by simp at h) ⟨told_sl rfl (getD_lo _ (by rw [tA_len]; omega)) (by simp [tA_len]), told_fl rfl rfl, told_fl rfl rfl, told_fl rfl rfl, told_fl rfl rfl, trivial⟩) (Nat.zero_le _) ?_
      intro k hk
      by_cases hlt2 : k < N
      · have d2 : decide ((k : Int) < N) = true := decide_eq_true (by omega)
        have g2 : 0 ≤ (k : Int) ∧ (k : Int) < N := by omega
        obtain ⟨v2, v3⟩ := rcs_at l k (0, 0) (by omega)
        rw [List.toList_toArray] at v2 v3
        have v2' : (rcs l)[0 + (k : Int).toNat * 2 + 0]? = some (.int .i64 (l.getD k (0, 0)).1) := by rw [Nat.zero_add]; exact v2
        have v3' : (rcs l)[0 + (k : Int).toNat * 2 + 1]? = some (.int .i64 (l.getD k (0, 0)).2) := by rw [Nat.zero_add]; exact v3
        have hsn2 := rcs_snoc l k (by omega)
        by_cases hk0 : k = 0
        · rw [oV_z hk0, oB_z hk0, List.append_nil]
          have n0 : (heapOf (tA N g ++ [])).get 0 = some ⟨45, true, rowsV 1 N N⟩ := tA_get rfl
          have nr : (heapOf (tA N g ++ [])).get (v + 1) = some ⟨47, true, rcs l⟩ := tA_get hrow
          have hnx : (heapOf (tA N g ++ [])).next = N + 1 := tA_nx N g _
          have n1 : ∀ a b : Int, ((heapOf (tA N g ++ [])).alloc ⟨93, true, [.int .i64 a, .int .i64 b]⟩).get (heapOf (tA N g ++ [])).next = some ⟨93, true, [.int .i64 a, .int .i64 b]⟩ := by simp
          have n2 := n1 (l.getD k (0, 0)).1 (l.getD k (0, 0)).2
          refine Wp.seq (Wp.seq (Wp.text ?_))
          refine kp 13 (.int IntKind.i64 (↑k : Int)) ?_
          refine kp 14 (.slice (some ⟨0, 0, none⟩) N N) ?_
          refine kp 15 (.int IntKind.i64 (↑v : Int)) ?_
          refine kp 16 (.pointer (some (Addr.mk 0 (0 + Int.toNat (↑v : Int) * 1) none))) ?_ (hop := fun _ => o_indexAddr (a := (↑v : Int)) (bl := 0) (off := 0) (size := 1) 45 (N) g1)
          refine kp 17 (.slice (some (Addr.mk (v + 1) 0 none)) N N) ?_ (hop := fun _ => o_load1 (0) (0 + Int.toNat (↑v : Int) * 1) u1)
          refine kp 18 (.int IntKind.i64 (↑N : Int)) ?_
          refine kp 19 (.bool true) ?_ (hop := fun _ => by_fact d2)
          refine WpOps.nil (thenK_at (on' (Wp.skip (thenK_at (Wp.seq (Wp.block ?_))))))
          refine Wp.region (by kernel_rfl) ?_
          refine kp 22 (.slice none 0 0) ?_
          refine kp 23 (.slice (some ⟨0, 0, none⟩) N N) ?_
          refine kp 24 (.int IntKind.i64 (↑v : Int)) ?_
          refine kp 25 (.pointer (some (Addr.mk 0 (0 + Int.toNat (↑v : Int) * 1) none))) ?_ (hop := fun _ => o_indexAddr (a := (↑v : Int)) (bl := 0) (off := 0) (size := 1) 45 (N) g1)
          refine kp 26 (.slice (some (Addr.mk (v + 1) 0 none)) N N) ?_ (hop := fun _ => o_load1 (0) (0 + Int.toNat (↑v : Int) * 1) u1)
          refine kp 27 (.int IntKind.i64 (↑k : Int)) ?_
          refine kp 28 (.pointer (some (Addr.mk (v + 1) (0 + Int.toNat (↑k : Int) * 2) none))) ?_ (hop := fun _ => o_indexAddr (a := (↑k : Int)) (bl := v + 1) (off := 0) (size := 2) 47 (N) g2)
          refine kp 29 (.pointer (some (Addr.mk (v + 1) (0 + Int.toNat (↑k : Int) * 2 + 0) none))) ?_
          refine kp 30 (.int IntKind.i64 (Prod.fst (List.getD l k (0, 0)))) ?_ (hop := fun _ => o_load1H (v + 1) (0 + Int.toNat (↑k : Int) * 2 + 0) nr v2')
          refine kp 31 (.slice (some ⟨0, 0, none⟩) N N) ?_
          refine kp 32 (.int IntKind.i64 (↑v : Int)) ?_
          refine kp 33 (.pointer (some (Addr.mk 0 (0 + Int.toNat (↑v : Int) * 1) none))) ?_ (hop := fun _ => o_indexAddr (a := (↑v : Int)) (bl := 0) (off := 0) (size := 1) 45 (N) g1)
          refine kp 34 (.slice (some (Addr.mk (v + 1) 0 none)) N N) ?_ (hop := fun _ => o_load1 (0) (0 + Int.toNat (↑v : Int) * 1) u1)
          refine kp 35 (.int IntKind.i64 (↑k : Int)) ?_
          refine kp 36 (.pointer (some (Addr.mk (v + 1) (0 + Int.toNat (↑k : Int) * 2) none))) ?_ (hop := fun _ => o_indexAddr (a := (↑k : Int)) (bl := v + 1) (off := 0) (size := 2) 47 (N) g2)
          refine kp 37 (.pointer (some (Addr.mk (v + 1) (0 + Int.toNat (↑k : Int) * 2 + 1) none))) ?_
          refine kp 38 (.int IntKind.i64 (Prod.snd (List.getD l k (0, 0)))) ?_ (hop := fun _ => o_load1H (v + 1) (0 + Int.toNat (↑k : Int) * 2 + 1) nr v3')
          refine kp 39 (.agg #[Value.int .i64 (Prod.fst (List.getD l k (0, 0))), Value.int .i64 (Prod.snd (List.getD l k (0, 0)))]) ?_
          refine md 40 (.slice (some (Addr.mk (Heap.next (heapOf (tA N g ++ []))) 0 none)) 1 1) (Blk.mk 93 true [Value.int .i64 (Prod.fst (List.getD l k (0, 0))), Value.int .i64 (Prod.snd (List.getD l k (0, 0)))]) ?_
          refine md 41 (.slice (some (Addr.mk (Heap.next (Heap.alloc (heapOf (tA N g ++ [])) (Blk.mk 93 true [Value.int .i64 (Prod.fst (List.getD l k (0, 0))), Value.int .i64 (Prod.snd (List.getD l k (0, 0)))]))) 0 none)) 1 1) (Blk.mk 93 true [Value.int .i64 (Prod.fst (List.getD l k (0, 0))), Value.int .i64 (Prod.snd (List.getD l k (0, 0)))]) ?_ (hop := fun _ => o_append0 (e := 93) (size := 2) (bytes := 16) (zl := 2) _ (of_decide_eq_false (by kernel_rfl)) (of_decide_eq_true (by kernel_rfl)) (by kernel_rfl) (by kernel_rfl) (by kernel_rfl) (src_ofH (Heap.next (heapOf (tA N g ++ []))) (0) n2 (by kernel_rfl) (by kernel_rfl) (by kernel_rfl)))
          refine kp 5 (.slice (some (Addr.mk (Heap.next (Heap.alloc (heapOf (tA N g ++ [])) (Blk.mk 93 true [Value.int .i64 (Prod.fst (List.getD l k (0, 0))), Value.int .i64 (Prod.snd (List.getD l k (0, 0)))]))) 0 none)) 1 1) ?_
          refine WpOps.nil (blockK_norm (thenK_at (Wp.text ?_)))
          refine kp 20 (.int IntKind.i64 (↑k : Int)) ?_
          refine kp 21 (.int IntKind.i64 (IntKind.wrap .i64 ((↑k : Int) + 1))) ?_
          refine kp 6 (.int IntKind.i64 (IntKind.wrap .i64 ((↑k : Int) + 1))) ?_
          refine WpOps.nil (thenK_at ?_)
          subst hk0
          refine ⟨0 + 1, by omega, by omega, ?_⟩
          try dsimp only
          rw [oV_own (by omega), oB_own (by omega)]
          exact View.overI (tA N g) [⟨93, true, rcs (l.take (0 + 1))⟩] [N + 1 + 1] [(0, .slice (some ⟨0, 0, none⟩) N N), (3, .slice none 0 0), (4, .int .i64 v), (5, .slice (some ⟨N + 1, 0, none⟩) (0 + 1) (0 + 1)), (6, .int .i64 (0 + 1 : Nat))] (Nat.le_refl _) rfl (by simp) (by simp [tA_len]) (fun b x h => ⟨al_get (by have := tA_lt h; simp only [Heap.next_alloc, Heap.next_set, hnx]; omega) (al_get (by have := tA_lt h; rw [hnx]; omega) (tA_get h)), tA_ok h⟩) (fun j k x h h2 => by obtain ⟨rfl, rfl⟩ := one_at h h2; exact ⟨(al_nx (by simp only [Heap.next_alloc, Heap.next_set, hnx])).trans (congrArg (fun c => some (Blk.mk 93 true c)) hsn2), rcs_flat _⟩) ⟨told_sl rfl (getD_lo _ (by rw [tA_len]; omega)) (by simp [tA_len]), told_fl rfl rfl, told_fl rfl rfl, told_sl (congrArg (fun b => Value.slice (some ⟨b, 0, none⟩) (0 + 1) (0 + 1)) (show _ = N + 1 + 1 by simp only [Heap.next_alloc, Heap.next_set, hnx])) (by rw [show N + 1 = (tA N g).length + 0 by rw [tA_len]]; exact getD_hi _ 0) (by simp [tA_len]), told_fl rfl rfl, trivial⟩
        · rw [oV_own hk0, oB_own hk0]
          have n0 : (heapOf (tA N g ++ ([] ++ [⟨93, true, rcs (l.take k)⟩]))).get 0 = some ⟨45, true, rowsV 1 N N⟩ := tA_get rfl
          have nr : (heapOf (tA N g ++ ([] ++ [⟨93, true, rcs (l.take k)⟩]))).get (v + 1) = some ⟨47, true, rcs l⟩ := tA_get hrow
          have hnx : (heapOf (tA N g ++ ([] ++ [⟨93, true, rcs (l.take k)⟩]))).next = N + 1 + 1 := tA_nx N g _
          have n1 : ∀ a b : Int, ((heapOf (tA N g ++ ([] ++ [⟨93, true, rcs (l.take k)⟩]))).alloc ⟨93, true, [.int .i64 a, .int .i64 b]⟩).get (heapOf (tA N g ++ ([] ++ [⟨93, true, rcs (l.take k)⟩]))).next = some ⟨93, true, [.int .i64 a, .int .i64 b]⟩ := by simp
          have n2 := n1 (l.getD k (0, 0)).1 (l.getD k (0, 0)).2
          have hrr : (heapOf (tA N g ++ ([] ++ [⟨93, true, rcs (l.take k)⟩]))).get (N + 1) = some ⟨93, true, rcs (l.take k)⟩ := by have e := tA_at N g ([] ++ [⟨93, true, rcs (l.take k)⟩]) 0; rw [Nat.add_zero] at e; exact e
          have n3 : ∀ a b : Int, ((heapOf (tA N g ++ ([] ++ [⟨93, true, rcs (l.take k)⟩]))).alloc ⟨93, true, [.int .i64 a, .int .i64 b]⟩).get (N + 1) = some ⟨93, true, rcs (l.take k)⟩ := fun a b => al_get (by rw [hnx]; omega) hrr
          have n4 := n3 (l.getD k (0, 0)).1 (l.getD k (0, 0)).2
          have x1 : 0 ≠ N + 1 := by omega
          have x2 : v + 1 ≠ N + 1 := by omega
          have b1 : ¬ (k + 1 ≤ k) := by omega
          have b2 : 1 ≤ 16 ∧ (k + 1) * 16 ≤ 140737488355328 ∧ 2 = 2 ∧ k + 1 ≤ 9223372036854775807 := by omega
          have b3 := cells_whole (rcs (l.take k)) (k * 2) (by rw [rcs_len, List.length_take]; omega)
          refine Wp.seq (Wp.seq (Wp.text ?_))
          refine kp 13 (.int IntKind.i64 (↑k : Int)) ?_
          refine kp 14 (.slice (some ⟨0, 0, none⟩) N N) ?_
          refine kp 15 (.int IntKind.i64 (↑v : Int)) ?_
          refine kp 16 (.pointer (some (Addr.mk 0 (0 + Int.toNat (↑v : Int) * 1) none))) ?_ (hop := fun _ => o_indexAddr (a := (↑v : Int)) (bl := 0) (off := 0) (size := 1) 45 (N) g1)
          refine kp 17 (.slice (some (Addr.mk (v + 1) 0 none)) N N) ?_ (hop := fun _ => o_load1 (0) (0 + Int.toNat (↑v : Int) * 1) u1)
          refine kp 18 (.int IntKind.i64 (↑N : Int)) ?_
          refine kp 19 (.bool true) ?_ (hop := fun _ => by_fact d2)
          refine WpOps.nil (thenK_at (on' (Wp.skip (thenK_at (Wp.seq (Wp.block ?_))))))
          refine Wp.region (by kernel_rfl) ?_
          refine kp 22 (.slice (some (Addr.mk (N + 1) 0 none)) k k) ?_
          refine kp 23 (.slice (some ⟨0, 0, none⟩) N N) ?_
          refine kp 24 (.int IntKind.i64 (↑v : Int)) ?_
          refine kp 25 (.pointer (some (Addr.mk 0 (0 + Int.toNat (↑v : Int) * 1) none))) ?_ (hop := fun _ => o_indexAddr (a := (↑v : Int)) (bl := 0) (off := 0) (size := 1) 45 (N) g1)
          refine kp 26 (.slice (some (Addr.mk (v + 1) 0 none)) N N) ?_ (hop := fun _ => o_load1 (0) (0 + Int.toNat (↑v : Int) * 1) u1)
          refine kp 27 (.int IntKind.i64 (↑k : Int)) ?_
          refine kp 28 (.pointer (some (Addr.mk (v + 1) (0 + Int.toNat (↑k : Int) * 2) none))) ?_ (hop := fun _ => o_indexAddr (a := (↑k : Int)) (bl := v + 1) (off := 0) (size := 2) 47 (N) g2)
          refine kp 29 (.pointer (some (Addr.mk (v + 1) (0 + Int.toNat (↑k : Int) * 2 + 0) none))) ?_
          refine kp 30 (.int IntKind.i64 (Prod.fst (List.getD l k (0, 0)))) ?_ (hop := fun _ => o_load1H (v + 1) (0 + Int.toNat (↑k : Int) * 2 + 0) nr v2')
          refine kp 31 (.slice (some ⟨0, 0, none⟩) N N) ?_
          refine kp 32 (.int IntKind.i64 (↑v : Int)) ?_
          refine kp 33 (.pointer (some (Addr.mk 0 (0 + Int.toNat (↑v : Int) * 1) none))) ?_ (hop := fun _ => o_indexAddr (a := (↑v : Int)) (bl := 0) (off := 0) (size := 1) 45 (N) g1)
          refine kp 34 (.slice (some (Addr.mk (v + 1) 0 none)) N N) ?_ (hop := fun _ => o_load1 (0) (0 + Int.toNat (↑v : Int) * 1) u1)
          refine kp 35 (.int IntKind.i64 (↑k : Int)) ?_
          refine kp 36 (.pointer (some (Addr.mk (v + 1) (0 + Int.toNat (↑k : Int) * 2) none))) ?_ (hop := fun _ => o_indexAddr (a := (↑k : Int)) (bl := v + 1) (off := 0) (size := 2) 47 (N) g2)
          refine kp 37 (.pointer (some (Addr.mk (v + 1) (0 + Int.toNat (↑k : Int) * 2 + 1) none))) ?_
          refine kp 38 (.int IntKind.i64 (Prod.snd (List.getD l k (0, 0)))) ?_ (hop := fun _ => o_load1H (v + 1) (0 + Int.toNat (↑k : Int) * 2 + 1) nr v3')
          refine kp 39 (.agg #[Value.int .i64 (Prod.fst (List.getD l k (0, 0))), Value.int .i64 (Prod.snd (List.getD l k (0, 0)))]) ?_
          refine md 40 (.slice (some (Addr.mk (Heap.next (heapOf (tA N g ++ ([] ++ [Blk.mk 93 true (rcs (List.take k l))])))) 0 none)) 1 1) (Blk.mk 93 true [Value.int .i64 (Prod.fst (List.getD l k (0, 0))), Value.int .i64 (Prod.snd (List.getD l k (0, 0)))]) ?_
          refine ra 41 (.slice (some (Addr.mk (Heap.next (Heap.set (Heap.alloc (heapOf (tA N g ++ ([] ++ [Blk.mk 93 true (rcs (List.take k l))]))) (Blk.mk 93 true [Value.int .i64 (Prod.fst (List.getD l k (0, 0))), Value.int .i64 (Prod.snd (List.getD l k (0, 0)))])) (N + 1) none)) 0 none)) (k + 1) (k + 1)) (N + 1) (Blk.mk 93 true (rcs (List.take k l) ++ [Value.int .i64 (Prod.fst (List.getD l k (0, 0))), Value.int .i64 (Prod.snd (List.getD l k (0, 0)))])) ?_ (hop := fun _ => o_append (e := 93) (N + 1) (0) (k) _ (k) b1 b2 (own_ofH n4 b3) (by kernel_rfl) (by kernel_rfl) (by kernel_rfl) (src_ofH (Heap.next (heapOf (tA N g ++ ([] ++ [Blk.mk 93 true (rcs (List.take k l))])))) (0) n2 (by kernel_rfl) (by kernel_rfl) (by kernel_rfl)))
          refine kp 5 (.slice (some (Addr.mk (Heap.next (Heap.set (Heap.alloc (heapOf (tA N g ++ ([] ++ [Blk.mk 93 true (rcs (List.take k l))]))) (Blk.mk 93 true [Value.int .i64 (Prod.fst (List.getD l k (0, 0))), Value.int .i64 (Prod.snd (List.getD l k (0, 0)))])) (N + 1) none)) 0 none)) (k + 1) (k + 1)) ?_
          refine WpOps.nil (blockK_norm (thenK_at (Wp.text ?_)))
          refine kp 20 (.int IntKind.i64 (↑k : Int)) ?_
          refine kp 21 (.int IntKind.i64 (IntKind.wrap .i64 ((↑k : Int) + 1))) ?_
          refine kp 6 (.int IntKind.i64 (IntKind.wrap .i64 ((↑k : Int) + 1))) ?_
          refine WpOps.nil (thenK_at ?_)
          refine ⟨k + 1, by omega, by omega, ?_⟩
          try dsimp only
          rw [oV_own (by omega), oB_own (by omega)]
          exact View.overI (tA N g) [⟨93, true, rcs (l.take (k + 1))⟩] [N + 1 + 2] [(0, .slice (some ⟨0, 0, none⟩) N N), (3, .slice none 0 0), (4, .int .i64 v), (5, .slice (some ⟨N + 1, 0, none⟩) (k + 1) (k + 1)), (6, .int .i64 (k + 1 : Nat))] (Nat.le_refl _) rfl (by simp) (by simp [tA_len]) (fun b x h => ⟨al_get (by have := tA_lt h; simp only [Heap.next_alloc, Heap.next_set, hnx]; omega) (st_get (by have := tA_lt h; omega) (al_get (by have := tA_lt h; rw [hnx]; omega) (tA_get h))), tA_ok h⟩) (fun j k x h h2 => by obtain ⟨rfl, rfl⟩ := one_at h h2; exact ⟨(al_nx (by simp only [Heap.next_alloc, Heap.next_set, hnx])).trans (congrArg (fun c => some (Blk.mk 93 true c)) hsn2), rcs_flat _⟩) ⟨told_sl rfl (getD_lo _ (by rw [tA_len]; omega)) (by simp [tA_len]), told_fl rfl rfl, told_fl rfl rfl, told_sl (congrArg (fun b => Value.slice (some ⟨b, 0, none⟩) (k + 1) (k + 1)) (show _ = N + 1 + 2 by simp only [Heap.next_alloc, Heap.next_set, hnx])) (by rw [show N + 1 = (tA N g).length + 0 by rw [tA_len]]; exact getD_hi _ 0) (by simp [tA_len]), told_fl (congrArg (Value.int .i64) (wr _ (by omega) (by omega))) rfl, trivial⟩
      · obtain rfl : N = k := by omega
        have d2 : decide ((N : Int) < N) = false := decide_eq_false (by omega)
        have htk : l.take N = l := List.take_of_length_le (by omega)
        rw [oV_own (by omega), oB_own (by omega), htk]
        have hrr : (heapOf (tA N g ++ ([] ++ [⟨93, true, rcs l⟩]))).get (N + 1) = some ⟨93, true, rcs l⟩ := by have e := tA_at N g ([] ++ [⟨93, true, rcs l⟩]) 0; rw [Nat.add_zero] at e; exact e
        have ht := row_toldV (hp := heapOf (tA N g ++ ([] ++ [⟨93, true, rcs l⟩]))) (rl := List.range (tA N g).length ++ []) (m := (tA N g ++ ([] : List Blk)).length) l (b := N + 1) (by simp [tA_len]) (fun _ => hrr)
        rw [hll, oV_own (by omega)] at ht
        refine Wp.view (View.overI (tA N g) [] [] [(0, .slice (some ⟨0, 0, none⟩) N N), (3, .slice none 0 0), (4, .int .i64 v), (5, rowT 93 l), (6, .int .i64 N)] (Nat.le_refl _) rfl (by simp) (by simp [tA_len]) (fun b x h => hgA _ b x h) (fun j k x h => by simp at h) ⟨told_sl rfl (getD_lo _ (by rw [tA_len]; omega)) (by simp [tA_len]), told_fl rfl rfl, told_fl rfl rfl, ht, told_fl rfl rfl, trivial⟩) ?_
        have n0 : (heapOf (tA N g ++ [])).get 0 = some ⟨45, true, rowsV 1 N N⟩ := tA_get rfl
        have nr : (heapOf (tA N g ++ [])).get (v + 1) = some ⟨47, true, rcs l⟩ := tA_get hrow
        have hnx : (heapOf (tA N g ++ [])).next = N + 1 := tA_nx N g _
        unfold rowT rowF at *
        have n1 : ((heapOf (tA N g ++ [])).alloc ⟨92, true, [FS 93 l.length (if l.length = 0 then 2 else 0) (rcs l).toArray]⟩).get (heapOf (tA N g ++ [])).next = some ⟨92, true, [FS 93 l.length (if l.length = 0 then 2 else 0) (rcs l).toArray]⟩ := by simp
        refine Wp.seq (Wp.seq (Wp.text ?_))
        refine kp 13 (.int IntKind.i64 (↑N : Int)) ?_
        refine kp 14 (.slice (some ⟨0, 0, none⟩) N N) ?_
        refine kp 15 (.int IntKind.i64 (↑v : Int)) ?_
        refine kp 16 (.pointer (some (Addr.mk 0 (0 + Int.toNat (↑v : Int) * 1) none))) ?_ (hop := fun _ => o_indexAddr (a := (↑v : Int)) (bl := 0) (off := 0) (size := 1) 45 (N) g1)
        refine kp 17 (.slice (some (Addr.mk (v + 1) 0 none)) N N) ?_ (hop := fun _ => o_load1 (0) (0 + Int.toNat (↑v : Int) * 1) u1)
        refine kp 18 (.int IntKind.i64 (↑N : Int)) ?_
        refine kp 19 (.bool false) ?_ (hop := fun _ => by_fact d2)
        refine WpOps.nil (thenK_at (off' (Wp.exit (thenK_exit (thenK_exit (blockK_hit (thenK_at (Wp.text ?_))))))))
        refine kp 42 (.slice none 0 0) ?_
        refine kp 43 (.iface 93 (Value.iface (List.length l) (Value.iface (if List.length l = 0 then 2 else 0) (Value.agg (List.toArray (rcs l)))))) ?_
        refine md 44 (.slice (some (Addr.mk (Heap.next (heapOf (tA N g ++ []))) 0 none)) 1 1) (Blk.mk 92 true [Value.iface 93 (Value.iface (List.length l) (Value.iface (if List.length l = 0 then 2 else 0) (Value.agg (List.toArray (rcs l)))))]) ?_
        refine md 45 (.slice (some (Addr.mk (Heap.next (Heap.alloc (heapOf (tA N g ++ [])) (Blk.mk 92 true [Value.iface 93 (Value.iface (List.length l) (Value.iface (if List.length l = 0 then 2 else 0) (Value.agg (List.toArray (rcs l)))))]))) 0 none)) 1 1) (Blk.mk 92 true [Value.iface 93 (Value.iface (List.length l) (Value.iface (if List.length l = 0 then 2 else 0) (Value.agg (List.toArray (rcs l)))))]) ?_ (hop := fun _ => o_append0 (e := 92) (size := 1) (bytes := 24) (zl := 1) _ (of_decide_eq_false (by kernel_rfl)) (of_decide_eq_true (by kernel_rfl)) (by kernel_rfl) (by kernel_rfl) (by kernel_rfl) (src_ofH (Heap.next (heapOf (tA N g ++ []))) (0) n1 (by kernel_rfl) (by kernel_rfl) (by kernel_rfl)))
        refine kp 3 (.slice (some (Addr.mk (Heap.next (Heap.alloc (heapOf (tA N g ++ [])) (Blk.mk 92 true [Value.iface 93 (Value.iface (List.length l) (Value.iface (if List.length l = 0 then 2 else 0) (Value.agg (List.toArray (rcs l)))))]))) 0 none)) 1 1) ?_
        refine WpOps.nil (blockK_norm (thenK_at (Wp.text ?_)))
        refine kp 11 (.int IntKind.i64 (↑v : Int)) ?_
        refine kp 12 (.int IntKind.i64 (IntKind.wrap .i64 ((↑v : Int) + 1))) ?_
        refine kp 4 (.int IntKind.i64 (IntKind.wrap .i64 ((↑v : Int) + 1))) ?_
        refine WpOps.nil (thenK_at ?_)
        subst hv0
        refine ⟨0 + 1, by omega, by omega, ?_⟩
        try dsimp only
        rw [oV_own (by omega), oB_own (by omega)]
        exact View.overI (tA N g) [⟨92, true, ocs 93 ((matT N g).take (0 + 1))⟩] [N + 2] [(0, .slice (some ⟨0, 0, none⟩) N N), (3, .slice (some ⟨N + 1, 0, none⟩) (0 + 1) (0 + 1)), (4, .int .i64 (0 + 1 : Nat))] (Nat.le_refl _) rfl (by simp) (by simp [tA_len]) (fun b x h => ⟨al_get (by have := tA_lt h; simp only [Heap.next_alloc, Heap.next_set, hnx]; omega) (al_get (by have := tA_lt h; rw [hnx]; omega) (tA_get h)), tA_ok h⟩) (fun j k x h h2 => by obtain ⟨rfl, rfl⟩ := one_at h h2; exact ⟨(al_nx (by simp only [Heap.next_alloc, Heap.next_set, hnx])).trans (congrArg (fun c => some (Blk.mk 92 true c)) hsn), ocs_flat _ _⟩) ⟨told_sl rfl (getD_lo _ (by rw [tA_len]; omega)) (by simp [tA_len]), told_sl (congrArg (fun b => Value.slice (some ⟨b, 0, none⟩) (0 + 1) (0 + 1)) (show _ = N + 2 by simp only [Heap.next_alloc, Heap.next_set, hnx])) (by rw [show N + 1 = (tA N g).length + 0 by rw [tA_len]]; exact getD_hi _ 0) (by simp [tA_len]), told_fl rfl rfl, trivial⟩
    · rw [oV_own hv0, oB_own hv0]
      refine Wp.seq (Wp.seq (Wp.text ?_))
      refine kp 7 (.int IntKind.i64 (↑v : Int)) ?_
      refine kp 8 (.slice (some ⟨0, 0, none⟩) N N) ?_
      refine kp 9 (.int IntKind.i64 (↑N : Int)) ?_
      refine kp 10 (.bool true) ?_ (hop := fun _ => by_fact d1)
      refine WpOps.nil (thenK_at (on' (Wp.skip (thenK_at (Wp.seq (Wp.block (Wp.seq (Wp.text ?_))))))))
      refine kp 5 (.slice none 0 0) ?_
      refine WpOps.nil (thenK_at (Wp.seq (Wp.seq (Wp.text ?_))))
      refine kp 6 (.int IntKind.i64 0) ?_
      refine WpOps.nil (thenK_at (Wp.block ?_))
      refine Wp.loop (G := Nat) (fun k => layj [(0, .slice (some ⟨0, 0, none⟩) N N), (3, .slice (some ⟨N + 1, 0, none⟩) v v), (4, .int .i64 v), (5, oV (N + 2) k), (6, .int .i64 k)]) (fun k => heapOf (tA N g ++ ([⟨92, true, ocs 93 ((matT N g).take v)⟩] ++ oB 93 k (rcs (l.take k))))) (fun k => N - k) (fun k => k ≤ N) 0
        (View.overI (tA N g) [⟨92, true, ocs 93 ((matT N g).take v)⟩] [N + 1] [(0, .slice (some ⟨0, 0, none⟩) N N), (3, .slice (some ⟨N + 1, 0, none⟩) v v), (4, .int .i64 v), (5, .slice none 0 0), (6, .int .i64 (0 : Nat))] (Nat.le_refl _) rfl (by simp) (by simp [tA_len]) (hgA _) (fun j k x h h2 => by obtain ⟨rfl, rfl⟩ := one_at h h2; exact ⟨tA_at N g _ 0, ocs_flat _ _⟩) ⟨told_sl rfl (getD_lo _ (by rw [tA_len]; omega)) (by simp [tA_len]), told_sl rfl (by rw [← tA_len N g]; exact getD_hi _ 0) (by simp [tA_len]), told_fl rfl rfl, told_fl rfl rfl, told_fl rfl rfl, trivial⟩) (Nat.zero_le _) ?_
      intro k hk
      by_cases hlt2 : k < N
      · have d2 : decide ((k : Int) < N) = true := decide_eq_true (by omega)
        have g2 : 0 ≤ (k : Int) ∧ (k : Int) < N := by omega
        obtain ⟨v2, v3⟩ := rcs_at l k (0, 0) (by omega)
        rw [List.toList_toArray] at v2 v3
        have v2' : (rcs l)[0 + (k : Int).toNat * 2 + 0]? = some (.int .i64 (l.getD k (0, 0)).1) := by rw [Nat.zero_add]; exact v2
        have v3' : (rcs l)[0 + (k : Int).toNat * 2 + 1]? = some (.int .i64 (l.getD k (0, 0)).2) := by rw [Nat.zero_add]; exact v3
        have hsn2 := rcs_snoc l k (by omega)
        by_cases hk0 : k = 0
        · rw [oV_z hk0, oB_z hk0, List.append_nil]
          have n0 : (heapOf (tA N g ++ [⟨92, true, ocs 93 ((matT N g).take v)⟩])).get 0 = some ⟨45, true, rowsV 1 N N⟩ := tA_get rfl
          have nr : (heapOf (tA N g ++ [⟨92, true, ocs 93 ((matT N g).take v)⟩])).get (v + 1) = some ⟨47, true, rcs l⟩ := tA_get hrow
          have hnx : (heapOf (tA N g ++ [⟨92, true, ocs 93 ((matT N g).take v)⟩])).next = N + 2 := tA_nx N g _
          have n1 : ∀ a b : Int, ((heapOf (tA N g ++ [⟨92, true, ocs 93 ((matT N g).take v)⟩])).alloc ⟨93, true, [.int .i64 a, .int .i64 b]⟩).get (heapOf (tA N g ++ [⟨92, true, ocs 93 ((matT N g).take v)⟩])).next = some ⟨93, true, [.int .i64 a, .int .i64 b]⟩ := by simp
          have n2 := n1 (l.getD k (0, 0)).1 (l.getD k (0, 0)).2
          refine Wp.seq (Wp.seq (Wp.text ?_))
          refine kp 13 (.int IntKind.i64 (↑k : Int)) ?_
          refine kp 14 (.slice (some ⟨0, 0, none⟩) N N) ?_
          refine kp 15 (.int IntKind.i64 (↑v : Int)) ?_
          refine kp 16 (.pointer (some (Addr.mk 0 (0 + Int.toNat (↑v : Int) * 1) none))) ?_ (hop := fun _ => o_indexAddr (a := (↑v : Int)) (bl := 0) (off := 0) (size := 1) 45 (N) g1)
          refine kp 17 (.slice (some (Addr.mk (v + 1) 0 none)) N N) ?_ (hop := fun _ => o_load1 (0) (0 + Int.toNat (↑v : Int) * 1) u1)
          refine kp 18 (.int IntKind.i64 (↑N : Int)) ?_
          refine kp 19 (.bool true) ?_ (hop := fun _ => by_fact d2)
          refine WpOps.nil (thenK_at (on' (Wp.skip (thenK_at (Wp.seq (Wp.block ?_))))))
          refine Wp.region (by kernel_rfl) ?_
          refine kp 22 (.slice none 0 0) ?_
          refine kp 23 (.slice (some ⟨0, 0, none⟩) N N) ?_
          refine kp 24 (.int IntKind.i64 (↑v : Int)) ?_
          refine kp 25 (.pointer (some (Addr.mk 0 (0 + Int.toNat (↑v : Int) * 1) none))) ?_ (hop := fun _ => o_indexAddr (a := (↑v : Int)) (bl := 0) (off := 0) (size := 1) 45 (N) g1)
          refine kp 26 (.slice (some (Addr.mk (v + 1) 0 none)) N N) ?_ (hop := fun _ => o_load1 (0) (0 + Int.toNat (↑v : Int) * 1) u1)
          refine kp 27 (.int IntKind.i64 (↑k : Int)) ?_
          refine kp 28 (.pointer (some (Addr.mk (v + 1) (0 + Int.toNat (↑k : Int) * 2) none))) ?_ (hop := fun _ => o_indexAddr (a := (↑k : Int)) (bl := v + 1) (off := 0) (size := 2) 47 (N) g2)
          refine kp 29 (.pointer (some (Addr.mk (v + 1) (0 + Int.toNat (↑k : Int) * 2 + 0) none))) ?_
          refine kp 30 (.int IntKind.i64 (Prod.fst (List.getD l k (0, 0)))) ?_ (hop := fun _ => o_load1H (v + 1) (0 + Int.toNat (↑k : Int) * 2 + 0) nr v2')
          refine kp 31 (.slice (some ⟨0, 0, none⟩) N N) ?_
          refine kp 32 (.int IntKind.i64 (↑v : Int)) ?_
          refine kp 33 (.pointer (some (Addr.mk 0 (0 + Int.toNat (↑v : Int) * 1) none))) ?_ (hop := fun _ => o_indexAddr (a := (↑v : Int)) (bl := 0) (off := 0) (size := 1) 45 (N) g1)
          refine kp 34 (.slice (some (Addr.mk (v + 1) 0 none)) N N) ?_ (hop := fun _ => o_load1 (0) (0 + Int.toNat (↑v : Int) * 1) u1)
          refine kp 35 (.int IntKind.i64 (↑k : Int)) ?_
          refine kp 36 (.pointer (some (Addr.mk (v + 1) (0 + Int.toNat (↑k : Int) * 2) none))) ?_ (hop := fun _ => o_indexAddr (a := (↑k : Int)) (bl := v + 1) (off := 0) (size := 2) 47 (N) g2)
          refine kp 37 (.pointer (some (Addr.mk (v + 1) (0 + Int.toNat (↑k : Int) * 2 + 1) none))) ?_
          refine kp 38 (.int IntKind.i64 (Prod.snd (List.getD l k (0, 0)))) ?_ (hop := fun _ => o_load1H (v + 1) (0 + Int.toNat (↑k : Int) * 2 + 1) nr v3')
          refine kp 39 (.agg #[Value.int .i64 (Prod.fst (List.getD l k (0, 0))), Value.int .i64 (Prod.snd (List.getD l k (0, 0)))]) ?_
          refine md 40 (.slice (some (Addr.mk (Heap.next (heapOf (tA N g ++ [Blk.mk 92 true (ocs 93 (List.take v (matT N g)))]))) 0 none)) 1 1) (Blk.mk 93 true [Value.int .i64 (Prod.fst (List.getD l k (0, 0))), Value.int .i64 (Prod.snd (List.getD l k (0, 0)))]) ?_
          refine md 41 (.slice (some (Addr.mk (Heap.next (Heap.alloc (heapOf (tA N g ++ [Blk.mk 92 true (ocs 93 (List.take v (matT N g)))])) (Blk.mk 93 true [Value.int .i64 (Prod.fst (List.getD l k (0, 0))), Value.int .i64 (Prod.snd (List.getD l k (0, 0)))]))) 0 none)) 1 1) (Blk.mk 93 true [Value.int .i64 (Prod.fst (List.getD l k (0, 0))), Value.int .i64 (Prod.snd (List.getD l k (0, 0)))]) ?_ (hop := fun _ => o_append0 (e := 93) (size := 2) (bytes := 16) (zl := 2) _ (of_decide_eq_false (by kernel_rfl)) (of_decide_eq_true (by kernel_rfl)) (by kernel_rfl) (by kernel_rfl) (by kernel_rfl) (src_ofH (Heap.next (heapOf (tA N g ++ [Blk.mk 92 true (ocs 93 (List.take v (matT N g)))]))) (0) n2 (by kernel_rfl) (by kernel_rfl) (by kernel_rfl)))
          refine kp 5 (.slice (some (Addr.mk (Heap.next (Heap.alloc (heapOf (tA N g ++ [Blk.mk 92 true (ocs 93 (List.take v (matT N g)))])) (Blk.mk 93 true [Value.int .i64 (Prod.fst (List.getD l k (0, 0))), Value.int .i64 (Prod.snd (List.getD l k (0, 0)))]))) 0 none)) 1 1) ?_
          refine WpOps.nil (blockK_norm (thenK_at (Wp.text ?_)))
          refine kp 20 (.int IntKind.i64 (↑k : Int)) ?_
          refine kp 21 (.int IntKind.i64 (IntKind.wrap .i64 ((↑k : Int) + 1))) ?_
          refine kp 6 (.int IntKind.i64 (IntKind.wrap .i64 ((↑k : Int) + 1))) ?_
          refine WpOps.nil (thenK_at ?_)
          subst hk0
          refine ⟨0 + 1, by omega, by omega, ?_⟩
          try dsimp only
          rw [oV_own (by omega), oB_own (by omega)]
          exact View.overI (tA N g) [⟨92, true, ocs 93 ((matT N g).take v)⟩, ⟨93, true, rcs (l.take (0 + 1))⟩] [N + 1, N + 2 + 1] [(0, .slice (some ⟨0, 0, none⟩) N N), (3, .slice (some ⟨N + 1, 0, none⟩) v v), (4, .int .i64 v), (5, .slice (some ⟨N + 2, 0, none⟩) (0 + 1) (0 + 1)), (6, .int .i64 (0 + 1 : Nat))] (Nat.le_refl _) rfl (by simp) (by simp [tA_len]) (fun b x h => ⟨al_get (by have := tA_lt h; simp only [Heap.next_alloc, Heap.next_set, hnx]; omega) (al_get (by have := tA_lt h; rw [hnx]; omega) (tA_get h)), tA_ok h⟩) (fun j k x h h2 => by rcases two_at h h2 with ⟨rfl, rfl⟩ | ⟨rfl, rfl⟩ <;> first | exact ⟨al_get (by simp only [Heap.next_alloc, Heap.next_set, hnx]; omega) (al_get (by rw [hnx]; omega) (by have e := tA_at N g [⟨92, true, ocs 93 ((matT N g).take v)⟩] 0; rw [Nat.add_zero] at e; exact e)), ocs_flat _ _⟩ | exact ⟨(al_nx (by simp only [Heap.next_alloc, Heap.next_set, hnx])).trans (congrArg (fun c => some (Blk.mk 93 true c)) hsn2), rcs_flat _⟩) ⟨told_sl rfl (getD_lo _ (by rw [tA_len]; omega)) (by simp [tA_len]), told_sl rfl (by rw [← tA_len N g]; exact getD_hi _ 0) (by simp [tA_len]), told_fl rfl rfl, told_sl (congrArg (fun b => Value.slice (some ⟨b, 0, none⟩) (0 + 1) (0 + 1)) (show _ = N + 2 + 1 by simp only [Heap.next_alloc, Heap.next_set, hnx])) (by rw [show N + 2 = (tA N g).length + 1 by rw [tA_len]]; exact getD_hi _ 1) (by simp [tA_len]), told_fl rfl rfl, trivial⟩
        · rw [oV_own hk0, oB_own hk0]
          have n0 : (heapOf (tA N g ++ ([⟨92, true, ocs 93 ((matT N g).take v)⟩] ++ [⟨93, true, rcs (l.take k)⟩]))).get 0 = some ⟨45, true, rowsV 1 N N⟩ := tA_get rfl
          have nr : (heapOf (tA N g ++ ([⟨92, true, ocs 93 ((matT N g).take v)⟩] ++ [⟨93, true, rcs (l.take k)⟩]))).get (v + 1) = some ⟨47, true, rcs l⟩ := tA_get hrow
          have hnx : (heapOf (tA N g ++ ([⟨92, true, ocs 93 ((matT N g).take v)⟩] ++ [⟨93, true, rcs (l.take k)⟩]))).next = N + 2 + 1 := tA_nx N g _
          have n1 : ∀ a b : Int, ((heapOf (tA N g ++ ([⟨92, true, ocs 93 ((matT N g).take v)⟩] ++ [⟨93, true, rcs (l.take k)⟩]))).alloc ⟨93, true, [.int .i64 a, .int .i64 b]⟩).get (heapOf (tA N g ++ ([⟨92, true, ocs 93 ((matT N g).take v)⟩] ++ [⟨93, true, rcs (l.take k)⟩]))).next = some ⟨93, true, [.int .i64 a, .int .i64 b]⟩ := by simp
          have n2 := n1 (l.getD k (0, 0)).1 (l.getD k (0, 0)).2
          have hrr : (heapOf (tA N g ++ ([⟨92, true, ocs 93 ((matT N g).take v)⟩] ++ [⟨93, true, rcs (l.take k)⟩]))).get (N + 2) = some ⟨93, true, rcs (l.take k)⟩ := tA_at N g ([⟨92, true, ocs 93 ((matT N g).take v)⟩] ++ [⟨93, true, rcs (l.take k)⟩]) 1
          have n3 : ∀ a b : Int, ((heapOf (tA N g ++ ([⟨92, true, ocs 93 ((matT N g).take v)⟩] ++ [⟨93, true, rcs (l.take k)⟩]))).alloc ⟨93, true, [.int .i64 a, .int .i64 b]⟩).get (N + 2) = some ⟨93, true, rcs (l.take k)⟩ := fun a b => al_get (by rw [hnx]; omega) hrr
          have n4 := n3 (l.getD k (0, 0)).1 (l.getD k (0, 0)).2
          have x1 : 0 ≠ N + 2 := by omega
          have x2 : v + 1 ≠ N + 2 := by omega
          have b1 : ¬ (k + 1 ≤ k) := by omega
          have b2 : 1 ≤ 16 ∧ (k + 1) * 16 ≤ 140737488355328 ∧ 2 = 2 ∧ k + 1 ≤ 9223372036854775807 := by omega
          have b3 := cells_whole (rcs (l.take k)) (k * 2) (by rw [rcs_len, List.length_take]; omega)
          refine Wp.seq (Wp.seq (Wp.text ?_))
          refine kp 13 (.int IntKind.i64 (↑k : Int)) ?_
          refine kp 14 (.slice (some ⟨0, 0, none⟩) N N) ?_
          refine kp 15 (.int IntKind.i64 (↑v : Int)) ?_
          refine kp 16 (.pointer (some (Addr.mk 0 (0 + Int.toNat (↑v : Int) * 1) none))) ?_ (hop := fun _ => o_indexAddr (a := (↑v : Int)) (bl := 0) (off := 0) (size := 1) 45 (N) g1)
          refine kp 17 (.slice (some (Addr.mk (v + 1) 0 none)) N N) ?_ (hop := fun _ => o_load1 (0) (0 + Int.toNat (↑v : Int) * 1) u1)
          refine kp 18 (.int IntKind.i64 (↑N : Int)) ?_
          refine kp 19 (.bool true) ?_ (hop := fun _ => by_fact d2)
          refine WpOps.nil (thenK_at (on' (Wp.skip (thenK_at (Wp.seq (Wp.block ?_))))))
          refine Wp.region (by kernel_rfl) ?_
          refine kp 22 (.slice (some (Addr.mk (N + 2) 0 none)) k k) ?_
          refine kp 23 (.slice (some ⟨0, 0, none⟩) N N) ?_
          refine kp 24 (.int IntKind.i64 (↑v : Int)) ?_
          refine kp 25 (.pointer (some (Addr.mk 0 (0 + Int.toNat (↑v : Int) * 1) none))) ?_ (hop := fun _ => o_indexAddr (a := (↑v : Int)) (bl := 0) (off := 0) (size := 1) 45 (N) g1)
          refine kp 26 (.slice (some (Addr.mk (v + 1) 0 none)) N N) ?_ (hop := fun _ => o_load1 (0) (0 + Int.toNat (↑v : Int) * 1) u1)
          refine kp 27 (.int IntKind.i64 (↑k : Int)) ?_
          refine kp 28 (.pointer (some (Addr.mk (v + 1) (0 + Int.toNat (↑k : Int) * 2) none))) ?_ (hop := fun _ => o_indexAddr (a := (↑k : Int)) (bl := v + 1) (off := 0) (size := 2) 47 (N) g2)
          refine kp 29 (.pointer (some (Addr.mk (v + 1) (0 + Int.toNat (↑k : Int) * 2 + 0) none))) ?_
          refine kp 30 (.int IntKind.i64 (Prod.fst (List.getD l k (0, 0)))) ?_ (hop := fun _ => o_load1H (v + 1) (0 + Int.toNat (↑k : Int) * 2 + 0) nr v2')
          refine kp 31 (.slice (some ⟨0, 0, none⟩) N N) ?_
          refine kp 32 (.int IntKind.i64 (↑v : Int)) ?_
          refine kp 33 (.pointer (some (Addr.mk 0 (0 + Int.toNat (↑v : Int) * 1) none))) ?_ (hop := fun _ => o_indexAddr (a := (↑v : Int)) (bl := 0) (off := 0) (size := 1) 45 (N) g1)
          refine kp 34 (.slice (some (Addr.mk (v + 1) 0 none)) N N) ?_ (hop := fun _ => o_load1 (0) (0 + Int.toNat (↑v : Int) * 1) u1)
          refine kp 35 (.int IntKind.i64 (↑k : Int)) ?_
          refine kp 36 (.pointer (some (Addr.mk (v + 1) (0 + Int.toNat (↑k : Int) * 2) none))) ?_ (hop := fun _ => o_indexAddr (a := (↑k : Int)) (bl := v + 1) (off := 0) (size := 2) 47 (N) g2)
          refine kp 37 (.pointer (some (Addr.mk (v + 1) (0 + Int.toNat (↑k : Int) * 2 + 1) none))) ?_
          refine kp 38 (.int IntKind.i64 (Prod.snd (List.getD l k (0, 0)))) ?_ (hop := fun _ => o_load1H (v + 1) (0 + Int.toNat (↑k : Int) * 2 + 1) nr v3')
          refine kp 39 (.agg #[Value.int .i64 (Prod.fst (List.getD l k (0, 0))), Value.int .i64 (Prod.snd (List.getD l k (0, 0)))]) ?_
          refine md 40 (.slice (some (Addr.mk (Heap.next (heapOf (tA N g ++ ([Blk.mk 92 true (ocs 93 (List.take v (matT N g)))] ++ [Blk.mk 93 true (rcs (List.take k l))])))) 0 none)) 1 1) (Blk.mk 93 true [Value.int .i64 (Prod.fst (List.getD l k (0, 0))), Value.int .i64 (Prod.snd (List.getD l k (0, 0)))]) ?_
          refine ra 41 (.slice (some (Addr.mk (Heap.next (Heap.set (Heap.alloc (heapOf (tA N g ++ ([Blk.mk 92 true (ocs 93 (List.take v (matT N g)))] ++ [Blk.mk 93 true (rcs (List.take k l))]))) (Blk.mk 93 true [Value.int .i64 (Prod.fst (List.getD l k (0, 0))), Value.int .i64 (Prod.snd (List.getD l k (0, 0)))])) (N + 2) none)) 0 none)) (k + 1) (k + 1)) (N + 2) (Blk.mk 93 true (rcs (List.take k l) ++ [Value.int .i64 (Prod.fst (List.getD l k (0, 0))), Value.int .i64 (Prod.snd (List.getD l k (0, 0)))])) ?_ (hop := fun _ => o_append (e := 93) (N + 2) (0) (k) _ (k) b1 b2 (own_ofH n4 b3) (by kernel_rfl) (by kernel_rfl) (by kernel_rfl) (src_ofH (Heap.next (heapOf (tA N g ++ ([Blk.mk 92 true (ocs 93 (List.take v (matT N g)))] ++ [Blk.mk 93 true (rcs (List.take k l))])))) (0) n2 (by kernel_rfl) (by kernel_rfl) (by kernel_rfl)))
          refine kp 5 (.slice (some (Addr.mk (Heap.next (Heap.set (Heap.alloc (heapOf (tA N g ++ ([Blk.mk 92 true (ocs 93 (List.take v (matT N g)))] ++ [Blk.mk 93 true (rcs (List.take k l))]))) (Blk.mk 93 true [Value.int .i64 (Prod.fst (List.getD l k (0, 0))), Value.int .i64 (Prod.snd (List.getD l k (0, 0)))])) (N + 2) none)) 0 none)) (k + 1) (k + 1)) ?_
          refine WpOps.nil (blockK_norm (thenK_at (Wp.text ?_)))
          refine kp 20 (.int IntKind.i64 (↑k : Int)) ?_
          refine kp 21 (.int IntKind.i64 (IntKind.wrap .i64 ((↑k : Int) + 1))) ?_
          refine kp 6 (.int IntKind.i64 (IntKind.wrap .i64 ((↑k : Int) + 1))) ?_
          refine WpOps.nil (thenK_at ?_)
          refine ⟨k + 1, by omega, by omega, ?_⟩
          try dsimp only
          rw [oV_own (by omega), oB_own (by omega)]
          exact View.overI (tA N g) [⟨92, true, ocs 93 ((matT N g).take v)⟩, ⟨93, true, rcs (l.take (k + 1))⟩] [N + 1, N + 2 + 2] [(0, .slice (some ⟨0, 0, none⟩) N N), (3, .slice (some ⟨N + 1, 0, none⟩) v v), (4, .int .i64 v), (5, .slice (some ⟨N + 2, 0, none⟩) (k + 1) (k + 1)), (6, .int .i64 (k + 1 : Nat))] (Nat.le_refl _) rfl (by simp) (by simp [tA_len]) (fun b x h => ⟨al_get (by have := tA_lt h; simp only [Heap.next_alloc, Heap.next_set, hnx]; omega) (st_get (by have := tA_lt h; omega) (al_get (by have := tA_lt h; rw [hnx]; omega) (tA_get h))), tA_ok h⟩) (fun j k x h h2 => by rcases two_at h h2 with ⟨rfl, rfl⟩ | ⟨rfl, rfl⟩ <;> first | exact ⟨al_get (by simp only [Heap.next_alloc, Heap.next_set, hnx]; omega) (st_get (by omega) (al_get (by rw [hnx]; omega) (by have e := tA_at N g ([⟨92, true, ocs 93 ((matT N g).take v)⟩] ++ [⟨93, true, rcs (l.take k)⟩]) 0; rw [Nat.add_zero] at e; exact e))), ocs_flat _ _⟩ | exact ⟨(al_nx (by simp only [Heap.next_alloc, Heap.next_set, hnx])).trans (congrArg (fun c => some (Blk.mk 93 true c)) hsn2), rcs_flat _⟩) ⟨told_sl rfl (getD_lo _ (by rw [tA_len]; omega)) (by simp [tA_len]), told_sl rfl (by rw [← tA_len N g]; exact getD_hi _ 0) (by simp [tA_len]), told_fl rfl rfl, told_sl (congrArg (fun b => Value.slice (some ⟨b, 0, none⟩) (k + 1) (k + 1)) (show _ = N + 2 + 2 by simp only [Heap.next_alloc, Heap.next_set, hnx])) (by rw [show N + 2 = (tA N g).length + 1 by rw [tA_len]]; exact getD_hi _ 1) (by simp [tA_len]), told_fl (congrArg (Value.int .i64) (wr _ (by omega) (by omega))) rfl, trivial⟩
      · obtain rfl : N = k := by omega
        have d2 : decide ((N : Int) < N) = false := decide_eq_false (by omega)
        have htk : l.take N = l := List.take_of_length_le (by omega)
        rw [oV_own (by omega), oB_own (by omega), htk]
        have hrr : (heapOf (tA N g ++ ([⟨92, true, ocs 93 ((matT N g).take v)⟩] ++ [⟨93, true, rcs l⟩]))).get (N + 2) = some ⟨93, true, rcs l⟩ := tA_at N g ([⟨92, true, ocs 93 ((matT N g).take v)⟩] ++ [⟨93, true, rcs l⟩]) 1
        have ht := row_toldV (hp := heapOf (tA N g ++ ([⟨92, true, ocs 93 ((matT N g).take v)⟩] ++ [⟨93, true, rcs l⟩]))) (rl := List.range (tA N g).length ++ [N + 1]) (m := (tA N g ++ ([⟨92, true, ocs 93 ((matT N g).take v)⟩] : List Blk)).length) l (b := N + 2) (by simp [tA_len]) (fun _ => hrr)
        rw [hll, oV_own (by omega)] at ht
        refine Wp.view (View.overI (tA N g) [⟨92, true, ocs 93 ((matT N g).take v)⟩] [N + 1] [(0, .slice (some ⟨0, 0, none⟩) N N), (3, .slice (some ⟨N + 1, 0, none⟩) v v), (4, .int .i64 v), (5, rowT 93 l), (6, .int .i64 N)] (Nat.le_refl _) rfl (by simp) (by simp [tA_len]) (fun b x h => hgA _ b x h) (fun j k x h h2 => by obtain ⟨rfl, rfl⟩ := one_at h h2; exact ⟨(by have e := tA_at N g ([⟨92, true, ocs 93 ((matT N g).take v)⟩] ++ [⟨93, true, rcs l⟩]) 0; rw [Nat.add_zero] at e; exact e), ocs_flat _ _⟩) ⟨told_sl rfl (getD_lo _ (by rw [tA_len]; omega)) (by simp [tA_len]), told_sl rfl (by rw [← tA_len N g]; exact getD_hi _ 0) (by simp [tA_len]), told_fl rfl rfl, ht, told_fl rfl rfl, trivial⟩) ?_
        have n0 : (heapOf (tA N g ++ [⟨92, true, ocs 93 ((matT N g).take v)⟩])).get 0 = some ⟨45, true, rowsV 1 N N⟩ := tA_get rfl
        have nr : (heapOf (tA N g ++ [⟨92, true, ocs 93 ((matT N g).take v)⟩])).get (v + 1) = some ⟨47, true, rcs l⟩ := tA_get hrow
        have hnx : (heapOf (tA N g ++ [⟨92, true, ocs 93 ((matT N g).take v)⟩])).next = N + 2 := tA_nx N g _
        unfold rowT rowF at *
        have n1 : ((heapOf (tA N g ++ [⟨92, true, ocs 93 ((matT N g).take v)⟩])).alloc ⟨92, true, [FS 93 l.length (if l.length = 0 then 2 else 0) (rcs l).toArray]⟩).get (heapOf (tA N g ++ [⟨92, true, ocs 93 ((matT N g).take v)⟩])).next = some ⟨92, true, [FS 93 l.length (if l.length = 0 then 2 else 0) (rcs l).toArray]⟩ := by simp
        have n2 : ((heapOf (tA N g ++ [⟨92, true, ocs 93 ((matT N g).take v)⟩])).alloc ⟨92, true, [FS 93 l.length (if l.length = 0 then 2 else 0) (rcs l).toArray]⟩).get (N + 1) = some ⟨92, true, ocs 93 ((matT N g).take v)⟩ := al_get (by rw [hnx]; omega) (by have e := tA_at N g [⟨92, true, ocs 93 ((matT N g).take v)⟩] 0; rw [Nat.add_zero] at e; exact e)
        have b1 : ¬ (v + 1 ≤ v) := by omega
        have b2 : 1 ≤ 24 ∧ (v + 1) * 24 ≤ 140737488355328 ∧ 1 = 1 ∧ v + 1 ≤ 9223372036854775807 := by omega
        have b3 := cells_whole (ocs 93 ((matT N g).take v)) (v * 1) (by rw [ocs_len, List.length_take, hT]; omega)
        refine Wp.seq (Wp.seq (Wp.text ?_))
        refine kp 13 (.int IntKind.i64 (↑N : Int)) ?_
        refine kp 14 (.slice (some ⟨0, 0, none⟩) N N) ?_
        refine kp 15 (.int IntKind.i64 (↑v : Int)) ?_
        refine kp 16 (.pointer (some (Addr.mk 0 (0 + Int.toNat (↑v : Int) * 1) none))) ?_ (hop := fun _ => o_indexAddr (a := (↑v : Int)) (bl := 0) (off := 0) (size := 1) 45 (N) g1)
        refine kp 17 (.slice (some (Addr.mk (v + 1) 0 none)) N N) ?_ (hop := fun _ => o_load1 (0) (0 + Int.toNat (↑v : Int) * 1) u1)
        refine kp 18 (.int IntKind.i64 (↑N : Int)) ?_
        refine kp 19 (.bool false) ?_ (hop := fun _ => by_fact d2)
        refine WpOps.nil (thenK_at (off' (Wp.exit (thenK_exit (thenK_exit (blockK_hit (thenK_at (Wp.text ?_))))))))
        refine kp 42 (.slice (some (Addr.mk (N + 1) 0 none)) v v) ?_
        refine kp 43 (.iface 93 (Value.iface (List.length l) (Value.iface (if List.length l = 0 then 2 else 0) (Value.agg (List.toArray (rcs l)))))) ?_
        refine md 44 (.slice (some (Addr.mk (Heap.next (heapOf (tA N g ++ [Blk.mk 92 true (ocs 93 (List.take v (matT N g)))]))) 0 none)) 1 1) (Blk.mk 92 true [Value.iface 93 (Value.iface (List.length l) (Value.iface (if List.length l = 0 then 2 else 0) (Value.agg (List.toArray (rcs l)))))]) ?_
        refine ra 45 (.slice (some (Addr.mk (Heap.next (Heap.set (Heap.alloc (heapOf (tA N g ++ [Blk.mk 92 true (ocs 93 (List.take v (matT N g)))])) (Blk.mk 92 true [Value.iface 93 (Value.iface (List.length l) (Value.iface (if List.length l = 0 then 2 else 0) (Value.agg (List.toArray (rcs l)))))])) (N + 1) none)) 0 none)) (v + 1) (v + 1)) (N + 1) (Blk.mk 92 true (ocs 93 (List.take v (matT N g)) ++ [Value.iface 93 (Value.iface (List.length l) (Value.iface (if List.length l = 0 then 2 else 0) (Value.agg (List.toArray (rcs l)))))])) ?_ (hop := fun _ => o_append (e := 92) (N + 1) (0) (v) _ (v) b1 b2 (own_ofH n2 b3) (by kernel_rfl) (by kernel_rfl) (by kernel_rfl) (src_ofH (Heap.next (heapOf (tA N g ++ [Blk.mk 92 true (ocs 93 (List.take v (matT N g)))]))) (0) n1 (by kernel_rfl) (by kernel_rfl) (by kernel_rfl)))
        refine kp 3 (.slice (some (Addr.mk (Heap.next (Heap.set (Heap.alloc (heapOf (tA N g ++ [Blk.mk 92 true (ocs 93 (List.take v (matT N g)))])) (Blk.mk 92 true [Value.iface 93 (Value.iface (List.length l) (Value.iface (if List.length l = 0 then 2 else 0) (Value.agg (List.toArray (rcs l)))))])) (N + 1) none)) 0 none)) (v + 1) (v + 1)) ?_
        refine WpOps.nil (blockK_norm (thenK_at (Wp.text ?_)))
        refine kp 11 (.int IntKind.i64 (↑v : Int)) ?_
        refine kp 12 (.int IntKind.i64 (IntKind.wrap .i64 ((↑v : Int) + 1))) ?_
        refine kp 4 (.int IntKind.i64 (IntKind.wrap .i64 ((↑v : Int) + 1))) ?_
        refine WpOps.nil (thenK_at ?_)
        refine ⟨v + 1, by omega, by omega, ?_⟩
        try dsimp only
        rw [oV_own (by omega), oB_own (by omega)]
        exact View.overI (tA N g) [⟨92, true, ocs 93 ((matT N g).take (v + 1))⟩] [N + 3] [(0, .slice (some ⟨0, 0, none⟩) N N), (3, .slice (some ⟨N + 1, 0, none⟩) (v + 1) (v + 1)), (4, .int .i64 (v + 1 : Nat))] (Nat.le_refl _) rfl (by simp) (by simp [tA_len]) (fun b x h => ⟨al_get (by have := tA_lt h; simp only [Heap.next_alloc, Heap.next_set, hnx]; omega) (st_get (by have := tA_lt h; omega) (al_get (by have := tA_lt h; rw [hnx]; omega) (tA_get h))), tA_ok h⟩) (fun j k x h h2 => by obtain ⟨rfl, rfl⟩ := one_at h h2; exact ⟨(al_nx (by simp only [Heap.next_alloc, Heap.next_set, hnx])).trans (congrArg (fun c => some (Blk.mk 92 true c)) hsn), ocs_flat _ _⟩) ⟨told_sl rfl (getD_lo _ (by rw [tA_len]; omega)) (by simp [tA_len]), told_sl (congrArg (fun b => Value.slice (some ⟨b, 0, none⟩) (v + 1) (v + 1)) (show _ = N + 3 by simp only [Heap.next_alloc, Heap.next_set, hnx])) (by rw [show N + 1 = (tA N g).length + 0 by rw [tA_len]]; exact getD_hi _ 0) (by simp [tA_len]), told_fl (congrArg (Value.int .i64) (wr _ (by omega) (by omega))) rfl, trivial⟩
  · obtain rfl : N = v := by omega
    have d1 : decide ((N : Int) < N) = false := decide_eq_false (by omega)
    rw [oV_own (by omega), oB_own (by omega), List.take_of_length_le (by omega)]
    refine Wp.seq (Wp.seq (Wp.text ?_))
    refine kp 7 (.int IntKind.i64 (↑N : Int)) ?_
    refine kp 8 (.slice (some ⟨0, 0, none⟩) N N) ?_
    refine kp 9 (.int IntKind.i64 (↑N : Int)) ?_
    refine kp 10 (.bool false) ?_ (hop := fun _ => by_fact d1)
    refine WpOps.nil (thenK_at (off' (Wp.exit (thenK_exit (thenK_exit (blockK_hit (thenK_at (Wp.seq (Wp.text ?_)))))))))
    refine kp 46 (.slice (some (Addr.mk (N + 1) 0 none)) N N) ?_
    refine kp 2 (.slice (some (Addr.mk (N + 1) 0 none)) N N) ?_
    refine WpOps.nil (thenK_at (Wp.ret ?_))
    refine endK_retn [Value.slice (some (Addr.mk (N + 1) 0 none)) N N] (Value.slice (some (Addr.mk (N + 1) 0 none)) N N) (by kernel_rfl) (by kernel_rfl) ?_
    refine lentSame (tA N g) (fun b x h => hgA _ b x h) ?_
    unfold tabT
    rw [hT, if_neg (by omega)]
    have hb : ((heapOf (tA N g ++ [⟨92, true, ocs 93 (matT N g)⟩])).less (List.range (tA N g).length)).get (N + 1) = some ⟨92, true, ocs 93 (matT N g)⟩ := by
      show (if (List.range (tA N g).length).contains (N + 1) = true then Option.none else (heapOf (tA N g ++ [⟨92, true, ocs 93 (matT N g)⟩])).get (N + 1)) = _
      rw [if_neg (by simp [tA_len])]
      have e := tA_at N g [⟨92, true, ocs 93 (matT N g)⟩] 0
      rw [Nat.add_zero] at e
      exact e
    have hi := iceC_row (E := E) (n := N) (c := N) (e := 92) (size := 1) 3 (by kernel_rfl) hb (by rw [ocs_len, hT]; omega) (ocs_flat _ _)
    exact .w (.ice _ hi (.c (.inl rfl)))
end Go.Proofs.Ytfjkanjmggbofaa.D
