/- Chapter 12: nets and tables; matrices of one's own. -/
import Derived.Test.YtfjkanjmggbofaaFwLem
import Derived.Test.YtfjkanjmggbofaaFwMat
import Derived.Test.YtfjkanjmggbofaaFwBytes
import Derived.Test.YtfjkanjmggbofaaProg
namespace Go.Proofs.Ytfjkanjmggbofaa.D
open Go.Fw Go.RowKit

noncomputable def E : Env := envWith Try.prog [17, 14, 16, 20, 19, 12, 13, 21, 22, 23, 24, 25, 26, 27, 28, 29, 30, 31, 32, 33, 34, 35, 36, 37, 38, 39, 40, 45, 46, 47, 48, 52, 53, 54, 55, 56, 57, 58, 62]
theorem okE : EnvOk E Try.prog := envOf_ok (by kernel_rfl) _

/-- A link: both ends, its cost. -/
abbrev Lk := Int × Int × Int
def lc (l : Lk) : List Value := [.int .i64 l.1, .int .i64 l.2.1, .int .i64 l.2.2]
def lcs (ls : List Lk) : List Value := ls.flatMap lc
def lks (x : Nat) (ls : List Lk) : Value := FS 48 ls.length x (lcs ls).toArray
def netV (N : Int) (x : Nat) (ls : List Lk) : Value := .agg #[.int .i64 N, lks x ls]
theorem lcs_len : ∀ ls, (lcs ls).length = ls.length * 3
  | [] => rfl
  | a :: l => by
    have ih := lcs_len l
    unfold lcs at ih ⊢
    rw [List.flatMap_cons, List.length_append, ih, List.length_cons]
    show 3 + _ = _
    omega
theorem lcs_slice : ∀ (ls : List Lk) (i : Nat) (d : Lk), i < ls.length → ((lcs ls).drop (i * 3)).take 3 = lc (ls.getD i d)
  | [], i, _, h => absurd h (Nat.not_lt_zero _)
  | a :: l, 0, _, _ => rfl
  | a :: l, i + 1, d, h => by
    have ih := lcs_slice l i d (by simpa using h)
    unfold lcs at ih ⊢
    rw [List.flatMap_cons, show (i + 1) * 3 = 3 + i * 3 by omega, ← List.drop_drop]
    show List.take 3 (List.drop (i * 3) (List.flatMap lc l)) = _
    rw [ih]
    simp
theorem lcs_cells (ls : List Lk) (i : Nat) (d : Lk) (h : i < ls.length) : cellsAt (lcs ls).toArray.toList ((i : Int).toNat * 3) 3 = some (lc (ls.getD i d)) := by
  rw [Int.toNat_natCast, List.toList_toArray]
  have := lcs_slice ls i d h
  unfold cellsAt
  rw [if_pos (by rw [lcs_len]; omega), this]

/-! ## the costs of lines, of one's own -/
def okLk (N : Nat) (l : Lk) : Prop := 0 ≤ l.1 ∧ l.1 < l.2.1 ∧ l.2.1 < N ∧ 1 ≤ l.2.2 ∧ l.2.2 ≤ 15
/-- A matrix of numbers. -/
def matC (N : Nat) (c : Nat → Nat → Int) : List (List Value) := (List.range N).map fun i => (List.range N).map fun j => Value.int .i64 (c i j)
theorem matC_at {N : Nat} {c : Nat → Nat → Int} {i : Nat} (h : i < N) : (matC N c)[i]? = some ((List.range N).map fun j => Value.int .i64 (c i j)) := by simp [matC, h]
theorem matC_len {N : Nat} {c : Nat → Nat → Int} : (matC N c).length = N := by simp [matC]
theorem row_at {N : Nat} {c : Nat → Int} {j : Nat} (h : j < N) : ((List.range N).map fun j => Value.int .i64 (c j))[j]? = some (.int .i64 (c j)) := by simp [h]
theorem row_flat (N : Nat) (c : Nat → Int) : ((List.range N).map fun j => Value.int .i64 (c j)).all flat = true := by
  rw [List.all_eq_true]
  intro v hv
  obtain ⟨j, _, rfl⟩ := List.mem_map.1 hv
  rfl
theorem matC_flat {N : Nat} {c : Nat → Nat → Int} {r : List Value} (h : r ∈ matC N c) : r.all flat = true := by
  obtain ⟨i, _, rfl⟩ := List.mem_map.1 h
  exact row_flat N _
theorem row_set {N : Nat} (c : Nat → Int) {j : Nat} (v : Int) : ((List.range N).map fun j => Value.int .i64 (c j)).set j (.int .i64 v) = (List.range N).map fun k => Value.int .i64 (if k = j then v else c k) := by
  apply List.ext_getElem?
  intro k
  rw [List.getElem?_set]
  by_cases hk : k < N
  · by_cases e : j = k
    · subst e
      simp [hk]
    · have e' : ¬ k = j := fun h => e h.symm
      simp [hk, e, e']
  · by_cases e : j = k
    · subst e
      simp [hk]
    · simp [hk, e]

def zrow (N : Nat) : List Value := List.replicate N (.int .i64 0)
def nb (N x : Nat) (ls : List Lk) : Blk := ⟨24, true, [.int .i64 N, lks x ls]⟩
def oc (N v : Nat) : List Value := rowsV 2 N v ++ List.replicate (N - v) (.slice none 0 0)
theorem oc_len {N v : Nat} (h : v ≤ N) : (oc N v).length = N := by simp [oc, rowsV_len]; omega
theorem oc_set {N v : Nat} (h : v < N) : (oc N v).set v (.slice (some ⟨v + 2, 0, none⟩) N N) = oc N (v + 1) := by
  unfold oc
  rw [List.set_append_right _ _ (by rw [rowsV_len]; exact Nat.le_refl _), rowsV_len, Nat.sub_self, rowsV_succ, show N - v = (N - (v + 1)) + 1 by omega, List.replicate_succ, List.set_cons_zero, List.append_assoc]
  rfl
def cH (N x : Nat) (ls : List Lk) (v : Nat) : Heap := mH [nb N x ls, ⟨61, true, oc N v⟩] 3 (List.replicate v (zrow N))
theorem cH_0 (N x : Nat) (ls : List Lk) (v : Nat) : (cH N x ls v).get 0 = some (nb N x ls) := rfl
theorem zeros_rep (v : Value) : ∀ n, zeros [v] n = List.replicate n v
  | 0 => rfl
  | n + 1 => by rw [List.replicate_succ, ← zeros_rep v n]; rfl
theorem zrow_flat (N : Nat) : (zrow N).all flat = true := by
  rw [List.all_eq_true]
  intro v hv
  obtain rfl := List.eq_of_mem_replicate hv
  rfl
theorem oc_ok (N v m : Nat) (h : v + 2 ≤ m) : (oc N v).all (okC m) = true := by
  unfold oc
  rw [List.all_append, rowsV_ok (by omega), Bool.true_and, List.all_eq_true]
  intro v hv
  obtain rfl := List.eq_of_mem_replicate hv
  rfl
/-- The cost that the last of the links tells, 0 if there is none. -/
def cAt (ls : List Lk) (i j : Nat) : Int := ls.foldl (fun c l => if l.1 = ((min i j : Nat) : Int) ∧ l.2.1 = ((max i j : Nat) : Int) then l.2.2 else c) 0
def dH (N x : Nat) (ls : List Lk) (k : Nat) : Heap := mH [nb N x ls, ⟨61, true, rowsV 2 N N⟩] 3 (matC N (cAt (ls.take k)))
def eH (N x : Nat) (ls : List Lk) (k : Nat) (l : Lk) : Heap := ((dH N x ls k).alloc ⟨48, true, [.int .i64 0, .int .i64 0, .int .i64 0]⟩).set (dH N x ls k).next (some ⟨48, true, lc l⟩)
theorem dH_next {N x : Nat} {ls : List Lk} {k : Nat} : (dH N x ls k).next = N + 2 := by
  unfold dH
  rw [mH_next, matC_len]
  simp
  omega
theorem eH_row {N x : Nat} {ls : List Lk} {k : Nat} {l : Lk} {i : Nat} (h : i < N) : (eH N x ls k l).get (i + 2) = some ⟨3, true, (List.range N).map fun j => Value.int .i64 (cAt (ls.take k) i j)⟩ := by
  unfold eH
  rw [Heap.get_set, if_neg (by rw [dH_next]; omega), Heap.get_alloc, if_neg (by rw [dH_next]; omega)]
  exact mH_row (pre := [nb N x ls, ⟨61, true, rowsV 2 N N⟩]) (matC_at h)
theorem cAt_snoc (ls : List Lk) (k : Nat) (h : k < ls.length) (i j : Nat) : cAt (ls.take (k + 1)) i j = if (ls.getD k (0, 0, 0)).1 = ((min i j : Nat) : Int) ∧ (ls.getD k (0, 0, 0)).2.1 = ((max i j : Nat) : Int) then (ls.getD k (0, 0, 0)).2.2 else cAt (ls.take k) i j := by
  unfold cAt
  rw [List.take_add_one, List.foldl_append, List.getElem?_eq_getElem h, List.getD_eq_getElem?_getD, List.getElem?_eq_getElem h]
  rfl
theorem map_const {α : Type} (a : α) : ∀ n, (List.range n).map (fun _ => a) = List.replicate n a := fun n => by rw [List.map_const', List.length_range]
theorem f51 : E.funcs 51 = some Try.f51 := by kernel_rfl
set_option maxHeartbeats 4000000 in
theorem costs51 (N x : Nat) (ls : List Lk) (hN : 1 ≤ N ∧ N ≤ 20) (hl : ∀ l ∈ ls, okLk N l) (hz : ls.length ≤ 17592186044416) : Lent E 51 [netV N x ls] [] (.slice (some ⟨0, 0, none⟩) N N) (⟨61, true, rowsV 1 N N⟩ :: (matC N (cAt ls)).map (rowB 3)) := by
  refine Lent.of f51 rfl (of_decide_eq_true (by kernel_rfl)) rfl (by simp [List.all_map, rowB, matC]) (Nat.zero_le _) rfl (matOk matC_len (fun r hr => matC_flat hr)) (matRes N) ?_
  unfold netV
  have m1 : 0 ≤ (N : Int) ∧ (N : Int) = N ∧ ((24 : Nat) : Int) * N ≤ 281474976710656 ∧ (N : Int) ≤ 9223372036854775807 := by omega
  have m2 : 0 ≤ (N : Int) ∧ (N : Int) = N ∧ ((8 : Nat) : Int) * N ≤ 281474976710656 ∧ (N : Int) ≤ 9223372036854775807 := by omega
  refine Wp.seq (Wp.text ?_)
  refine md 1 (.pointer (some ⟨0, 0, none⟩)) (Blk.mk 24 true [Value.int .i64 (↑N : Int), Value.iface 48 (Value.iface (List.length ls) (Value.iface x (Value.agg (List.toArray (lcs ls)))))]) ?_
  refine kp 2 (.slice none 0 0) ?_
  refine WpOps.nil (thenK_at (Wp.seq (Wp.text ?_)))
  refine kp 7 (.pointer (some ⟨0, 0, none⟩)) ?_
  refine kp 8 (.int IntKind.i64 (↑N : Int)) ?_
  refine md 9 (.slice (some ⟨1, 0, none⟩) (Int.toNat (↑N : Int)) (Int.toNat (↑N : Int))) (Blk.mk 61 true (zeros [Value.slice none 0 0] (Int.toNat (↑N : Int)))) ?_ (hop := fun _ => o_makeSlice (e := 61) m1)
  refine kp 3 (.slice (some ⟨1, 0, none⟩) (Int.toNat (↑N : Int)) (Int.toNat (↑N : Int))) ?_
  refine WpOps.nil (thenK_at (Wp.seq (Wp.seq (Wp.text ?_))))
  refine kp 10 (.slice (some ⟨1, 0, none⟩) (Int.toNat (↑N : Int)) (Int.toNat (↑N : Int))) ?_
  refine kp 11 (.int IntKind.i64 (↑(Int.toNat (↑N : Int)) : Int)) ?_
  refine kp 12 (.int IntKind.i64 0) ?_
  refine WpOps.nil (thenK_at (Wp.block ?_))
  refine Wp.loop (G := Nat) (fun v => layj [(1, .pointer (some ⟨0, 0, none⟩)), (3, .slice (some ⟨1, 0, none⟩) N N), (11, .int .i64 N), (12, .int .i64 v)]) (fun v => cH N x ls v) (fun v => N - v) (fun v => v ≤ N) 0
    ?_ (Nat.zero_le _) ?_
  · refine View.mat [nb N x ls, ⟨61, true, oc N 0⟩] 3 [] _ (Nat.zero_le _) (pre2 ⟨rfl, rfl⟩ ⟨?_, ?_⟩) (fun i r h => by simp at h) ⟨⟨by kernel_rfl, rfl⟩, ⟨by kernel_rfl, rfl⟩, ⟨by kernel_rfl, rfl⟩, ⟨by kernel_rfl, rfl⟩, trivial⟩
    · show some _ = some _
      have e1 := zeros_rep (Value.slice none 0 0) N
      simp only [oc, rowsV, List.range_zero, List.map_nil, List.nil_append, Nat.sub_zero]
      rw [← e1]
      rfl
    · exact oc_ok N 0 _ (by simp)
  intro v hv
  by_cases hlt : v < N
  · have d1 : decide ((v : Int) < N) = true := decide_eq_true (by omega)
    have g1 : 0 ≤ (v : Int) ∧ (v : Int) < N := by omega
    have hnx : (cH N x ls v).next = v + 2 := by unfold cH; rw [mH_next]; simp; omega
    have q1 : true = true ∧ 0 + (v : Int).toNat * 1 + [Value.slice (some { block := (cH N x ls v).next, off := 0 }) (N : Int).toNat (N : Int).toNat].length ≤ (oc N v).length := ⟨rfl, by rw [oc_len hv]; simp; omega⟩
    refine Wp.seq (Wp.text ?_)
    refine kp 13 (.bool true) ?_ (hop := fun _ => by_fact d1)
    refine WpOps.nil (thenK_at (Wp.seq (on' (Wp.skip (thenK_at (Wp.seq (Wp.block (Wp.seq (Wp.text ?_)))))))))
    refine kp 14 (.int IntKind.i64 (↑v : Int)) ?_
    refine kp 4 (.int IntKind.i64 (↑v : Int)) ?_
    refine WpOps.nil (thenK_at (Wp.text ?_))
    refine kp 15 (.slice (some ⟨1, 0, none⟩) N N) ?_
    refine kp 16 (.int IntKind.i64 (↑v : Int)) ?_
    refine kp 17 (.pointer (some ⟨0, 0, none⟩)) ?_
    refine kp 18 (.int IntKind.i64 (↑N : Int)) ?_
    refine md 19 (.slice (some (Addr.mk (Heap.next (cH N x ls v)) 0 none)) (Int.toNat (↑N : Int)) (Int.toNat (↑N : Int))) (Blk.mk 3 true (zeros [Value.int .i64 0] (Int.toNat (↑N : Int)))) ?_ (hop := fun _ => o_makeSlice (e := 3) m2)
    refine kp 20 (.pointer (some (Addr.mk 1 (0 + Int.toNat (↑v : Int) * 1) none))) ?_ (hop := fun _ => o_indexAddr (a := (↑v : Int)) (bl := 1) (off := 0) (size := 1) 61 (N) g1)
    refine ld (.tuple #[]) (1) (Blk.mk 61 true (List.set (oc N v) (0 + Int.toNat (↑v : Int) * 1) (Value.slice (some (Addr.mk (Heap.next (cH N x ls v)) 0 none)) (Int.toNat (↑N : Int)) (Int.toNat (↑N : Int))))) ?_ (hop := fun _ => o_store1 (1) (0 + Int.toNat (↑v : Int) * 1) q1)
    refine WpOps.nil (blockK_norm (thenK_at (Wp.text ?_)))
    refine kp 21 (.int IntKind.i64 (IntKind.wrap .i64 ((↑v : Int) + 1))) ?_
    refine kp 12 (.int IntKind.i64 (IntKind.wrap .i64 ((↑v : Int) + 1))) ?_
    refine WpOps.nil (thenK_at ?_)
    refine ⟨v + 1, by omega, by omega, ?_⟩
    refine View.mat [nb N x ls, ⟨61, true, oc N (v + 1)⟩] 3 (List.replicate (v + 1) (zrow N)) _ (Nat.zero_le _) (pre2 ⟨?_, rfl⟩ ⟨?_, ?_⟩) (fun i r h => ⟨?_, ?_⟩) ⟨⟨by kernel_rfl, okV_ptr (by simp; omega)⟩, ⟨by kernel_rfl, okV_sl (by simp; omega)⟩, ⟨by kernel_rfl, rfl⟩, ⟨congrArg (Value.int .i64) (wr _ (by omega) (by omega)), rfl⟩, trivial⟩
    · exact (cH_0 N x ls v)
    · rw [Heap.get_set, if_pos rfl, hnx, ← oc_set hlt, Int.toNat_natCast, Nat.zero_add, Nat.mul_one]
      rfl
    · exact oc_ok N (v + 1) _ (by simp; omega)
    · have hi : i < v + 1 := by simpa using (List.getElem?_eq_some_iff.1 h).1
      obtain rfl : zrow N = r := by simpa [hi] using h
      rw [Heap.get_set, if_neg (by simp), Heap.get_alloc, hnx, Int.toNat_natCast]
      by_cases e : i = v
      · subst e
        rw [if_pos (by simp), zeros_rep]
        rfl
      · rw [if_neg (by show ¬ i + 2 = v + 2; omega)]
        exact mH_row (pre := [nb N x ls, ⟨61, true, oc N v⟩]) (rows := List.replicate v (zrow N)) (by rw [List.getElem?_replicate, if_pos (by omega)])
    · obtain rfl : r = zrow N := List.eq_of_mem_replicate (List.mem_of_getElem? h)
      exact okCs_flat (zrow_flat N)
  · obtain rfl : v = N := by omega
    have d1 : decide ((v : Int) < v) = false := decide_eq_false (by omega)
    refine Wp.seq (Wp.text ?_)
    refine kp 13 (.bool false) ?_ (hop := fun _ => by_fact d1)
    refine WpOps.nil (thenK_at (Wp.seq (off' (Wp.exit (thenK_exit (thenK_exit (blockK_hit (thenK_at (Wp.seq (Wp.seq (Wp.text ?_)))))))))))
    refine kp 22 (.pointer (some ⟨0, 1, none⟩)) ?_
    refine kp 23 (.iface 48 (Value.iface (List.length ls) (Value.iface x (Value.agg (List.toArray (lcs ls)))))) ?_
    refine kp 24 (.int IntKind.i64 (↑(List.length ls) : Int)) ?_
    refine kp 25 (.int IntKind.i64 0) ?_
    refine WpOps.nil (thenK_at (Wp.block ?_))
    refine Wp.loop (G := Nat) (fun k => layj [(1, .pointer (some ⟨0, 0, none⟩)), (3, .slice (some ⟨1, 0, none⟩) v v), (23, lks x ls), (24, .int .i64 ls.length), (25, .int .i64 k)]) (fun k => dH v x ls k) (fun k => ls.length - k) (fun k => k ≤ ls.length) 0
      ?_ (Nat.zero_le _) ?_
    · refine View.mat [nb v x ls, ⟨61, true, rowsV 2 v v⟩] 3 (matC v (cAt (ls.take 0))) _ (Nat.zero_le _) (pre2 ⟨cH_0 v x ls v, rfl⟩ ⟨?_, rowsV_ok (by rw [matC_len]; exact Nat.le_refl _)⟩) (fun i r h => ?_) ⟨⟨by kernel_rfl, okV_ptr (by simp; omega)⟩, ⟨by kernel_rfl, okV_sl (by simp; omega)⟩, ⟨by kernel_rfl, rfl⟩, ⟨by kernel_rfl, rfl⟩, ⟨by kernel_rfl, rfl⟩, trivial⟩
      · have e : v - v = 0 := Nat.sub_self v
        show some (Blk.mk 61 true (rowsV 2 v v ++ List.replicate (v - v) _)) = _
        rw [e]
        simp
      · have hi : i < v := by
          have := (List.getElem?_eq_some_iff.1 h).1
          rwa [matC_len] at this
        rw [matC_at hi] at h
        obtain rfl := Option.some.inj h
        have hz : ((List.range v).map fun j => Value.int .i64 (cAt (ls.take 0) i j)) = zrow v := map_const (Value.int .i64 0) v
        refine ⟨?_, okCs_flat (row_flat _ _)⟩
        show (cH v x ls v).get (i + 2) = _
        rw [hz]
        exact mH_row (pre := [nb v x ls, ⟨61, true, oc v v⟩]) (by simp [hi])
    intro k hk
    by_cases hlt : k < ls.length
    · have d1 : decide ((k : Int) < ls.length) = true := decide_eq_true (by omega)
      have g1 : 0 ≤ (k : Int) ∧ (k : Int) < ls.length := by omega
      obtain ⟨l, hk0⟩ : ∃ l, l = ls.getD k (0, 0, 0) := ⟨_, rfl⟩
      have v1 := lcs_cells ls k (0, 0, 0) hlt
      rw [← hk0] at v1
      obtain ⟨a, b, c⟩ := l
      unfold lc at v1
      obtain ⟨l1, l2, l3, l4, l5⟩ : okLk v (a, b, c) := by
        rw [hk0, List.getD_eq_getElem?_getD, List.getElem?_eq_getElem hlt]
        exact hl _ (List.getElem_mem _)
      dsimp only at l1 l2 l3 l4 l5 v1
      obtain ⟨A, rfl⟩ := Int.eq_ofNat_of_zero_le l1
      obtain ⟨B, rfl⟩ := Int.eq_ofNat_of_zero_le (show 0 ≤ b by omega)
      have gA : 0 ≤ (A : Int) ∧ (A : Int) < v := by omega
      have gB : 0 ≤ (B : Int) ∧ (B : Int) < v := by omega
      have hnx : (dH v x ls k).next = v + 2 := by unfold dH; rw [mH_next, matC_len]; simp; omega
      have n1 : ((dH v x ls k).alloc ⟨48, true, [.int .i64 0, .int .i64 0, .int .i64 0]⟩).get (dH v x ls k).next = some ⟨48, true, [.int .i64 0, .int .i64 0, .int .i64 0]⟩ := by simp
      have n2 : (((dH v x ls k).alloc ⟨48, true, [.int .i64 0, .int .i64 0, .int .i64 0]⟩).set (dH v x ls k).next (some ⟨48, true, [.int .i64 A, .int .i64 B, .int .i64 c]⟩)).get (dH v x ls k).next = some ⟨48, true, [.int .i64 A, .int .i64 B, .int .i64 c]⟩ := by simp
      have u1 : (rowsV 2 v v)[0 + (A : Int).toNat * 1]? = some (.slice (some ⟨A + 2, 0, none⟩) v v) := by
        rw [Int.toNat_natCast, Nat.zero_add, Nat.mul_one]
        exact rowsV_at (by omega)
      have u2 : (rowsV 2 v v)[0 + (B : Int).toNat * 1]? = some (.slice (some ⟨B + 2, 0, none⟩) v v) := by
        rw [Int.toNat_natCast, Nat.zero_add, Nat.mul_one]
        exact rowsV_at (by omega)
      have n3 : (eH v x ls k (A, B, c)).get (A + 2) = some ⟨3, true, (List.range v).map fun j => Value.int .i64 (cAt (ls.take k) A j)⟩ := eH_row (by omega)
      have n4 : ((eH v x ls k (A, B, c)).set (A + 2) (some ⟨3, true, ((List.range v).map fun j => Value.int .i64 (cAt (ls.take k) A j)).set (0 + (B : Int).toNat * 1) (.int .i64 c)⟩)).get (B + 2) = some ⟨3, true, (List.range v).map fun j => Value.int .i64 (cAt (ls.take k) B j)⟩ := by
        rw [Heap.get_set, if_neg (by omega)]
        exact eH_row (by omega)
      have x1 : A + 2 ≠ B + 2 := by omega
      have x2 : (dH v x ls k).next ≠ A + 2 := by omega
      have x3 : (dH v x ls k).next ≠ B + 2 := by omega
      have x4 : 1 ≠ A + 2 := by omega
      have x5 : 1 ≠ B + 2 := by omega
      have q1 : true = true ∧ 0 + (B : Int).toNat * 1 + [Value.int .i64 c].length ≤ ((List.range v).map fun j => Value.int .i64 (cAt (ls.take k) A j)).length := ⟨rfl, by simp; omega⟩
      have q2 : true = true ∧ 0 + (A : Int).toNat * 1 + [Value.int .i64 c].length ≤ ((List.range v).map fun j => Value.int .i64 (cAt (ls.take k) B j)).length := ⟨rfl, by simp; omega⟩
      refine Wp.seq (Wp.text ?_)
      refine kp 26 (.bool true) ?_ (hop := fun _ => by_fact d1)
      refine WpOps.nil (thenK_at (Wp.seq (on' (Wp.skip (thenK_at (Wp.seq (Wp.block (Wp.seq (Wp.text ?_)))))))))
      refine kp 27 (.iface 48 (Value.iface (Int.toNat (↑k : Int) * 3) (Value.agg (List.toArray (lcs ls))))) ?_ (hop := fun _ => o_indexI (e := 48) (size := 3) (a := (↑k : Int)) g1)
      refine kp 28 (.agg #[Value.int .i64 (↑A : Int), Value.int .i64 (↑B : Int), Value.int .i64 c]) ?_ (hop := fun _ => o_loadIA (Int.toNat (↑k : Int) * 3) v1)
      refine md 6 (.pointer (some (Addr.mk (Heap.next (dH v x ls k)) 0 none))) (Blk.mk 48 true [Value.int .i64 0, Value.int .i64 0, Value.int .i64 0]) ?_
      refine ld (.tuple #[]) (Heap.next (dH v x ls k)) (Blk.mk 48 true [Value.int .i64 (↑A : Int), Value.int .i64 (↑B : Int), Value.int .i64 c]) ?_ (hop := fun _ => o_storeH (v := Value.agg #[Value.int IntKind.i64 (↑A : Int), Value.int IntKind.i64 (↑B : Int), Value.int IntKind.i64 c]) (xs := [Value.int IntKind.i64 (↑A : Int), Value.int IntKind.i64 (↑B : Int), Value.int IntKind.i64 c]) (Heap.next (dH v x ls k)) (0) n1 (of_decide_eq_true (by kernel_rfl)))
      refine WpOps.nil (thenK_at ?_)
      refine Wp.regionT (by kernel_rfl) (by kernel_rfl) ?_
      refine kp 29 (.slice (some ⟨1, 0, none⟩) v v) ?_
      refine kp 30 (.pointer (some (Addr.mk (Heap.next (dH v x ls k)) 0 none))) ?_
      refine kp 31 (.int IntKind.i64 (↑A : Int)) ?_ (hop := fun _ => o_load1H (Heap.next (dH v x ls k)) (0) n2)
      refine kp 32 (.pointer (some (Addr.mk 1 (0 + Int.toNat (↑A : Int) * 1) none))) ?_ (hop := fun _ => o_indexAddr (a := (↑A : Int)) (bl := 1) (off := 0) (size := 1) 61 (v) gA)
      refine kp 33 (.slice (some (Addr.mk (A + 2) 0 none)) v v) ?_ (hop := fun _ => o_load1 (1) (0 + Int.toNat (↑A : Int) * 1) u1)
      refine kp 34 (.pointer (some (Addr.mk (Heap.next (dH v x ls k)) 1 none))) ?_
      refine kp 35 (.int IntKind.i64 (↑B : Int)) ?_ (hop := fun _ => o_load1H (Heap.next (dH v x ls k)) (1) n2)
      refine kp 36 (.slice (some ⟨1, 0, none⟩) v v) ?_
      refine kp 37 (.pointer (some (Addr.mk (Heap.next (dH v x ls k)) 1 none))) ?_
      refine kp 38 (.int IntKind.i64 (↑B : Int)) ?_ (hop := fun _ => o_load1H (Heap.next (dH v x ls k)) (1) n2)
      refine kp 39 (.pointer (some (Addr.mk 1 (0 + Int.toNat (↑B : Int) * 1) none))) ?_ (hop := fun _ => o_indexAddr (a := (↑B : Int)) (bl := 1) (off := 0) (size := 1) 61 (v) gB)
      refine kp 40 (.slice (some (Addr.mk (B + 2) 0 none)) v v) ?_ (hop := fun _ => o_load1 (1) (0 + Int.toNat (↑B : Int) * 1) u2)
      refine kp 41 (.pointer (some (Addr.mk (Heap.next (dH v x ls k)) 0 none))) ?_
      refine kp 42 (.int IntKind.i64 (↑A : Int)) ?_ (hop := fun _ => o_load1H (Heap.next (dH v x ls k)) (0) n2)
      refine kp 43 (.pointer (some (Addr.mk (Heap.next (dH v x ls k)) 2 none))) ?_
      refine kp 44 (.int IntKind.i64 c) ?_ (hop := fun _ => o_load1H (Heap.next (dH v x ls k)) (2) n2)
      refine kp 45 (.pointer (some (Addr.mk (Heap.next (dH v x ls k)) 2 none))) ?_
      refine kp 46 (.int IntKind.i64 c) ?_ (hop := fun _ => o_load1H (Heap.next (dH v x ls k)) (2) n2)
      refine kp 47 (.pointer (some (Addr.mk (A + 2) (0 + Int.toNat (↑B : Int) * 1) none))) ?_ (hop := fun _ => o_indexAddr (a := (↑B : Int)) (bl := A + 2) (off := 0) (size := 1) 3 (v) gB)
      refine ld (.tuple #[]) (A + 2) (Blk.mk 3 true (List.set (List.map (fun j => Value.int .i64 (cAt (List.take k ls) A j)) (List.range v)) (0 + Int.toNat (↑B : Int) * 1) (Value.int .i64 c))) ?_ (hop := fun _ => o_storeH (v := Value.int IntKind.i64 c) (xs := [Value.int IntKind.i64 c]) (A + 2) (0 + Int.toNat (↑B : Int) * 1) n3 q1)
      refine kp 48 (.pointer (some (Addr.mk (B + 2) (0 + Int.toNat (↑A : Int) * 1) none))) ?_ (hop := fun _ => o_indexAddr (a := (↑A : Int)) (bl := B + 2) (off := 0) (size := 1) 3 (v) gA)
      refine ld (.tuple #[]) (B + 2) (Blk.mk 3 true (List.set (List.map (fun j => Value.int .i64 (cAt (List.take k ls) B j)) (List.range v)) (0 + Int.toNat (↑A : Int) * 1) (Value.int .i64 c))) ?_ (hop := fun _ => o_storeH (v := Value.int IntKind.i64 c) (xs := [Value.int IntKind.i64 c]) (B + 2) (0 + Int.toNat (↑A : Int) * 1) n4 q2)
      refine WpOps.nil ?_
      refine ⟨dynAll_of [(13, 19), (17, 19)] (by kernel_rfl) ⟨pair_rw x2 (by kernel_rfl) (by kernel_rfl) (by kernel_rfl) (by kernel_rfl), pair_rw x2 (by kernel_rfl) (by kernel_rfl) (by kernel_rfl) (by kernel_rfl), trivial⟩, ?_⟩
      refine blockK_norm (thenK_at (Wp.text ?_))
      refine kp 49 (.int IntKind.i64 (IntKind.wrap .i64 ((↑k : Int) + 1))) ?_
      refine kp 25 (.int IntKind.i64 (IntKind.wrap .i64 ((↑k : Int) + 1))) ?_
      refine WpOps.nil (thenK_at ?_)
      refine ⟨k + 1, by omega, by omega, ?_⟩
      have hstep : ∀ i j, cAt (ls.take (k + 1)) i j = if (A : Int) = ((min i j : Nat) : Int) ∧ (B : Int) = ((max i j : Nat) : Int) then c else cAt (ls.take k) i j := fun i j => by
        rw [cAt_snoc ls k hlt, ← hk0]
      refine View.mat [nb v x ls, ⟨61, true, rowsV 2 v v⟩] 3 (matC v (cAt (ls.take (k + 1)))) _ (Nat.zero_le _) (pre2 ⟨?_, rfl⟩ ⟨?_, rowsV_ok (by rw [matC_len]; exact Nat.le_refl _)⟩) (fun i r h => ?_) ⟨⟨by kernel_rfl, okV_ptr (by simp; omega)⟩, ⟨by kernel_rfl, okV_sl (by simp; omega)⟩, ⟨by kernel_rfl, rfl⟩, ⟨by kernel_rfl, rfl⟩, ⟨congrArg (Value.int .i64) (wr _ (by omega) (by omega)), rfl⟩, trivial⟩
      · rw [Heap.get_set, if_neg (by omega), Heap.get_set, if_neg (by omega), Heap.get_set, if_neg (by omega), Heap.get_alloc, if_neg (by omega)]
        rfl
      · rw [Heap.get_set, if_neg (by omega), Heap.get_set, if_neg (by omega), Heap.get_set, if_neg (by omega), Heap.get_alloc, if_neg (by omega)]
        rfl
      · have hi : i < v := by
          have := (List.getElem?_eq_some_iff.1 h).1
          rwa [matC_len] at this
        rw [matC_at hi] at h
        obtain rfl := Option.some.inj h
        refine ⟨?_, okCs_flat (row_flat _ _)⟩
        show Heap.get _ (i + 2) = _
        by_cases e1 : i = B
        · subst e1
          rw [Heap.get_set, if_pos rfl, Int.toNat_natCast, Nat.zero_add, Nat.mul_one, row_set]
          have : (fun j => Value.int .i64 (if j = A then c else cAt (ls.take k) i j)) = fun j => Value.int .i64 (cAt (ls.take (k + 1)) i j) := by
            funext j
            rw [hstep]
            by_cases e2 : j = A
            · rw [if_pos e2, if_pos (by omega)]
            · rw [if_neg e2, if_neg (by omega)]
          rw [this]
          rfl
        · rw [Heap.get_set, if_neg (by omega)]
          by_cases e3 : i = A
          · subst e3
            rw [Heap.get_set, if_pos rfl, Int.toNat_natCast, Nat.zero_add, Nat.mul_one, row_set]
            have : (fun j => Value.int .i64 (if j = B then c else cAt (ls.take k) i j)) = fun j => Value.int .i64 (cAt (ls.take (k + 1)) i j) := by
              funext j
              rw [hstep]
              by_cases e2 : j = B
              · rw [if_pos e2, if_pos (by omega)]
              · rw [if_neg e2, if_neg (by omega)]
            rw [this]
            rfl
          · rw [Heap.get_set, if_neg (by omega)]
            have : (fun j => Value.int .i64 (cAt (ls.take (k + 1)) i j)) = fun j => Value.int .i64 (cAt (ls.take k) i j) := by
              funext j
              rw [hstep, if_neg (by omega)]
            rw [this]
            exact eH_row (l := (A, B, c)) hi
    · obtain rfl : k = ls.length := by omega
      have d1 : decide ((ls.length : Int) < ls.length) = false := decide_eq_false (by omega)
      refine Wp.seq (Wp.text ?_)
      refine kp 26 (.bool false) ?_ (hop := fun _ => by_fact d1)
      refine WpOps.nil (thenK_at (Wp.seq (off' (Wp.exit (thenK_exit (thenK_exit (blockK_hit (thenK_at (Wp.seq (Wp.text ?_))))))))))
      refine kp 50 (.slice (some ⟨1, 0, none⟩) v v) ?_
      refine kp 2 (.slice (some ⟨1, 0, none⟩) v v) ?_
      refine WpOps.nil (thenK_at (Wp.ret ?_))
      refine endK_retn [Value.slice (some (Addr.mk 1 0 none)) v v] (Value.slice (some (Addr.mk 1 0 none)) v v) (by kernel_rfl) (by kernel_rfl) ?_
      have e := lentMat (E := E) [nb v x ls, ⟨61, true, rowsV 2 v v⟩] 3 61 (matC v (cAt ls)) 1 v matC_len rfl (fun r hr => matC_flat hr)
      unfold dH
      rw [List.take_length]
      exact e
end Go.Proofs.Ytfjkanjmggbofaa.D
