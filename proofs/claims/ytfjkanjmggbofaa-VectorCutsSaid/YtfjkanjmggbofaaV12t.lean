/- The least costs: what they come to; of the program. -/
import Derived.Test.YtfjkanjmggbofaaFwLem
import Derived.Test.YtfjkanjmggbofaaFwCons
import Derived.Test.YtfjkanjmggbofaaV12n
import Derived.Test.YtfjkanjmggbofaaV12x
namespace Go.Proofs.Ytfjkanjmggbofaa.D
open Go.Fw Go.RowKit

abbrev Mx := Nat → Nat → Int
/-- The start: no line is 16. -/
def d0 (c : Mx) (i j : Nat) : Int := if c i j = 0 ∧ ¬ i = j then 16 else c i j
def putC (d : Mx) (i j : Nat) (v : Int) (a b : Nat) : Int := if a = i ∧ b = j then v else d a b
def relax (d : Mx) (k i j : Nat) : Mx := putC d i j (min (d i j) (d i k + d k j))
def rrow (d : Mx) (k i : Nat) : Nat → Mx
  | 0 => d
  | m + 1 => relax (rrow d k i m) k i m
def rmat (n : Nat) (d : Mx) (k : Nat) : Nat → Mx
  | 0 => d
  | i + 1 => rrow (rmat n d k i) k i n
def rall (n : Nat) (d : Mx) : Nat → Mx
  | 0 => d
  | k + 1 => rmat n (rall n d k) k n
def bnd (d : Mx) : Prop := ∀ i j, 0 ≤ d i j ∧ d i j ≤ 16
theorem bnd_relax {d : Mx} (h : bnd d) (k i j : Nat) : bnd (relax d k i j) := fun a b => by
  have h1 := h i j
  have h2 := h i k
  have h3 := h k j
  have h4 := h a b
  unfold relax putC
  split <;> omega
theorem bnd_rrow {d : Mx} (h : bnd d) (k i : Nat) : ∀ m, bnd (rrow d k i m)
  | 0 => h
  | m + 1 => bnd_relax (bnd_rrow h k i m) k i m
theorem bnd_rmat {n : Nat} {d : Mx} (h : bnd d) (k : Nat) : ∀ i, bnd (rmat n d k i)
  | 0 => h
  | i + 1 => bnd_rrow (bnd_rmat h k i) k i n
theorem bnd_rall {n : Nat} {d : Mx} (h : bnd d) : ∀ k, bnd (rall n d k)
  | 0 => h
  | k + 1 => bnd_rmat (bnd_rall h k) k n
theorem bnd_d0 {c : Mx} (h : ∀ i j, 0 ≤ c i j ∧ c i j ≤ 15) : bnd (d0 c) := fun i j => by
  have := h i j
  unfold d0
  split <;> omega
/-- Rows above v done, row v up to k. -/
def gC (R c : Mx) (v k : Nat) : Mx := fun i j => if i < v ∨ (i = v ∧ j < k) then R i j else c i j
theorem gC_zero (R c : Mx) : gC R c 0 0 = c := by
  funext i j
  unfold gC
  rw [if_neg (by omega)]
theorem matC_congr {N : Nat} {f g : Mx} (h : ∀ i j, i < N → j < N → f i j = g i j) : matC N f = matC N g := by
  unfold matC
  refine List.map_congr_left fun i hi => ?_
  refine List.map_congr_left fun j hj => ?_
  rw [h i j (List.mem_range.1 hi) (List.mem_range.1 hj)]
theorem gC_next (N : Nat) (R c : Mx) (v : Nat) : matC N (gC R c v N) = matC N (gC R c (v + 1) 0) := matC_congr fun i j _ hj => by
  unfold gC
  by_cases h : i < v + 1
  · rw [if_pos (by omega), if_pos (by omega)]
  · rw [if_neg (by omega), if_neg (by omega)]
theorem gC_done (N : Nat) (R c : Mx) : matC N (gC R c N 0) = matC N R := matC_congr fun i j hi _ => by
  unfold gC
  rw [if_pos (by omega)]
theorem gC_at (R c : Mx) (v k : Nat) : gC R c v k v k = c v k := by
  unfold gC
  rw [if_neg (by omega)]
theorem gC_step (R c : Mx) (v k : Nat) : putC (gC R c v k) v k (R v k) = gC R c v (k + 1) := by
  funext a b
  unfold putC gC
  by_cases e : a = v ∧ b = k
  · rw [if_pos e, if_pos (by omega), e.1, e.2]
  · rw [if_neg e]
    by_cases h : a < v ∨ (a = v ∧ b < k)
    · rw [if_pos h, if_pos (by omega)]
    · rw [if_neg h, if_neg (by omega)]
theorem putC_self (d : Mx) (i j : Nat) : putC d i j (d i j) = d := by
  funext a b
  unfold putC
  by_cases e : a = i ∧ b = j
  · rw [if_pos e, e.1, e.2]
  · rw [if_neg e]
theorem putC_row (d : Mx) {i j a : Nat} (v : Int) (h : ¬ a = i) : putC d i j v a = d a := by
  funext b
  unfold putC
  rw [if_neg fun e => h e.1]
theorem putC_set {N : Nat} (d : Mx) {i j : Nat} (v : Int) : ((List.range N).map fun b => Value.int .i64 (d i b)).set j (.int .i64 v) = (List.range N).map fun b => Value.int .i64 (putC d i j v i b) := by
  rw [row_set]
  congr 1
  funext b
  unfold putC
  by_cases e : b = j
  · rw [if_pos e, if_pos ⟨rfl, e⟩]
  · rw [if_neg e, if_neg fun h => e h.2]
/-- A matrix of one's own behind one block. -/
def bH (x0 : Blk) (N : Nat) (d : Mx) : Heap := mH [x0, ⟨61, true, rowsV 2 N N⟩] 3 (matC N d)
theorem bH_row {x0 : Blk} {N : Nat} {d : Mx} {i : Nat} (h : i < N) : (bH x0 N d).get (i + 2) = some ⟨3, true, (List.range N).map fun j => Value.int .i64 (d i j)⟩ := mH_row (pre := [x0, ⟨61, true, rowsV 2 N N⟩]) (matC_at h)
theorem bView {n : Nat} {s : Slots} {h : Heap} {x0 : Blk} {N : Nat} {d : Mx} {l : List (Nat × Value)} (hf0 : x0.cells.all flat = true) (h0 : h.get 0 = some x0) (h1 : h.get 1 = some ⟨61, true, rowsV 2 N N⟩) (hr : ∀ i, i < N → h.get (i + 2) = some ⟨3, true, (List.range N).map fun j => Value.int .i64 (d i j)⟩) (hs : SlotsId (2 + N) s l) : View 0 E n s h (layj l) (bH x0 N d) := by
  have hl : [x0, (⟨61, true, rowsV 2 N N⟩ : Blk)].length + (matC N d).length = 2 + N := by rw [matC_len]; rfl
  refine View.mat [x0, ⟨61, true, rowsV 2 N N⟩] 3 (matC N d) l (Nat.zero_le _) (pre2 ⟨h0, okCs_flat hf0⟩ ⟨h1, rowsV_ok (by rw [hl]; exact Nat.le_refl _)⟩) (fun i r h2 => ?_) (by rw [hl]; exact hs)
  have hi : i < N := by
    have := (List.getElem?_eq_some_iff.1 h2).1
    rwa [matC_len] at this
  refine ⟨?_, okCs_flat (matC_flat (List.mem_of_getElem? h2))⟩
  rw [matC_at hi] at h2
  obtain rfl := Option.some.inj h2
  exact hr i hi
theorem cell0 {N : Nat} {d : Mx} {i j : Nat} (hj : j < N) : ((List.range N).map fun j => Value.int .i64 (d i j))[0 + (j : Int).toNat * 1]? = some (.int .i64 (d i j)) := by
  rw [Int.toNat_natCast, Nat.zero_add, Nat.mul_one]
  exact row_at hj
theorem hdr {N i : Nat} (h : i < N) : (rowsV 2 N N)[0 + (i : Int).toNat * 1]? = some (.slice (some ⟨i + 2, 0, none⟩) N N) := by
  rw [Int.toNat_natCast, Nat.zero_add, Nat.mul_one]
  exact rowsV_at h
theorem f23 : E.funcs 23 = some Try.f23 := by kernel_rfl
theorem best23_bad (N : Int) (x : Nat) (ls : List Lk) (hv : Fun E 25 [netV N x ls] (.bool false)) : Fun E 23 [netV N x ls] (.tuple #[FS 61 0 2 #[], .int .i64 1]) := by
  refine Fun.ofN f23 rfl (of_decide_eq_true (by kernel_rfl)) (by kernel_rfl) ?_
  unfold netV at hv ⊢
  unfold lks at hv ⊢
  refine Wp.seq (Wp.text ?_)
  refine md 1 (.pointer (some ⟨0, 0, none⟩)) (Blk.mk 24 true [Value.int .i64 N, Value.iface 48 (Value.iface (List.length ls) (Value.iface x (Value.agg (List.toArray (lcs ls)))))]) ?_
  refine kp 2 (.slice none 0 0) ?_
  refine kp 3 (.int IntKind.i64 0) ?_
  refine WpOps.nil (thenK_at (Wp.seq (Wp.seq (Wp.text ?_))))
  refine kp 10 (.agg #[Value.int .i64 N, Value.iface 48 (Value.iface (List.length ls) (Value.iface x (Value.agg (List.toArray (lcs ls)))))]) ?_
  refine fr 11 25 [Value.agg #[Value.int .i64 N, Value.iface 48 (Value.iface (List.length ls) (Value.iface x (Value.agg (List.toArray (lcs ls)))))]] ?_
  refine WpFun.of (hv) ?_
  refine kp 12 (.bool true) ?_
  refine WpOps.nil (thenK_at (on' (Wp.seq (Wp.text ?_))))
  refine kp 2 (.slice none 0 0) ?_
  refine kp 3 (.int IntKind.i64 1) ?_
  refine WpOps.nil (thenK_at (Wp.ret (thenK_ret ?_)))
  refine endK_retn [Value.slice none 0 0, Value.int IntKind.i64 1] (Value.tuple #[Value.slice none 0 0, Value.int IntKind.i64 1]) (by kernel_rfl) (by kernel_rfl) ?_
  have h61 : (E.types 61).map TI.size = some 1 := by kernel_rfl
  obtain ⟨ti, ht, _⟩ := Option.map_eq_some_iff.1 h61
  exact ⟨_, by kernel_rfl, .tuple (.cons (.c (.inr ⟨rfl, 61, ti, ht, rfl⟩)) (.cons (.c (.inl rfl)) .nil))⟩
set_option maxHeartbeats 4000000 in
theorem best23 (N x : Nat) (ls : List Lk) (g : Good N ls) (hz : ls.length ≤ 17592186044416) (hv : Fun E 25 [netV N x ls] (.bool true)) : Fun E 23 [netV N x ls] (.tuple #[matF 61 3 N (matC N (rall N (d0 (cF ls)) N)), .int .i64 0]) := by
  refine Fun.of f23 rfl (of_decide_eq_true (by kernel_rfl)) rfl ?_
  have hN := g.hN
  have c1 := costs51 N x ls g.hN g.hl hz
  rw [g.same] at c1
  have hcr := g.range
  have hcd := g.diag
  generalize cF ls = c at c1 hcr hcd ⊢
  unfold netV at c1 hv ⊢
  unfold lks at c1 hv ⊢
  refine Wp.seq (Wp.text ?_)
  refine md 1 (.pointer (some ⟨0, 0, none⟩)) (Blk.mk 24 true [Value.int .i64 (↑N : Int), Value.iface 48 (Value.iface (List.length ls) (Value.iface x (Value.agg (List.toArray (lcs ls)))))]) ?_
  refine kp 2 (.slice none 0 0) ?_
  refine kp 3 (.int IntKind.i64 0) ?_
  refine WpOps.nil (thenK_at (Wp.seq (Wp.seq (Wp.text ?_))))
  refine kp 10 (.agg #[Value.int .i64 (↑N : Int), Value.iface 48 (Value.iface (List.length ls) (Value.iface x (Value.agg (List.toArray (lcs ls)))))]) ?_
  refine fr 11 25 [Value.agg #[Value.int .i64 (↑N : Int), Value.iface 48 (Value.iface (List.length ls) (Value.iface x (Value.agg (List.toArray (lcs ls)))))]] ?_
  refine WpFun.of (hv) ?_
  refine kp 12 (.bool false) ?_
  refine WpOps.nil (thenK_at (off' (Wp.skip (thenK_at (Wp.seq (Wp.text ?_))))))
  refine kp 13 (.agg #[Value.int .i64 (↑N : Int), Value.iface 48 (Value.iface (List.length ls) (Value.iface x (Value.agg (List.toArray (lcs ls)))))]) ?_
  refine cl 14 51 [Value.agg #[Value.int .i64 (↑N : Int), Value.iface 48 (Value.iface (List.length ls) (Value.iface x (Value.agg (List.toArray (lcs ls)))))]] ?_
  refine WpCall.freshM c1 matC_len (fun r hr => matC_flat hr) (fun h2 hn hk h0 hr => ?_)
  have n0 : h2.get 0 = some ⟨24, true, [.int .i64 N, FS 48 ls.length x (lcs ls).toArray]⟩ := hk 0 Nat.one_pos
  refine kp 4 (.slice (some ⟨1, 0, none⟩) N N) ?_
  refine WpOps.nil (thenK_at (Wp.seq (Wp.seq (Wp.text ?_))))
  refine kp 15 (.slice (some ⟨1, 0, none⟩) N N) ?_
  refine kp 16 (.int IntKind.i64 (↑N : Int)) ?_
  refine kp 17 (.int IntKind.i64 0) ?_
  refine WpOps.nil (thenK_at (Wp.block ?_))
  refine Wp.loop (G := Nat) (fun v => layj [(4, .slice (some ⟨1, 0, none⟩) N N), (16, .int .i64 N), (17, .int .i64 v)]) (fun v => bH (nv N x ls) N (gC (d0 c) c v 0)) (fun v => N - v) (fun v => v ≤ N) 0
    ?_ (Nat.zero_le _) ?_
  · rw [gC_zero]
    exact bView rfl n0 h0 (fun i hi => hr i _ (matC_at hi)) ⟨⟨by kernel_rfl, okV_sl (by omega)⟩, ⟨by kernel_rfl, rfl⟩, ⟨by kernel_rfl, rfl⟩, trivial⟩
  clear hr h0 hk hn n0 h2
  intro v hv2
  by_cases hlt : v < N
  · have d1 : decide ((v : Int) < N) = true := decide_eq_true (by omega)
    refine Wp.seq (Wp.text ?_)
    refine kp 18 (.bool true) ?_ (hop := fun _ => by_fact d1)
    refine WpOps.nil (thenK_at (Wp.seq (on' (Wp.skip (thenK_at (Wp.seq (Wp.block (Wp.seq (Wp.text ?_)))))))))
    refine kp 19 (.int IntKind.i64 (↑v : Int)) ?_
    refine kp 5 (.int IntKind.i64 (↑v : Int)) ?_
    refine WpOps.nil (thenK_at (Wp.seq (Wp.text ?_)))
    refine kp 20 (.slice (some ⟨1, 0, none⟩) N N) ?_
    refine kp 21 (.int IntKind.i64 (↑N : Int)) ?_
    refine kp 22 (.int IntKind.i64 0) ?_
    refine WpOps.nil (thenK_at (Wp.block ?_))
    refine Wp.loop (G := Nat) (fun w => layj [(4, .slice (some ⟨1, 0, none⟩) N N), (16, .int .i64 N), (17, .int .i64 v), (5, .int .i64 v), (21, .int .i64 N), (22, .int .i64 w)]) (fun w => bH (nv N x ls) N (gC (d0 c) c v w)) (fun w => N - w) (fun w => w ≤ N) 0
      ?_ (Nat.zero_le _) ?_
    · exact bView rfl rfl rfl (fun i hi => bH_row hi) ⟨⟨by kernel_rfl, okV_sl (by omega)⟩, ⟨by kernel_rfl, rfl⟩, ⟨by kernel_rfl, rfl⟩, ⟨by kernel_rfl, rfl⟩, ⟨by kernel_rfl, rfl⟩, ⟨by kernel_rfl, rfl⟩, trivial⟩
    intro w hw
    by_cases hlt2 : w < N
    · have d2 : decide ((w : Int) < N) = true := decide_eq_true (by omega)
      have g1 : 0 ≤ (v : Int) ∧ (v : Int) < N := by omega
      have g2 : 0 ≤ (w : Int) ∧ (w : Int) < N := by omega
      have u1 := hdr hlt
      have n1 := bH_row (x0 := nv N x ls) (d := gC (d0 c) c v w) hlt
      have u2 := cell0 (d := gC (d0 c) c v w) (i := v) hlt2
      rw [gC_at] at u2
      have q1 : true = true ∧ 0 + (w : Int).toNat * 1 + 1 ≤ ((List.range N).map fun j => Value.int .i64 (gC (d0 c) c v w v j)).length := ⟨rfl, by simp; omega⟩
      by_cases h0 : c v w = 0 ∧ ¬ v = w
      · have e1 : (c v w == 0) = true := by simpa using h0.1
        have e2 : ((v : Int) != (w : Int)) = true := bne_iff_ne.2 (by omega)
        have hR : d0 c v w = 16 := if_pos h0
        refine Wp.seq (Wp.text ?_)
        refine kp 23 (.bool true) ?_ (hop := fun _ => by_fact d2)
        refine WpOps.nil (thenK_at (Wp.seq (on' (Wp.skip (thenK_at (Wp.seq (Wp.block (Wp.seq (Wp.text ?_)))))))))
        refine kp 24 (.int IntKind.i64 (↑w : Int)) ?_
        refine kp 6 (.int IntKind.i64 (↑w : Int)) ?_
        refine WpOps.nil (thenK_at (Wp.seq (Wp.text ?_)))
        refine kp 25 (.slice (some ⟨1, 0, none⟩) N N) ?_
        refine kp 26 (.int IntKind.i64 (↑v : Int)) ?_
        refine kp 27 (.pointer (some (Addr.mk 1 (0 + Int.toNat (↑v : Int) * 1) none))) ?_ (hop := fun _ => o_indexAddr (a := (↑v : Int)) (bl := 1) (off := 0) (size := 1) 61 (N) g1)
        refine kp 28 (.slice (some (Addr.mk (v + 2) 0 none)) N N) ?_ (hop := fun _ => o_load1 (1) (0 + Int.toNat (↑v : Int) * 1) u1)
        refine kp 29 (.int IntKind.i64 (↑w : Int)) ?_
        refine kp 30 (.pointer (some (Addr.mk (v + 2) (0 + Int.toNat (↑w : Int) * 1) none))) ?_ (hop := fun _ => o_indexAddr (a := (↑w : Int)) (bl := v + 2) (off := 0) (size := 1) 3 (N) g2)
        refine kp 31 (.int IntKind.i64 (c v w)) ?_ (hop := fun _ => o_load1H (v + 2) (0 + Int.toNat (↑w : Int) * 1) n1 u2)
        refine kp 32 (.bool true) ?_ (hop := fun _ => by_fact e1)
        refine kp 33 (.bool true) ?_
        refine kp 34 (.int IntKind.i64 (↑v : Int)) ?_
        refine kp 35 (.int IntKind.i64 (↑w : Int)) ?_
        refine kp 36 (.bool true) ?_ (hop := fun _ => by_fact e2)
        refine kp 37 (.bool true) ?_
        refine WpOps.nil (thenK_at (on' (Wp.text ?_)))
        refine kp 38 (.slice (some ⟨1, 0, none⟩) N N) ?_
        refine kp 39 (.int IntKind.i64 (↑v : Int)) ?_
        refine kp 40 (.pointer (some (Addr.mk 1 (0 + Int.toNat (↑v : Int) * 1) none))) ?_ (hop := fun _ => o_indexAddr (a := (↑v : Int)) (bl := 1) (off := 0) (size := 1) 61 (N) g1)
        refine kp 41 (.slice (some (Addr.mk (v + 2) 0 none)) N N) ?_ (hop := fun _ => o_load1 (1) (0 + Int.toNat (↑v : Int) * 1) u1)
        refine kp 42 (.int IntKind.i64 (↑w : Int)) ?_
        refine kp 43 (.pointer (some (Addr.mk (v + 2) (0 + Int.toNat (↑w : Int) * 1) none))) ?_ (hop := fun _ => o_indexAddr (a := (↑w : Int)) (bl := v + 2) (off := 0) (size := 1) 3 (N) g2)
        refine ld (.tuple #[]) (v + 2) (Blk.mk 3 true (List.set (List.map (fun j => Value.int .i64 (gC (d0 c) c v w v j)) (List.range N)) (0 + Int.toNat (↑w : Int) * 1) (Value.int .i64 16))) ?_ (hop := fun _ => o_storeH (v := Value.int IntKind.i64 16) (xs := [Value.int IntKind.i64 16]) (v + 2) (0 + Int.toNat (↑w : Int) * 1) n1 q1)
        refine WpOps.nil (blockK_norm (thenK_at (Wp.text ?_)))
        refine kp 44 (.int IntKind.i64 (IntKind.wrap .i64 ((↑w : Int) + 1))) ?_
        refine kp 22 (.int IntKind.i64 (IntKind.wrap .i64 ((↑w : Int) + 1))) ?_
        refine WpOps.nil (thenK_at ?_)
        refine ⟨w + 1, by omega, by omega, ?_⟩
        rw [← gC_step, hR]
        refine bView rfl ?_ ?_ (fun a ha => ?_) ⟨⟨by kernel_rfl, okV_sl (by omega)⟩, ⟨by kernel_rfl, rfl⟩, ⟨by kernel_rfl, rfl⟩, ⟨by kernel_rfl, rfl⟩, ⟨by kernel_rfl, rfl⟩, ⟨congrArg (Value.int .i64) (wr _ (by omega) (by omega)), rfl⟩, trivial⟩
        · rw [Heap.get_set, if_neg (by omega)]
          rfl
        · rw [Heap.get_set, if_neg (by omega)]
          rfl
        · rw [Heap.get_set]
          by_cases e : a = v
          · subst e
            rw [if_pos rfl, Int.toNat_natCast, Nat.zero_add, Nat.mul_one, putC_set]
          · rw [if_neg (by omega), bH_row ha, putC_row _ _ e]
      · have hR : d0 c v w = gC (d0 c) c v w v w := by rw [gC_at]; exact if_neg h0
        by_cases h1 : c v w = 0
        · have e1 : (c v w == 0) = true := by simpa using h1
          have e2 : ((v : Int) != (w : Int)) = false := by
            have : v = w := Decidable.not_not.1 fun h => h0 ⟨h1, h⟩
            rw [this]
            simp
          refine Wp.seq (Wp.text ?_)
          refine kp 23 (.bool true) ?_ (hop := fun _ => by_fact d2)
          refine WpOps.nil (thenK_at (Wp.seq (on' (Wp.skip (thenK_at (Wp.seq (Wp.block (Wp.seq (Wp.text ?_)))))))))
          refine kp 24 (.int IntKind.i64 (↑w : Int)) ?_
          refine kp 6 (.int IntKind.i64 (↑w : Int)) ?_
          refine WpOps.nil (thenK_at (Wp.seq (Wp.text ?_)))
          refine kp 25 (.slice (some ⟨1, 0, none⟩) N N) ?_
          refine kp 26 (.int IntKind.i64 (↑v : Int)) ?_
          refine kp 27 (.pointer (some (Addr.mk 1 (0 + Int.toNat (↑v : Int) * 1) none))) ?_ (hop := fun _ => o_indexAddr (a := (↑v : Int)) (bl := 1) (off := 0) (size := 1) 61 (N) g1)
          refine kp 28 (.slice (some (Addr.mk (v + 2) 0 none)) N N) ?_ (hop := fun _ => o_load1 (1) (0 + Int.toNat (↑v : Int) * 1) u1)
          refine kp 29 (.int IntKind.i64 (↑w : Int)) ?_
          refine kp 30 (.pointer (some (Addr.mk (v + 2) (0 + Int.toNat (↑w : Int) * 1) none))) ?_ (hop := fun _ => o_indexAddr (a := (↑w : Int)) (bl := v + 2) (off := 0) (size := 1) 3 (N) g2)
          refine kp 31 (.int IntKind.i64 (c v w)) ?_ (hop := fun _ => o_load1H (v + 2) (0 + Int.toNat (↑w : Int) * 1) n1 u2)
          refine kp 32 (.bool true) ?_ (hop := fun _ => by_fact e1)
          refine kp 33 (.bool true) ?_
          refine kp 34 (.int IntKind.i64 (↑v : Int)) ?_
          refine kp 35 (.int IntKind.i64 (↑w : Int)) ?_
          refine kp 36 (.bool false) ?_ (hop := fun _ => by_fact e2)
          refine kp 37 (.bool false) ?_
          refine WpOps.nil (thenK_at (off' (Wp.skip (blockK_norm (thenK_at (Wp.text ?_))))))
          refine kp 44 (.int IntKind.i64 (IntKind.wrap .i64 ((↑w : Int) + 1))) ?_
          refine kp 22 (.int IntKind.i64 (IntKind.wrap .i64 ((↑w : Int) + 1))) ?_
          refine WpOps.nil (thenK_at ?_)
          refine ⟨w + 1, by omega, by omega, ?_⟩
          rw [← gC_step, hR, putC_self]
          exact bView rfl rfl rfl (fun i hi => bH_row hi) ⟨⟨by kernel_rfl, okV_sl (by omega)⟩, ⟨by kernel_rfl, rfl⟩, ⟨by kernel_rfl, rfl⟩, ⟨by kernel_rfl, rfl⟩, ⟨by kernel_rfl, rfl⟩, ⟨congrArg (Value.int .i64) (wr _ (by omega) (by omega)), rfl⟩, trivial⟩
        · have e1 : (c v w == 0) = false := by simpa using h1
          refine Wp.seq (Wp.text ?_)
          refine kp 23 (.bool true) ?_ (hop := fun _ => by_fact d2)
          refine WpOps.nil (thenK_at (Wp.seq (on' (Wp.skip (thenK_at (Wp.seq (Wp.block (Wp.seq (Wp.text ?_)))))))))
          refine kp 24 (.int IntKind.i64 (↑w : Int)) ?_
          refine kp 6 (.int IntKind.i64 (↑w : Int)) ?_
          refine WpOps.nil (thenK_at (Wp.seq (Wp.text ?_)))
          refine kp 25 (.slice (some ⟨1, 0, none⟩) N N) ?_
          refine kp 26 (.int IntKind.i64 (↑v : Int)) ?_
          refine kp 27 (.pointer (some (Addr.mk 1 (0 + Int.toNat (↑v : Int) * 1) none))) ?_ (hop := fun _ => o_indexAddr (a := (↑v : Int)) (bl := 1) (off := 0) (size := 1) 61 (N) g1)
          refine kp 28 (.slice (some (Addr.mk (v + 2) 0 none)) N N) ?_ (hop := fun _ => o_load1 (1) (0 + Int.toNat (↑v : Int) * 1) u1)
          refine kp 29 (.int IntKind.i64 (↑w : Int)) ?_
          refine kp 30 (.pointer (some (Addr.mk (v + 2) (0 + Int.toNat (↑w : Int) * 1) none))) ?_ (hop := fun _ => o_indexAddr (a := (↑w : Int)) (bl := v + 2) (off := 0) (size := 1) 3 (N) g2)
          refine kp 31 (.int IntKind.i64 (c v w)) ?_ (hop := fun _ => o_load1H (v + 2) (0 + Int.toNat (↑w : Int) * 1) n1 u2)
          refine kp 32 (.bool false) ?_ (hop := fun _ => by_fact e1)
          refine kp 33 (.bool false) ?_
          refine um 34 ?_
          refine um 35 ?_
          refine um 36 ?_
          refine kp 37 (.bool false) ?_
          refine WpOps.nil (thenK_at (off' (Wp.skip (blockK_norm (thenK_at (Wp.text ?_))))))
          refine kp 44 (.int IntKind.i64 (IntKind.wrap .i64 ((↑w : Int) + 1))) ?_
          refine kp 22 (.int IntKind.i64 (IntKind.wrap .i64 ((↑w : Int) + 1))) ?_
          refine WpOps.nil (thenK_at ?_)
          refine ⟨w + 1, by omega, by omega, ?_⟩
          rw [← gC_step, hR, putC_self]
          exact bView rfl rfl rfl (fun i hi => bH_row hi) ⟨⟨by kernel_rfl, okV_sl (by omega)⟩, ⟨by kernel_rfl, rfl⟩, ⟨by kernel_rfl, rfl⟩, ⟨by kernel_rfl, rfl⟩, ⟨by kernel_rfl, rfl⟩, ⟨congrArg (Value.int .i64) (wr _ (by omega) (by omega)), rfl⟩, trivial⟩
    · obtain rfl : w = N := by omega
      have d2 : decide ((w : Int) < w) = false := decide_eq_false (by omega)
      refine Wp.seq (Wp.text ?_)
      refine kp 23 (.bool false) ?_ (hop := fun _ => by_fact d2)
      refine WpOps.nil (thenK_at (Wp.seq (off' (Wp.exit (thenK_exit (thenK_exit (blockK_hit (blockK_norm (thenK_at (Wp.text ?_))))))))))
      refine kp 45 (.int IntKind.i64 (IntKind.wrap .i64 ((↑v : Int) + 1))) ?_
      refine kp 17 (.int IntKind.i64 (IntKind.wrap .i64 ((↑v : Int) + 1))) ?_
      refine WpOps.nil (thenK_at ?_)
      refine ⟨v + 1, by omega, by omega, ?_⟩
      unfold bH
      rw [← gC_next]
      exact bView rfl rfl rfl (fun i hi => bH_row (x0 := nv w x ls) hi) ⟨⟨by kernel_rfl, okV_sl (by omega)⟩, ⟨by kernel_rfl, rfl⟩, ⟨congrArg (Value.int .i64) (wr _ (by omega) (by omega)), rfl⟩, trivial⟩
  · obtain rfl : v = N := by omega
    have d1 : decide ((v : Int) < v) = false := decide_eq_false (by omega)
    have e0 : bH (nv v x ls) v (gC (d0 c) c v 0) = bH (nv v x ls) v (d0 c) := by unfold bH; rw [gC_done]
    rw [e0]
    have hb0 := bnd_d0 hcr
    generalize d0 c = dd at hb0 ⊢
    refine Wp.seq (Wp.text ?_)
    refine kp 18 (.bool false) ?_ (hop := fun _ => by_fact d1)
    refine WpOps.nil (thenK_at (Wp.seq (off' (Wp.exit (thenK_exit (thenK_exit (blockK_hit (thenK_at (Wp.seq (Wp.seq (Wp.text ?_)))))))))))
    refine kp 46 (.slice (some ⟨1, 0, none⟩) v v) ?_
    refine kp 47 (.int IntKind.i64 (↑v : Int)) ?_
    refine kp 48 (.int IntKind.i64 0) ?_
    refine WpOps.nil (thenK_at (Wp.block ?_))
    refine Wp.loop (G := Nat) (fun k => layj [(4, .slice (some ⟨1, 0, none⟩) v v), (47, .int .i64 v), (48, .int .i64 k)]) (fun k => bH (nv v x ls) v (rall v dd k)) (fun k => v - k) (fun k => k ≤ v) 0
      (bView rfl rfl rfl (fun i hi => bH_row hi) ⟨⟨by kernel_rfl, okV_sl (by omega)⟩, ⟨by kernel_rfl, rfl⟩, ⟨by kernel_rfl, rfl⟩, trivial⟩) (Nat.zero_le _) ?_
    intro k hk
    have hbk := bnd_rall (n := v) hb0 k
    by_cases hltk : k < v
    · have d3 : decide ((k : Int) < v) = true := decide_eq_true (by omega)
      refine Wp.seq (Wp.text ?_)
      refine kp 49 (.bool true) ?_ (hop := fun _ => by_fact d3)
      refine WpOps.nil (thenK_at (Wp.seq (on' (Wp.skip (thenK_at (Wp.seq (Wp.block (Wp.seq (Wp.text ?_)))))))))
      refine kp 50 (.int IntKind.i64 (↑k : Int)) ?_
      refine kp 7 (.int IntKind.i64 (↑k : Int)) ?_
      refine WpOps.nil (thenK_at (Wp.seq (Wp.text ?_)))
      refine kp 51 (.slice (some ⟨1, 0, none⟩) v v) ?_
      refine kp 52 (.int IntKind.i64 (↑v : Int)) ?_
      refine kp 53 (.int IntKind.i64 0) ?_
      refine WpOps.nil (thenK_at (Wp.block ?_))
      refine Wp.loop (G := Nat) (fun i => layj [(4, .slice (some ⟨1, 0, none⟩) v v), (47, .int .i64 v), (48, .int .i64 k), (7, .int .i64 k), (52, .int .i64 v), (53, .int .i64 i)]) (fun i => bH (nv v x ls) v (rmat v (rall v dd k) k i)) (fun i => v - i) (fun i => i ≤ v) 0
        (bView rfl rfl rfl (fun i hi => bH_row hi) ⟨⟨by kernel_rfl, okV_sl (by omega)⟩, ⟨by kernel_rfl, rfl⟩, ⟨by kernel_rfl, rfl⟩, ⟨by kernel_rfl, rfl⟩, ⟨by kernel_rfl, rfl⟩, ⟨by kernel_rfl, rfl⟩, trivial⟩) (Nat.zero_le _) ?_
      intro i hi
      have hbi := bnd_rmat (n := v) hbk k i
      by_cases hlti : i < v
      · have d4 : decide ((i : Int) < v) = true := decide_eq_true (by omega)
        refine Wp.seq (Wp.text ?_)
        refine kp 54 (.bool true) ?_ (hop := fun _ => by_fact d4)
        refine WpOps.nil (thenK_at (Wp.seq (on' (Wp.skip (thenK_at (Wp.seq (Wp.block (Wp.seq (Wp.text ?_)))))))))
        refine kp 55 (.int IntKind.i64 (↑i : Int)) ?_
        refine kp 8 (.int IntKind.i64 (↑i : Int)) ?_
        refine WpOps.nil (thenK_at (Wp.seq (Wp.text ?_)))
        refine kp 56 (.slice (some ⟨1, 0, none⟩) v v) ?_
        refine kp 57 (.int IntKind.i64 (↑v : Int)) ?_
        refine kp 58 (.int IntKind.i64 0) ?_
        refine WpOps.nil (thenK_at (Wp.block ?_))
        refine Wp.loop (G := Nat) (fun w => layj [(4, .slice (some ⟨1, 0, none⟩) v v), (47, .int .i64 v), (48, .int .i64 k), (7, .int .i64 k), (52, .int .i64 v), (53, .int .i64 i), (8, .int .i64 i), (57, .int .i64 v), (58, .int .i64 w)]) (fun w => bH (nv v x ls) v (rrow (rmat v (rall v dd k) k i) k i w)) (fun w => v - w) (fun w => w ≤ v) 0
          (bView rfl rfl rfl (fun i hi => bH_row hi) ⟨⟨by kernel_rfl, okV_sl (by omega)⟩, ⟨by kernel_rfl, rfl⟩, ⟨by kernel_rfl, rfl⟩, ⟨by kernel_rfl, rfl⟩, ⟨by kernel_rfl, rfl⟩, ⟨by kernel_rfl, rfl⟩, ⟨by kernel_rfl, rfl⟩, ⟨by kernel_rfl, rfl⟩, ⟨by kernel_rfl, rfl⟩, trivial⟩) (Nat.zero_le _) ?_
        intro w hw
        have hbw := bnd_rrow hbi k i w
        have hrs : rrow (rmat v (rall v dd k) k i) k i (w + 1) = relax (rrow (rmat v (rall v dd k) k i) k i w) k i w := rfl
        have hrv : w = v → rmat v (rall v dd k) k (i + 1) = rrow (rmat v (rall v dd k) k i) k i w := fun e => by rw [e]; rfl
        generalize rrow (rmat v (rall v dd k) k i) k i w = d at hbw hrs hrv ⊢
        by_cases hltw : w < v
        · have d5 : decide ((w : Int) < v) = true := decide_eq_true (by omega)
          have g1 : 0 ≤ (i : Int) ∧ (i : Int) < v := by omega
          have g2 : 0 ≤ (w : Int) ∧ (w : Int) < v := by omega
          have g3 : 0 ≤ (k : Int) ∧ (k : Int) < v := by omega
          have u1 := hdr hlti
          have u1' := hdr hltk
          have n1 := bH_row (x0 := nv v x ls) (d := d) hlti
          have n1' := bH_row (x0 := nv v x ls) (d := d) hltk
          have u2 := cell0 (d := d) (i := i) hltw
          have u3 := cell0 (d := d) (i := i) hltk
          have u4 := cell0 (d := d) (i := k) hltw
          have b1 := hbw i k
          have b2 := hbw k w
          have x2 : 1 ≠ i + 2 := by omega
          have q1 : ∀ z : Int, true = true ∧ 0 + (w : Int).toNat * 1 + [Value.int .i64 z].length ≤ ((List.range v).map fun j => Value.int .i64 (d i j)).length := fun z => ⟨rfl, by simp; omega⟩
          have q2 := q1 (if IntKind.i64.wrap (d i k + d k w) < d i w then IntKind.i64.wrap (d i k + d k w) else d i w)
          refine Wp.seq (Wp.text ?_)
          refine kp 59 (.bool true) ?_ (hop := fun _ => by_fact d5)
          refine WpOps.nil (thenK_at (Wp.seq (on' (Wp.skip (thenK_at (Wp.seq (Wp.block (Wp.seq (Wp.text ?_)))))))))
          refine kp 60 (.int IntKind.i64 (↑w : Int)) ?_
          refine kp 9 (.int IntKind.i64 (↑w : Int)) ?_
          refine WpOps.nil (thenK_at ?_)
          refine Wp.region (by kernel_rfl) ?_
          refine kp 61 (.slice (some ⟨1, 0, none⟩) v v) ?_
          refine kp 62 (.int IntKind.i64 (↑i : Int)) ?_
          refine kp 63 (.pointer (some (Addr.mk 1 (0 + Int.toNat (↑i : Int) * 1) none))) ?_ (hop := fun _ => o_indexAddr (a := (↑i : Int)) (bl := 1) (off := 0) (size := 1) 61 (v) g1)
          refine kp 64 (.slice (some (Addr.mk (i + 2) 0 none)) v v) ?_ (hop := fun _ => o_load1 (1) (0 + Int.toNat (↑i : Int) * 1) u1)
          refine kp 65 (.int IntKind.i64 (↑w : Int)) ?_
          refine kp 66 (.slice (some ⟨1, 0, none⟩) v v) ?_
          refine kp 67 (.int IntKind.i64 (↑i : Int)) ?_
          refine kp 68 (.pointer (some (Addr.mk 1 (0 + Int.toNat (↑i : Int) * 1) none))) ?_ (hop := fun _ => o_indexAddr (a := (↑i : Int)) (bl := 1) (off := 0) (size := 1) 61 (v) g1)
          refine kp 69 (.slice (some (Addr.mk (i + 2) 0 none)) v v) ?_ (hop := fun _ => o_load1 (1) (0 + Int.toNat (↑i : Int) * 1) u1)
          refine kp 70 (.int IntKind.i64 (↑w : Int)) ?_
          refine kp 71 (.pointer (some (Addr.mk (i + 2) (0 + Int.toNat (↑w : Int) * 1) none))) ?_ (hop := fun _ => o_indexAddr (a := (↑w : Int)) (bl := i + 2) (off := 0) (size := 1) 3 (v) g2)
          refine kp 72 (.int IntKind.i64 (d i w)) ?_ (hop := fun _ => o_load1H (i + 2) (0 + Int.toNat (↑w : Int) * 1) n1 u2)
          refine kp 73 (.slice (some ⟨1, 0, none⟩) v v) ?_
          refine kp 74 (.int IntKind.i64 (↑i : Int)) ?_
          refine kp 75 (.pointer (some (Addr.mk 1 (0 + Int.toNat (↑i : Int) * 1) none))) ?_ (hop := fun _ => o_indexAddr (a := (↑i : Int)) (bl := 1) (off := 0) (size := 1) 61 (v) g1)
          refine kp 76 (.slice (some (Addr.mk (i + 2) 0 none)) v v) ?_ (hop := fun _ => o_load1 (1) (0 + Int.toNat (↑i : Int) * 1) u1)
          refine kp 77 (.int IntKind.i64 (↑k : Int)) ?_
          refine kp 78 (.pointer (some (Addr.mk (i + 2) (0 + Int.toNat (↑k : Int) * 1) none))) ?_ (hop := fun _ => o_indexAddr (a := (↑k : Int)) (bl := i + 2) (off := 0) (size := 1) 3 (v) g3)
          refine kp 79 (.int IntKind.i64 (d i k)) ?_ (hop := fun _ => o_load1H (i + 2) (0 + Int.toNat (↑k : Int) * 1) n1 u3)
          refine kp 80 (.slice (some ⟨1, 0, none⟩) v v) ?_
          refine kp 81 (.int IntKind.i64 (↑k : Int)) ?_
          refine kp 82 (.pointer (some (Addr.mk 1 (0 + Int.toNat (↑k : Int) * 1) none))) ?_ (hop := fun _ => o_indexAddr (a := (↑k : Int)) (bl := 1) (off := 0) (size := 1) 61 (v) g3)
          refine kp 83 (.slice (some (Addr.mk (k + 2) 0 none)) v v) ?_ (hop := fun _ => o_load1 (1) (0 + Int.toNat (↑k : Int) * 1) u1')
          refine kp 84 (.int IntKind.i64 (↑w : Int)) ?_
          refine kp 85 (.pointer (some (Addr.mk (k + 2) (0 + Int.toNat (↑w : Int) * 1) none))) ?_ (hop := fun _ => o_indexAddr (a := (↑w : Int)) (bl := k + 2) (off := 0) (size := 1) 3 (v) g2)
          refine kp 86 (.int IntKind.i64 (d k w)) ?_ (hop := fun _ => o_load1H (k + 2) (0 + Int.toNat (↑w : Int) * 1) n1' u4)
          refine kp 87 (.int IntKind.i64 (IntKind.wrap .i64 (d i k + d k w))) ?_
          refine kp 88 (.int IntKind.i64 (if IntKind.wrap .i64 (d i k + d k w) < d i w then IntKind.wrap .i64 (d i k + d k w) else d i w)) ?_
          refine kp 89 (.pointer (some (Addr.mk (i + 2) (0 + Int.toNat (↑w : Int) * 1) none))) ?_ (hop := fun _ => o_indexAddr (a := (↑w : Int)) (bl := i + 2) (off := 0) (size := 1) 3 (v) g2)
          refine ld (.tuple #[]) (i + 2) (Blk.mk 3 true (List.set (List.map (fun j => Value.int .i64 (d i j)) (List.range v)) (0 + Int.toNat (↑w : Int) * 1) (Value.int .i64 (if IntKind.wrap .i64 (d i k + d k w) < d i w then IntKind.wrap .i64 (d i k + d k w) else d i w)))) ?_ (hop := fun _ => o_storeH (v := Value.int IntKind.i64 (if IntKind.wrap IntKind.i64 (d i k + d k w) < d i w then IntKind.wrap IntKind.i64 (d i k + d k w) else d i w)) (xs := [Value.int IntKind.i64 (if IntKind.wrap IntKind.i64 (d i k + d k w) < d i w then IntKind.wrap IntKind.i64 (d i k + d k w) else d i w)]) (i + 2) (0 + Int.toNat (↑w : Int) * 1) n1 q2)
          refine WpOps.nil (blockK_norm (thenK_at (Wp.text ?_)))
          refine kp 90 (.int IntKind.i64 (IntKind.wrap .i64 ((↑w : Int) + 1))) ?_
          refine kp 58 (.int IntKind.i64 (IntKind.wrap .i64 ((↑w : Int) + 1))) ?_
          refine WpOps.nil (thenK_at ?_)
          refine ⟨w + 1, by omega, by omega, ?_⟩
          have hm : (if IntKind.i64.wrap (d i k + d k w) < d i w then IntKind.i64.wrap (d i k + d k w) else d i w) = min (d i w) (d i k + d k w) := by
            rw [wr _ (by omega) (by omega)]
            split <;> omega
          rw [hrs]
          unfold relax
          rw [← hm]
          refine bView rfl ?_ ?_ (fun a ha => ?_) ⟨⟨by kernel_rfl, okV_sl (by omega)⟩, ⟨by kernel_rfl, rfl⟩, ⟨by kernel_rfl, rfl⟩, ⟨by kernel_rfl, rfl⟩, ⟨by kernel_rfl, rfl⟩, ⟨by kernel_rfl, rfl⟩, ⟨by kernel_rfl, rfl⟩, ⟨by kernel_rfl, rfl⟩, ⟨congrArg (Value.int .i64) (wr _ (by omega) (by omega)), rfl⟩, trivial⟩
          · rw [Heap.get_set, if_neg (by omega)]
            rfl
          · rw [Heap.get_set, if_neg (by omega)]
            rfl
          · rw [Heap.get_set]
            by_cases e : a = i
            · subst e
              rw [if_pos rfl, Int.toNat_natCast, Nat.zero_add, Nat.mul_one, putC_set]
            · rw [if_neg (by omega), bH_row ha, putC_row _ _ e]
        · have ew : w = v := by omega
          have hrv' := hrv ew
          obtain rfl : v = w := ew.symm
          have d5 : decide ((v : Int) < v) = false := decide_eq_false (by omega)
          refine Wp.seq (Wp.text ?_)
          refine kp 59 (.bool false) ?_ (hop := fun _ => by_fact d1)
          refine WpOps.nil (thenK_at (Wp.seq (off' (Wp.exit (thenK_exit (thenK_exit (blockK_hit (blockK_norm (thenK_at (Wp.text ?_))))))))))
          refine kp 91 (.int IntKind.i64 (IntKind.wrap .i64 ((↑i : Int) + 1))) ?_
          refine kp 53 (.int IntKind.i64 (IntKind.wrap .i64 ((↑i : Int) + 1))) ?_
          refine WpOps.nil (thenK_at ?_)
          refine ⟨i + 1, by omega, by omega, ?_⟩
          rw [hrv']
          exact bView rfl rfl rfl (fun i hi => bH_row hi) ⟨⟨by kernel_rfl, okV_sl (by omega)⟩, ⟨by kernel_rfl, rfl⟩, ⟨by kernel_rfl, rfl⟩, ⟨by kernel_rfl, rfl⟩, ⟨by kernel_rfl, rfl⟩, ⟨congrArg (Value.int .i64) (wr _ (by omega) (by omega)), rfl⟩, trivial⟩
      · obtain rfl : i = v := by omega
        have d4 : decide ((i : Int) < i) = false := decide_eq_false (by omega)
        refine Wp.seq (Wp.text ?_)
        refine kp 54 (.bool false) ?_ (hop := fun _ => by_fact d1)
        refine WpOps.nil (thenK_at (Wp.seq (off' (Wp.exit (thenK_exit (thenK_exit (blockK_hit (blockK_norm (thenK_at (Wp.text ?_))))))))))
        refine kp 92 (.int IntKind.i64 (IntKind.wrap .i64 ((↑k : Int) + 1))) ?_
        refine kp 48 (.int IntKind.i64 (IntKind.wrap .i64 ((↑k : Int) + 1))) ?_
        refine WpOps.nil (thenK_at ?_)
        exact ⟨k + 1, by omega, by omega, bView rfl rfl rfl (fun i hi => bH_row hi) ⟨⟨by kernel_rfl, okV_sl (by omega)⟩, ⟨by kernel_rfl, rfl⟩, ⟨congrArg (Value.int .i64) (wr _ (by omega) (by omega)), rfl⟩, trivial⟩⟩
    · obtain rfl : k = v := by omega
      have d3 : decide ((k : Int) < k) = false := decide_eq_false (by omega)
      refine Wp.seq (Wp.text ?_)
      refine kp 49 (.bool false) ?_ (hop := fun _ => by_fact d1)
      refine WpOps.nil (thenK_at (Wp.seq (off' (Wp.exit (thenK_exit (thenK_exit (blockK_hit (thenK_at (Wp.seq (Wp.text ?_))))))))))
      refine kp 93 (.slice (some ⟨1, 0, none⟩) k k) ?_
      refine kp 2 (.slice (some ⟨1, 0, none⟩) k k) ?_
      refine kp 3 (.int IntKind.i64 0) ?_
      refine WpOps.nil (thenK_at (Wp.ret ?_))
      refine endK_retn [Value.slice (some (Addr.mk 1 0 none)) k k, Value.int IntKind.i64 0] (Value.tuple #[Value.slice (some (Addr.mk 1 0 none)) k k, Value.int IntKind.i64 0]) (by kernel_rfl) (by kernel_rfl) ?_
      have e : iceV E (bH (nv k x ls) k (rall k dd k)) (.slice (some ⟨1, 0, none⟩) k k) = some (matF 61 3 k (matC k (rall k dd k))) :=
        mat_ice (p := 2) (size := 1) (by kernel_rfl) (by kernel_rfl) matC_len rfl (fun i r h => mH_row (pre := [nv k x ls, ⟨61, true, rowsV 2 k k⟩]) h) (fun r h => matC_row h) (fun r h => matC_flat h)
      exact pair_ice (show iceW E _ _ = _ from e)
end Go.Proofs.Ytfjkanjmggbofaa.D
