/- relay.Medium.Put. -/
import Derived.Test.YtdkmdpklojeepaaFwLem
import Derived.Test.YtdkmdpklojeepaaFwHole
import Derived.Test.YtdkmdpklojeepaaR09b
import Derived.Test.YtdkmdpklojeepaaS09f
namespace Go.Proofs.Ytdkmdpklojeepaa.D
open Go.Fw Go.RowKit

theorem h40 : E.funcs 40 = some Try.f40 := by kernel_rfl
theorem none40n (k : Int) (L : List Ft) (t u : Int) : Lent E 40 [.pointer (some ⟨0, 0, none⟩)] [mB k L t u (.slice none 0 0)] (.bool false) [mB k L t u (.slice none 0 0)] := by
  refine Lent.of h40 rfl (of_decide_eq_true (by kernel_rfl)) rfl rfl (Nat.le_refl _) rfl rfl rfl ?_
  unfold mB
  refine Wp.seq (Wp.text ?_)
  refine kp 2 (.bool false) ?_
  refine WpOps.nil (thenK_at (Wp.seq (Wp.text ?_)))
  refine kp 3 (.pointer (some ⟨0, 0, none⟩)) ?_
  refine kp 4 (.bool false) ?_
  refine kp 5 (.bool false) ?_
  refine kp 6 (.pointer (some ⟨0, 0, none⟩)) ?_
  refine kp 7 (.pointer (some ⟨0, 0, none⟩)) ?_
  refine kp 8 (.pointer (some ⟨0, 1, none⟩)) ?_
  refine kp 9 (.iface 46 (Value.iface (List.length L) (Value.iface 0 (Value.agg (List.toArray (fts L)))))) ?_
  refine kp 10 (.bool false) ?_
  refine kp 11 (.bool false) ?_
  refine kp 2 (.bool false) ?_
  refine WpOps.nil (thenK_at (Wp.ret ?_))
  refine endK_retn [Value.bool false] (Value.bool false) (by kernel_rfl) (by kernel_rfl) ?_
  exact ⟨[0], by decide, by kernel_rfl, ⟨⟨_, by kernel_rfl, toldC_flat rfl⟩, trivial⟩, .w (.un rfl rfl)⟩
theorem none40o (k : Int) (L : List Ft) (t u : Int) (o n c : Nat) (R : List Tr) : Lent E 40 [.pointer (some ⟨0, 0, none⟩)] [mB k L t u (.slice (some ⟨1, o, none⟩) n c), rowB R] (.bool false) [mB k L t u (.slice (some ⟨1, o, none⟩) n c), rowB R] := by
  refine Lent.of h40 rfl (of_decide_eq_true (by kernel_rfl)) rfl rfl (Nat.le_refl _) rfl ?_ rfl ?_
  · simp only [mB, rowB, List.all_cons, List.all_nil, okCs_flat (tcs_flat _), Bool.and_true]
    rfl
  unfold mB
  refine Wp.seq (Wp.text ?_)
  refine kp 2 (.bool false) ?_
  refine WpOps.nil (thenK_at (Wp.seq (Wp.text ?_)))
  refine kp 3 (.pointer (some ⟨0, 0, none⟩)) ?_
  refine kp 4 (.bool false) ?_
  refine kp 5 (.bool false) ?_
  refine kp 6 (.pointer (some ⟨0, 0, none⟩)) ?_
  refine kp 7 (.pointer (some ⟨0, 0, none⟩)) ?_
  refine kp 8 (.pointer (some ⟨0, 1, none⟩)) ?_
  refine kp 9 (.iface 46 (Value.iface (List.length L) (Value.iface 0 (Value.agg (List.toArray (fts L)))))) ?_
  refine kp 10 (.bool false) ?_
  refine kp 11 (.bool false) ?_
  refine kp 2 (.bool false) ?_
  refine WpOps.nil (thenK_at (Wp.ret ?_))
  refine endK_retn [Value.bool false] (Value.bool false) (by kernel_rfl) (by kernel_rfl) ?_
  exact ⟨[0, 1], by decide, by kernel_rfl, ⟨⟨_, by kernel_rfl, .cons (.inl ⟨rfl, rfl⟩) (.cons (.inl ⟨rfl, rfl⟩) (.cons (.inl ⟨rfl, rfl⟩) (.cons (.inl ⟨rfl, rfl⟩) (.cons (.inl ⟨rfl, rfl⟩) .nil))))⟩, ⟨_, by kernel_rfl, toldC_flat (tcs_flat _)⟩, trivial⟩, .w (.un rfl rfl)⟩
theorem h13 : E.funcs 13 = some Try.f13 := by kernel_rfl
/-- What becomes of the unit that is put in as the uth one. -/
def fate (L : List Ft) (u : Nat) : Ft := L.getD u ⟨false, 0, 0, -1⟩
def unit' (f : Ft) (b : ByteArray) : ByteArray := if f.sp ≥ 0 then spu b f.sp else b
def mx (a : Int) (z : Tr) : Int := if z.1 > a then z.1 else a
def atW (k : Int) (f : Ft) (t : Nat) (X : List Tr) : Int := if k = 0 then X.foldl mx (t + 1 + f.de) else t + 1 + f.de
def its (a k : Int) (b : ByteArray) (n : Nat) : List Tr := (List.range n).map fun (i : Nat) => (a + (i : Int) * k, b)
theorem fate_ok {L : List Ft} (h : L.all Ft.ok = true) (u : Nat) : 0 ≤ (fate L u).co ∧ (fate L u).co ≤ 3 ∧ 0 ≤ (fate L u).de ∧ (fate L u).de ≤ 20 ∧ -1 ≤ (fate L u).sp := by
  have key : (fate L u).ok = true := by
    unfold fate
    rw [List.getD_eq_getElem?_getD]
    rcases Nat.lt_or_ge u L.length with h1 | h1
    · rw [List.getElem?_eq_getElem h1]
      exact List.all_eq_true.1 h _ (List.getElem_mem h1)
    · rw [List.getElem?_eq_none h1]
      rfl
  generalize fate L u = f at key
  unfold Ft.ok at key
  by_cases h1 : f.co ≥ 0 <;> by_cases h2 : f.co ≤ 3 <;> by_cases h3 : f.de ≥ 0 <;> by_cases h4 : f.de ≤ 20 <;> by_cases h5 : f.sp ≥ -1 <;> simp [h1, h2, h3, h4, h5] at key
  exact ⟨h1, h2, h3, h4, h5⟩
theorem atW_in (k : Int) (f : Ft) (t : Nat) (X : List Tr) (ht : t ≤ 1000000) (h0 : 0 ≤ f.de) (h1 : f.de ≤ 20) (hin : InT X) : 0 ≤ atW k f t X ∧ atW k f t X ≤ 1000000000 := by
  have key : ∀ (X : List Tr) (a : Int), 0 ≤ a → a ≤ 1000000000 → InT X → 0 ≤ X.foldl mx a ∧ X.foldl mx a ≤ 1000000000 := by
    intro X
    induction X with
    | nil => exact fun a h1 h2 _ => ⟨h1, h2⟩
    | cons x X ih =>
      intro a h1 h2 hi
      have := hi x (List.mem_cons_self ..)
      refine ih (mx a x) ?_ ?_ fun z hz => hi z (List.mem_cons_of_mem _ hz) <;> (unfold mx; split <;> omega)
  unfold atW
  split
  · exact key X _ (by omega) (by omega) hin
  · omega
theorem tcs_back (p X : List Tr) : cellsAt (rowB (p ++ X)).cells (p.length * 2) (X.length * 2) = some (tcs X) := by
  show cellsAt (tcs (p ++ X)) _ _ = _
  unfold cellsAt
  rw [tcs_len, if_pos (by rw [List.length_append]; omega), tcs_app, List.drop_left' (tcs_len p), List.take_of_length_le (by rw [tcs_len]; exact Nat.le_refl _)]
def Yl (a k : Int) (v : ByteArray) (X : List Tr) (i : Nat) : List Tr := X ++ (its a k v i).take (400 - X.length)
theorem its_succ (a k : Int) (v : ByteArray) (i : Nat) : its a k v (i + 1) = its a k v i ++ [(a + (i : Int) * k, v)] := by
  unfold its
  rw [List.range_succ, List.map_append]
  rfl
theorem its_len (a k : Int) (v : ByteArray) (i : Nat) : (its a k v i).length = i := by simp [its]
theorem Yl_zero (a k : Int) (v : ByteArray) (X : List Tr) : Yl a k v X 0 = X := by simp [Yl, its]
theorem Yl_len (a k : Int) (v : ByteArray) (X : List Tr) (i : Nat) : (Yl a k v X i).length = X.length + min i (400 - X.length) := by
  rw [Yl, List.length_append, List.length_take, its_len, Nat.min_comm]
theorem Yl_snoc (a k : Int) (v : ByteArray) (X : List Tr) {i : Nat} (h : i < 400 - X.length) : Yl a k v X (i + 1) = Yl a k v X i ++ [(a + (i : Int) * k, v)] := by
  unfold Yl
  rw [its_succ, List.take_of_length_le (by rw [List.length_append, its_len, List.length_singleton]; omega), List.take_of_length_le (by rw [its_len]; omega), List.append_assoc]
theorem Yl_stay (a k : Int) (v : ByteArray) (X : List Tr) {i : Nat} (h : 400 - X.length ≤ i) : Yl a k v X i = Yl a k v X (i + 1) := by
  unfold Yl
  rw [its_succ, List.take_append_of_le_length (by rw [its_len]; omega)]
theorem put13o (k : Int) (L : List Ft) (t u : Nat) (p X : List Tr) (b : ByteArray) (hb : b.size ≤ 4000) (hk : k = 0 ∨ k = 1) (hok : L.all Ft.ok = true) (ht : t ≤ 1000000) (hu : u ≤ 1000000) (hX : X.length < 400) (hin : InT X) (hlo : (fate L u).lo = false) :
    SCall E 13 [.pointer (some ⟨0, 0, none⟩), .string b] (heapO [some (mB k L t u (.slice (some ⟨1, p.length * 2, none⟩) X.length X.length)), some (rowB (p ++ X))]) (.int .i64 0) (heapO [some (mB k L t (u + 1 : Nat) (.slice (some ⟨2, 0, none⟩) (Yl (atW k (fate L u) t X) k (unit' (fate L u) b) X ((fate L u).co.toNat + 1)).length (Yl (atW k (fate L u) t X) k (unit' (fate L u) b) X ((fate L u).co.toNat + 1)).length)), none, some (rowB (Yl (atW k (fate L u) t X) k (unit' (fate L u) b) X ((fate L u).co.toNat + 1)))]) := by
  refine SCall.enterO h13 rfl (of_decide_eq_true (by kernel_rfl)) rfl rfl (Nat.le_succ _) ?_
  have c0 := none40o k L t u (p.length * 2) X.length X.length (p ++ X)
  unfold mB at c0 ⊢
  have d1 : decide ((b.size : Int) > 4000) = false := decide_eq_false (by omega)
  have hfl : (rowB (p ++ X)).cells.all flat = true := tcs_flat _
  refine Wp.seq (Wp.text ?_)
  refine kp 4 (.int IntKind.i64 0) ?_
  refine WpOps.nil (thenK_at (Wp.seq (Wp.seq (Wp.text ?_))))
  refine kp 10 (.pointer (some ⟨0, 0, none⟩)) ?_
  refine cl 11 40 [Value.pointer (some ⟨0, 0, none⟩)] ?_
  refine WpCall.lent [0, 1] (c0) (by decide) ⟨⟨[Value.int IntKind.i64 k, Value.iface 46 (Value.iface (List.length L) (Value.iface 0 (Value.agg (List.toArray (fts L))))), Value.int IntKind.i64 (↑t : Int), Value.int IntKind.i64 (↑u : Int), Value.slice (some (Addr.mk 1 (List.length p * 2) none)) (List.length X) (List.length X)], (by kernel_rfl), (by kernel_rfl), (by kernel_rfl)⟩, ⟨⟨_, (by kernel_rfl), CellsOk.eq rfl (by assumption)⟩, trivial⟩⟩ (by kernel_rfl) (Value.bool false) ([Blk.mk 66 true [Value.int IntKind.i64 k, Value.iface 46 (Value.iface (List.length L) (Value.iface 0 (Value.agg (List.toArray (fts L))))), Value.int IntKind.i64 (↑t : Int), Value.int IntKind.i64 (↑u : Int), Value.slice (some (Addr.mk (List.getD [0, 1] 1 0) (List.length p * 2) none)) (List.length X) (List.length X)], Blk.mk 73 true (tcs (p ++ X))]) (.cons (by kernel_rfl) (.cons (unB_flat (by assumption)) .nil)) (by kernel_rfl) (Heap.set (Heap.set (heapO [some (Blk.mk 66 true [Value.int IntKind.i64 k, FS 46 (List.length L) 0 (List.toArray (fts L)), Value.int IntKind.i64 (↑t : Int), Value.int IntKind.i64 (↑u : Int), Value.slice (some (Addr.mk 1 (List.length p * 2) none)) (List.length X) (List.length X)]), some (rowB (p ++ X))]) 0 (some (Blk.mk 66 true [Value.int IntKind.i64 k, Value.iface 46 (Value.iface (List.length L) (Value.iface 0 (Value.agg (List.toArray (fts L))))), Value.int IntKind.i64 (↑t : Int), Value.int IntKind.i64 (↑u : Int), Value.slice (some (Addr.mk 1 (List.length p * 2) none)) (List.length X) (List.length X)]))) 1 (some (Blk.mk 73 true (tcs (p ++ X))))) (by kernel_rfl) ?_
  refine WpOps.nil (thenK_at (off' (Wp.skip (thenK_at (Wp.seq (Wp.seq (Wp.text ?_)))))))
  refine kp 12 (.string b) ?_
  refine kp 13 (.int IntKind.i64 (↑(ByteArray.size b) : Int)) ?_
  refine kp 14 (.bool false) ?_ (hop := fun _ => by_fact d1)
  refine WpOps.nil (thenK_at (off' (Wp.skip (thenK_at (Wp.seq (Wp.text ?_))))))
  refine kp 15 (.agg #[Value.bool false, Value.int .i64 0, Value.int .i64 0, Value.int .i64 (-1)]) ?_
  refine md 5 (.pointer (some ⟨2, 0, none⟩)) (Blk.mk 46 true [Value.bool false, Value.int .i64 0, Value.int .i64 0, Value.int .i64 0]) ?_
  refine ld (.tuple #[]) (2) (Blk.mk 46 true [Value.bool false, Value.int .i64 0, Value.int .i64 0, Value.int .i64 (-1)]) ?_
  refine WpOps.nil (thenK_at (Wp.seq (Wp.seq ?_)))
  refine Wp.region (by kernel_rfl) ?_
  refine kp 16 (.pointer (some ⟨0, 0, none⟩)) ?_
  refine kp 17 (.pointer (some ⟨0, 0, none⟩)) ?_
  refine kp 18 (.pointer (some ⟨0, 3, none⟩)) ?_
  refine kp 19 (.int IntKind.i64 (↑u : Int)) ?_
  refine kp 20 (.pointer (some ⟨0, 0, none⟩)) ?_
  refine kp 21 (.pointer (some ⟨0, 0, none⟩)) ?_
  refine kp 22 (.pointer (some ⟨0, 1, none⟩)) ?_
  refine kp 23 (.iface 46 (Value.iface (List.length L) (Value.iface 0 (Value.agg (List.toArray (fts L)))))) ?_
  refine kp 24 (.int IntKind.i64 (↑(List.length L) : Int)) ?_
  refine kp 25 (.bool (decide ((↑u : Int) < (↑(List.length L) : Int)))) ?_
  refine WpOps.nil (thenK_at ?_)
  refine Wp.mergeH [(0, .pointer (some ⟨0, 0, none⟩)), (1, .string b), (4, .int .i64 0), (5, .pointer (some ⟨2, 0, none⟩))] (heapO [some ⟨66, true, [.int .i64 k, FS 46 L.length 0 (fts L).toArray, .int .i64 t, .int .i64 u, .slice (some ⟨1, p.length * 2, none⟩) X.length X.length]⟩, some (rowB (p ++ X)), some ⟨46, true, [.bool (fate L u).lo, .int .i64 (fate L u).co, .int .i64 (fate L u).de, .int .i64 (fate L u).sp]⟩]) ?_ ?_
  · refine Wp.split (decide ((↑u : Int) < (↑(List.length L) : Int))) (by kernel_rfl) (fun hc => ?_) (fun hc => ?_)
    · have hul : u < L.length := by
        have := of_decide_eq_true hc
        omega
      have g1 : 0 ≤ (u : Int) ∧ (u : Int) < L.length := by omega
      have hs : cellsAt (fts L).toArray.toList ((u : Int).toNat * 4) 4 = some (fce L[u]) := fts_cells L u hul
      have hf : fate L u = L[u] := by unfold fate; rw [List.getD_eq_getElem?_getD, List.getElem?_eq_getElem hul]; rfl
      unfold fce at hs
      rw [← hf] at hs
      refine Wp.region (by kernel_rfl) ?_
      refine kp 26 (.pointer (some ⟨0, 0, none⟩)) ?_
      refine kp 27 (.pointer (some ⟨0, 0, none⟩)) ?_
      refine kp 28 (.pointer (some ⟨0, 1, none⟩)) ?_
      refine kp 29 (.iface 46 (Value.iface (List.length L) (Value.iface 0 (Value.agg (List.toArray (fts L)))))) ?_
      refine kp 30 (.pointer (some ⟨0, 0, none⟩)) ?_
      refine kp 31 (.pointer (some ⟨0, 0, none⟩)) ?_
      refine kp 32 (.pointer (some ⟨0, 3, none⟩)) ?_
      refine kp 33 (.int IntKind.i64 (↑u : Int)) ?_
      refine kp 34 (.iface 46 (Value.iface (Int.toNat (↑u : Int) * 4) (Value.agg (List.toArray (fts L))))) ?_ (hop := fun _ => o_indexI (e := 46) (size := 4) (a := (↑u : Int)) g1)
      refine kp 35 (.agg #[Value.bool (Ft.lo (fate L u)), Value.int .i64 (Ft.co (fate L u)), Value.int .i64 (Ft.de (fate L u)), Value.int .i64 (Ft.sp (fate L u))]) ?_ (hop := fun _ => o_loadIA (Int.toNat (↑u : Int) * 4) hs)
      refine ld (.tuple #[]) (2) (Blk.mk 46 true [Value.bool (Ft.lo (fate L u)), Value.int .i64 (Ft.co (fate L u)), Value.int .i64 (Ft.de (fate L u)), Value.int .i64 (Ft.sp (fate L u))]) ?_
      refine WpOps.nil ?_
      exact ⟨rfl, View.ofP [0, 1, 2] _ _ (by decide) rfl ⟨⟨_, by kernel_rfl, ⟨rfl, rfl⟩⟩, ⟨_, by kernel_rfl, CellsOk.eq rfl (tcs_flat _)⟩, ⟨_, by kernel_rfl, ⟨rfl, rfl⟩⟩, trivial⟩ ⟨⟨by kernel_rfl, rfl⟩, ⟨by kernel_rfl, rfl⟩, ⟨by kernel_rfl, rfl⟩, ⟨by kernel_rfl, rfl⟩, trivial⟩⟩
    · have hul : L.length ≤ u := by
        have := of_decide_eq_false hc
        omega
      have hf : fate L u = ⟨false, 0, 0, -1⟩ := by unfold fate; rw [List.getD_eq_getElem?_getD, List.getElem?_eq_none hul]; rfl
      refine Wp.skip ?_
      rw [hf]
      exact ⟨rfl, View.ofP [0, 1, 2] _ _ (by decide) rfl ⟨⟨_, by kernel_rfl, ⟨rfl, rfl⟩⟩, ⟨_, by kernel_rfl, CellsOk.eq rfl (tcs_flat _)⟩, ⟨_, by kernel_rfl, ⟨rfl, rfl⟩⟩, trivial⟩ ⟨⟨by kernel_rfl, rfl⟩, ⟨by kernel_rfl, rfl⟩, ⟨by kernel_rfl, rfl⟩, ⟨by kernel_rfl, rfl⟩, trivial⟩⟩
  have wu : IntKind.i64.wrap ((u : Int) + 1) = ((u + 1 : Nat) : Int) := by rw [wr _ (by omega) (by omega)]; omega
  refine Wp.seq (Wp.text ?_)
  refine kp 36 (.pointer (some ⟨0, 0, none⟩)) ?_
  refine kp 37 (.pointer (some ⟨0, 0, none⟩)) ?_
  refine kp 38 (.pointer (some ⟨0, 3, none⟩)) ?_
  refine kp 39 (.int IntKind.i64 (↑u : Int)) ?_
  refine kp 40 (.int IntKind.i64 (IntKind.wrap .i64 ((↑u : Int) + 1))) ?_
  refine kp 41 (.pointer (some ⟨0, 0, none⟩)) ?_
  refine kp 42 (.pointer (some ⟨0, 3, none⟩)) ?_
  refine ld (.tuple #[]) (0) (Blk.mk 66 true [Value.int .i64 k, Value.iface 46 (Value.iface (List.length L) (Value.iface 0 (Value.agg (List.toArray (fts L))))), Value.int .i64 (↑t : Int), Value.int .i64 (IntKind.wrap .i64 ((↑u : Int) + 1)), Value.slice (some (Addr.mk 1 (List.length p * 2) none)) (List.length X) (List.length X)]) ?_
  refine WpOps.nil (thenK_at (Wp.seq (Wp.seq (Wp.text ?_))))
  refine kp 43 (.pointer (some ⟨2, 0, none⟩)) ?_
  refine kp 44 (.bool false) ?_ (hop := fun _ => by_fact hlo)
  refine WpOps.nil (thenK_at (off' (Wp.skip (thenK_at (Wp.seq (Wp.seq (Wp.text ?_)))))))
  refine kp 45 (.pointer (some ⟨2, 3, none⟩)) ?_
  refine kp 46 (.int IntKind.i64 (Ft.sp (fate L u))) ?_
  refine kp 47 (.bool (decide (Ft.sp (fate L u) ≥ 0))) ?_
  refine WpOps.nil (thenK_at ?_)
  rw [wu]
  refine Wp.mergeH [(0, .pointer (some ⟨0, 0, none⟩)), (1, .string (unit' (fate L u) b)), (4, .int .i64 0), (5, .pointer (some ⟨2, 0, none⟩))] (heapO [some ⟨66, true, [.int .i64 k, FS 46 L.length 0 (fts L).toArray, .int .i64 t, .int .i64 (u + 1 : Nat), .slice (some ⟨1, p.length * 2, none⟩) X.length X.length]⟩, some (rowB (p ++ X)), some ⟨46, true, [.bool (fate L u).lo, .int .i64 (fate L u).co, .int .i64 (fate L u).de, .int .i64 (fate L u).sp]⟩]) ?_ ?_
  · refine Wp.split (decide (Ft.sp (fate L u) ≥ 0)) (by kernel_rfl) (fun hs => ?_) (fun hs => ?_)
    · have hu' : unit' (fate L u) b = spu b (fate L u).sp := if_pos (of_decide_eq_true hs)
      have c1 := spoil41 b (fate L u).sp (by omega)
      rw [← hu'] at c1
      refine Wp.text ?_
      refine kp 49 (.string b) ?_
      refine kp 50 (.pointer (some ⟨2, 3, none⟩)) ?_
      refine kp 51 (.int IntKind.i64 (Ft.sp (fate L u))) ?_
      refine fr 52 41 [Value.string b, Value.int .i64 (Ft.sp (fate L u))] ?_
      refine WpFun.of (c1) ?_
      refine kp 48 (.tuple #[Value.string (unit' (fate L u) b), Value.int .i64 0]) ?_
      refine kp 53 (.string (unit' (fate L u) b)) ?_
      refine kp 54 (.int IntKind.i64 0) ?_
      refine kp 1 (.string (unit' (fate L u) b)) ?_
      refine WpOps.nil ?_
      exact ⟨rfl, View.ofP [0, 1, 2] _ _ (by decide) rfl ⟨⟨_, by kernel_rfl, ⟨rfl, rfl⟩⟩, ⟨_, by kernel_rfl, CellsOk.eq rfl (tcs_flat _)⟩, ⟨_, by kernel_rfl, ⟨rfl, rfl⟩⟩, trivial⟩ ⟨⟨by kernel_rfl, rfl⟩, ⟨by kernel_rfl, rfl⟩, ⟨by kernel_rfl, rfl⟩, ⟨by kernel_rfl, rfl⟩, trivial⟩⟩
    · have hu' : unit' (fate L u) b = b := if_neg (of_decide_eq_false hs)
      rw [hu']
      refine Wp.skip ?_
      exact ⟨rfl, View.ofP [0, 1, 2] _ _ (by decide) rfl ⟨⟨_, by kernel_rfl, ⟨rfl, rfl⟩⟩, ⟨_, by kernel_rfl, CellsOk.eq rfl (tcs_flat _)⟩, ⟨_, by kernel_rfl, ⟨rfl, rfl⟩⟩, trivial⟩ ⟨⟨by kernel_rfl, rfl⟩, ⟨by kernel_rfl, rfl⟩, ⟨by kernel_rfl, rfl⟩, ⟨by kernel_rfl, rfl⟩, trivial⟩⟩
  obtain ⟨o1, o2, o3, o4, o5⟩ := fate_ok hok u
  have wa : IntKind.i64.wrap (IntKind.i64.wrap ((t : Int) + 1) + (fate L u).de) = (t : Int) + 1 + (fate L u).de := by rw [wr ((t : Int) + 1) (by omega) (by omega), wr _ (by omega) (by omega)]
  refine Wp.seq ?_
  refine Wp.region (by kernel_rfl) ?_
  refine kp 55 (.pointer (some ⟨0, 0, none⟩)) ?_
  refine kp 56 (.pointer (some ⟨0, 0, none⟩)) ?_
  refine kp 57 (.pointer (some ⟨0, 2, none⟩)) ?_
  refine kp 58 (.int IntKind.i64 (↑t : Int)) ?_
  refine kp 59 (.int IntKind.i64 (IntKind.wrap .i64 ((↑t : Int) + 1))) ?_
  refine kp 60 (.pointer (some ⟨2, 2, none⟩)) ?_
  refine kp 61 (.int IntKind.i64 (Ft.de (fate L u))) ?_
  refine kp 62 (.int IntKind.i64 (IntKind.wrap .i64 (IntKind.wrap .i64 ((↑t : Int) + 1) + Ft.de (fate L u)))) ?_
  refine kp 6 (.int IntKind.i64 (IntKind.wrap .i64 (IntKind.wrap .i64 ((↑t : Int) + 1) + Ft.de (fate L u)))) ?_
  refine WpOps.nil (thenK_at (Wp.seq (Wp.seq (Wp.text ?_))))
  refine kp 63 (.pointer (some ⟨0, 0, none⟩)) ?_
  refine kp 64 (.pointer (some ⟨0, 0, none⟩)) ?_
  refine kp 65 (.pointer (some ⟨0, 0, none⟩)) ?_
  refine kp 66 (.int IntKind.i64 k) ?_
  refine kp 67 (.bool (k == 0)) ?_
  refine WpOps.nil (thenK_at ?_)
  rw [wa]
  refine Wp.mergeH [(0, .pointer (some ⟨0, 0, none⟩)), (1, .string (unit' (fate L u) b)), (4, .int .i64 0), (5, .pointer (some ⟨2, 0, none⟩)), (6, .int .i64 (atW k (fate L u) t X))] (heapO [some ⟨66, true, [.int .i64 k, FS 46 L.length 0 (fts L).toArray, .int .i64 t, .int .i64 (u + 1 : Nat), .slice (some ⟨1, p.length * 2, none⟩) X.length X.length]⟩, some (rowB (p ++ X)), some ⟨46, true, [.bool (fate L u).lo, .int .i64 (fate L u).co, .int .i64 (fate L u).de, .int .i64 (fate L u).sp]⟩]) ?_ ?_
  · rcases hk with rfl | rfl
    · have e0 : ((0 : Int) == 0) = true := rfl
      refine on' (Wp.seq (Wp.text ?_))
      refine kp 68 (.pointer (some ⟨0, 0, none⟩)) ?_
      refine kp 69 (.pointer (some ⟨0, 0, none⟩)) ?_
      refine kp 70 (.pointer (some ⟨0, 4, none⟩)) ?_
      refine kp 71 (.slice (some (Addr.mk 1 (List.length p * 2) none)) (List.length X) (List.length X)) ?_
      refine kp 72 (.int IntKind.i64 (↑(List.length X) : Int)) ?_
      refine kp 73 (.int IntKind.i64 0) ?_
      refine WpOps.nil (thenK_at (Wp.block ?_))
      refine Wp.loop (G := Nat) (fun i => layj [(0, .pointer (some ⟨0, 0, none⟩)), (1, .string (unit' (fate L u) b)), (4, .int .i64 0), (5, .pointer (some ⟨2, 0, none⟩)), (6, .int .i64 ((X.take i).foldl mx ((t : Int) + 1 + (fate L u).de))), (71, .slice (some ⟨1, p.length * 2, none⟩) X.length X.length), (72, .int .i64 X.length), (73, .int .i64 i)]) (fun _ => (heapO [some ⟨66, true, [.int .i64 0, FS 46 L.length 0 (fts L).toArray, .int .i64 t, .int .i64 (u + 1 : Nat), .slice (some ⟨1, p.length * 2, none⟩) X.length X.length]⟩, some (rowB (p ++ X)), some ⟨46, true, [.bool (fate L u).lo, .int .i64 (fate L u).co, .int .i64 (fate L u).de, .int .i64 (fate L u).sp]⟩])) (fun i => X.length - i) (fun i => i ≤ X.length) 0
        (View.ofP [0, 1, 2] _ _ (by decide) rfl ⟨⟨_, by kernel_rfl, ⟨rfl, rfl⟩⟩, ⟨_, by kernel_rfl, CellsOk.eq rfl (tcs_flat _)⟩, ⟨_, by kernel_rfl, ⟨rfl, rfl⟩⟩, trivial⟩ ⟨⟨by kernel_rfl, rfl⟩, ⟨by kernel_rfl, rfl⟩, ⟨by kernel_rfl, rfl⟩, ⟨by kernel_rfl, rfl⟩, ⟨by kernel_rfl, rfl⟩, ⟨by kernel_rfl, rfl⟩, ⟨by kernel_rfl, rfl⟩, ⟨by kernel_rfl, rfl⟩, trivial⟩) (Nat.zero_le _) ?_
      intro i hi
      by_cases hc : i < X.length
      · have d2 : decide ((i : Int) < (X.length : Int)) = true := decide_eq_true (by omega)
        have g1 : 0 ≤ (i : Int) ∧ (i : Int) < X.length := by omega
        have g2 : cellsAt (rowB (p ++ X)).cells (p.length * 2 + (i : Int).toNat * 2) 2 = some [.int .i64 X[i].1, .string X[i].2] := by
          rw [Int.toNat_natCast, ← Nat.add_mul]
          exact tcs_at (by rw [List.getElem?_append_right (by omega), Nat.add_sub_cancel_left, List.getElem?_eq_getElem hc])
        have wi : IntKind.i64.wrap ((i : Int) + 1) = ((i + 1 : Nat) : Int) := by rw [wr _ (by omega) (by omega)]; omega
        have ex : (X.take (i + 1)).foldl mx ((t : Int) + 1 + (fate L u).de) = mx ((X.take i).foldl mx ((t : Int) + 1 + (fate L u).de)) X[i] := by
          rw [List.take_add_one, List.getElem?_eq_getElem hc, List.foldl_append]
          rfl
        refine Wp.seq (Wp.text ?_)
        refine kp 74 (.bool true) ?_ (hop := fun _ => by_fact d2)
        refine WpOps.nil (thenK_at (Wp.seq (on' (Wp.skip (thenK_at (Wp.seq (Wp.block (Wp.seq (Wp.text ?_)))))))))
        refine kp 75 (.pointer (some (Addr.mk 1 (List.length p * 2 + Int.toNat (↑i : Int) * 2) none))) ?_ (hop := fun _ => o_indexAddr (a := (↑i : Int)) (bl := 1) (off := List.length p * 2) (size := 2) 73 (List.length X) g1)
        refine kp 76 (.agg #[Value.int .i64 (Prod.fst X[i]), Value.string (Prod.snd X[i])]) ?_ (hop := fun _ => o_loadA (1) (List.length p * 2 + Int.toNat (↑i : Int) * 2) g2)
        refine md 8 (.pointer (some ⟨3, 0, none⟩)) (Blk.mk 73 true [Value.int .i64 0, Value.string (ByteArray.mk #[])]) ?_
        refine ld (.tuple #[]) (3) (Blk.mk 73 true [Value.int .i64 (Prod.fst X[i]), Value.string (Prod.snd X[i])]) ?_
        refine WpOps.nil (thenK_at (Wp.text ?_))
        refine kp 77 (.int IntKind.i64 (List.foldl mx ((↑t : Int) + 1 + Ft.de (fate L u)) (List.take i X))) ?_
        refine kp 78 (.pointer (some ⟨3, 0, none⟩)) ?_
        refine kp 79 (.int IntKind.i64 (Prod.fst X[i])) ?_
        refine kp 80 (.int IntKind.i64 (if Prod.fst X[i] > List.foldl mx ((↑t : Int) + 1 + Ft.de (fate L u)) (List.take i X) then Prod.fst X[i] else List.foldl mx ((↑t : Int) + 1 + Ft.de (fate L u)) (List.take i X))) ?_
        refine kp 6 (.int IntKind.i64 (if Prod.fst X[i] > List.foldl mx ((↑t : Int) + 1 + Ft.de (fate L u)) (List.take i X) then Prod.fst X[i] else List.foldl mx ((↑t : Int) + 1 + Ft.de (fate L u)) (List.take i X))) ?_
        refine WpOps.nil (blockK_norm (thenK_at (Wp.text ?_)))
        refine kp 81 (.int IntKind.i64 (IntKind.wrap .i64 ((↑i : Int) + 1))) ?_
        refine kp 73 (.int IntKind.i64 (IntKind.wrap .i64 ((↑i : Int) + 1))) ?_
        refine WpOps.nil (thenK_at ?_)
        exact ⟨i + 1, by omega, by omega, View.ofP [0, 1, 2] _ _ (by decide) rfl ⟨⟨_, by kernel_rfl, ⟨rfl, rfl⟩⟩, ⟨_, by kernel_rfl, CellsOk.eq rfl (tcs_flat _)⟩, ⟨_, by kernel_rfl, ⟨rfl, rfl⟩⟩, trivial⟩ ⟨⟨by kernel_rfl, rfl⟩, ⟨by kernel_rfl, rfl⟩, ⟨by kernel_rfl, rfl⟩, ⟨by kernel_rfl, rfl⟩, ⟨congrArg (Value.int .i64) ex.symm, rfl⟩, ⟨by kernel_rfl, rfl⟩, ⟨by kernel_rfl, rfl⟩, ⟨congrArg (Value.int .i64) wi, rfl⟩, trivial⟩⟩
      · have d2 : decide ((i : Int) < (X.length : Int)) = false := decide_eq_false (by omega)
        obtain rfl : i = X.length := by omega
        have e1 : atW 0 (fate L u) t X = (X.take X.length).foldl mx ((t : Int) + 1 + (fate L u).de) := by rw [List.take_length]; rfl
        rw [e1]
        refine Wp.seq (Wp.text ?_)
        refine kp 74 (.bool false) ?_ (hop := fun _ => by_fact d2)
        refine WpOps.nil (thenK_at (Wp.seq (off' (Wp.exit (thenK_exit (thenK_exit (blockK_hit ?_)))))))
        exact ⟨rfl, View.ofP [0, 1, 2] _ _ (by decide) rfl ⟨⟨_, by kernel_rfl, ⟨rfl, rfl⟩⟩, ⟨_, by kernel_rfl, CellsOk.eq rfl (tcs_flat _)⟩, ⟨_, by kernel_rfl, ⟨rfl, rfl⟩⟩, trivial⟩ ⟨⟨by kernel_rfl, rfl⟩, ⟨by kernel_rfl, rfl⟩, ⟨by kernel_rfl, rfl⟩, ⟨by kernel_rfl, rfl⟩, ⟨by kernel_rfl, rfl⟩, trivial⟩⟩
    · have e0 : ((1 : Int) == 0) = false := rfl
      have e1 : atW 1 (fate L u) t X = (t : Int) + 1 + (fate L u).de := rfl
      rw [e1]
      refine off' (Wp.skip ?_)
      exact ⟨rfl, View.ofP [0, 1, 2] _ _ (by decide) rfl ⟨⟨_, by kernel_rfl, ⟨rfl, rfl⟩⟩, ⟨_, by kernel_rfl, CellsOk.eq rfl (tcs_flat _)⟩, ⟨_, by kernel_rfl, ⟨rfl, rfl⟩⟩, trivial⟩ ⟨⟨by kernel_rfl, rfl⟩, ⟨by kernel_rfl, rfl⟩, ⟨by kernel_rfl, rfl⟩, ⟨by kernel_rfl, rfl⟩, ⟨by kernel_rfl, rfl⟩, trivial⟩⟩
  obtain ⟨C, hC⟩ : ∃ C : Nat, (fate L u).co = C := ⟨(fate L u).co.toNat, by omega⟩
  have hC3 : C ≤ 3 := by omega
  obtain ⟨a1, a2⟩ := atW_in k (fate L u) t X ht o3 o4 hin
  rw [hC, Int.toNat_natCast]
  generalize atW k (fate L u) t X = a at a1 a2 ⊢
  generalize unit' (fate L u) b = v
  have wc : IntKind.i64.wrap (1 + (C : Int)) = ((C + 1 : Nat) : Int) := by rw [wr _ (by omega) (by omega)]; omega
  refine Wp.seq (Wp.seq (Wp.text ?_))
  refine kp 82 (.pointer (some ⟨2, 1, none⟩)) ?_
  refine kp 83 (.int IntKind.i64 (↑C : Int)) ?_
  refine kp 84 (.int IntKind.i64 (IntKind.wrap .i64 (1 + (↑C : Int)))) ?_
  refine kp 85 (.int IntKind.i64 0) ?_
  refine WpOps.nil (thenK_at (Wp.block ?_))
  rw [wc]
  have q0 : cellsAt (rowB (p ++ X)).cells (p.length * 2) (X.length * 2) = some (tcs X) := tcs_back p X
  have q1 : ¬ X.length + 1 ≤ X.length := by omega
  have q2 : 1 ≤ 24 ∧ (X.length + 1) * 24 ≤ 140737488355328 ∧ 2 = 2 ∧ X.length + 1 ≤ 9223372036854775807 := by omega
  have q4 : decide ((X.length : Int) < 400) = true := decide_eq_true (by omega)
  have q3 : decide ((0 : Int) < ((C + 1 : Nat) : Int)) = true := decide_eq_true (by omega)
  refine Wp.unroll (WpL.step ?_)
  have r1 : tcs X ++ [Value.int .i64 (IntKind.i64.wrap (a + IntKind.i64.wrap (0 * k))), .string v] = tcs (Yl a k v X 1) := by
    rw [show Yl a k v X 1 = X ++ [(a + 0 * k, v)] from Yl_snoc a k v X (by omega) |>.trans (by rw [Yl_zero]; rfl), tcs_app, wr (0 * k) (by omega) (by omega), wr _ (by omega) (by omega)]
    rfl
  have r2 : X.length + 1 = (Yl a k v X 1).length := by rw [Yl_len]; omega
  refine Wp.seq (Wp.text ?_)
  refine kp 86 (.bool true) ?_ (hop := fun _ => by_fact q3)
  refine WpOps.nil (thenK_at (Wp.seq (on' (Wp.skip (thenK_at (Wp.seq (Wp.block (Wp.seq (Wp.text ?_)))))))))
  refine kp 87 (.int IntKind.i64 0) ?_
  refine kp 9 (.int IntKind.i64 0) ?_
  refine WpOps.nil (thenK_at (Wp.seq (Wp.text ?_)))
  refine kp 88 (.pointer (some ⟨0, 0, none⟩)) ?_
  refine kp 89 (.pointer (some ⟨0, 0, none⟩)) ?_
  refine kp 90 (.pointer (some ⟨0, 4, none⟩)) ?_
  refine kp 91 (.slice (some (Addr.mk 1 (List.length p * 2) none)) (List.length X) (List.length X)) ?_
  refine kp 92 (.int IntKind.i64 (↑(List.length X) : Int)) ?_
  refine kp 93 (.bool true) ?_ (hop := fun _ => by_fact q4)
  refine WpOps.nil (thenK_at (on' ?_))
  refine Wp.region (by kernel_rfl) ?_
  refine kp 94 (.pointer (some ⟨0, 0, none⟩)) ?_
  refine kp 95 (.pointer (some ⟨0, 0, none⟩)) ?_
  refine kp 96 (.pointer (some ⟨0, 0, none⟩)) ?_
  refine kp 97 (.pointer (some ⟨0, 4, none⟩)) ?_
  refine kp 98 (.slice (some (Addr.mk 1 (List.length p * 2) none)) (List.length X) (List.length X)) ?_
  refine kp 99 (.int IntKind.i64 a) ?_
  refine kp 100 (.int IntKind.i64 0) ?_
  refine kp 101 (.pointer (some ⟨0, 0, none⟩)) ?_
  refine kp 102 (.pointer (some ⟨0, 0, none⟩)) ?_
  refine kp 103 (.pointer (some ⟨0, 0, none⟩)) ?_
  refine kp 104 (.int IntKind.i64 k) ?_
  refine kp 105 (.int IntKind.i64 (IntKind.wrap .i64 (0 * k))) ?_
  refine kp 106 (.int IntKind.i64 (IntKind.wrap .i64 (a + IntKind.wrap .i64 (0 * k)))) ?_
  refine kp 107 (.string v) ?_
  refine kp 108 (.agg #[Value.int .i64 (IntKind.wrap .i64 (a + IntKind.wrap .i64 (0 * k))), Value.string v]) ?_
  refine md 109 (.slice (some ⟨3, 0, none⟩) 1 1) (Blk.mk 73 true [Value.int .i64 (IntKind.wrap .i64 (a + IntKind.wrap .i64 (0 * k))), Value.string v]) ?_
  refine ra 110 (.slice (some ⟨4, 0, none⟩) (List.length X + 1) (List.length X + 1)) (1) (Blk.mk 73 true (tcs X ++ [Value.int .i64 (IntKind.wrap .i64 (a + IntKind.wrap .i64 (0 * k))), Value.string v])) ?_ (hop := fun _ => o_append (e := 73) (1) (List.length p * 2) (List.length X) _ (List.length X) q1 q2 q0)
  refine kp 111 (.pointer (some ⟨0, 0, none⟩)) ?_
  refine kp 112 (.pointer (some ⟨0, 4, none⟩)) ?_
  refine ld (.tuple #[]) (0) (Blk.mk 66 true [Value.int .i64 k, Value.iface 46 (Value.iface (List.length L) (Value.iface 0 (Value.agg (List.toArray (fts L))))), Value.int .i64 (↑t : Int), Value.int .i64 (↑(u + 1) : Int), Value.slice (some ⟨4, 0, none⟩) (List.length X + 1) (List.length X + 1)]) ?_
  refine WpOps.nil (blockK_norm (thenK_at (Wp.text ?_)))
  refine kp 113 (.int IntKind.i64 (IntKind.wrap .i64 (0 + 1))) ?_
  refine kp 85 (.int IntKind.i64 (IntKind.wrap .i64 (0 + 1))) ?_
  refine WpOps.nil (thenK_at ?_)
  rw [r1, r2]
  refine WpL.loop (G := Nat) (fun i => layj [(0, .pointer (some ⟨0, 0, none⟩)), (1, .string v), (4, .int .i64 0), (6, .int .i64 a), (84, .int .i64 (C + 1 : Nat)), (85, .int .i64 i)]) (fun i => (heapO [some ⟨66, true, [.int .i64 k, FS 46 L.length 0 (fts L).toArray, .int .i64 t, .int .i64 (u + 1 : Nat), .slice (some ⟨2, 0, none⟩) (Yl a k v X i).length (Yl a k v X i).length]⟩, none, some (rowB (Yl a k v X i))])) (fun i => C + 1 - i) (fun i => 1 ≤ i ∧ i ≤ C + 1) 1
    (View.ofP [0, 1, 4] _ _ (by decide) rfl ⟨⟨_, by kernel_rfl, ⟨rfl, rfl⟩⟩, ⟨_, by kernel_rfl, CellsOk.eq rfl (tcs_flat _)⟩, trivial⟩ ⟨⟨by kernel_rfl, rfl⟩, ⟨by kernel_rfl, rfl⟩, ⟨by kernel_rfl, rfl⟩, ⟨by kernel_rfl, rfl⟩, ⟨by kernel_rfl, rfl⟩, ⟨by kernel_rfl, rfl⟩, trivial⟩) ⟨Nat.le_refl _, by omega⟩ ?_
  clear r1 r2 q0 q1 q2 q3 q4
  rintro i ⟨hi1, hi2⟩
  have hYl := Yl_len a k v X i
  by_cases hc : i < C + 1
  · have q3 : decide ((i : Int) < ((C + 1 : Nat) : Int)) = true := decide_eq_true (by omega)
    have wi : IntKind.i64.wrap ((i : Int) + 1) = ((i + 1 : Nat) : Int) := by rw [wr _ (by omega) (by omega)]; omega
    by_cases hl : i < 400 - X.length
    · have q4 : decide (((Yl a k v X i).length : Int) < 400) = true := decide_eq_true (by omega)
      have q0 : cellsAt (rowB (Yl a k v X i)).cells 0 ((Yl a k v X i).length * 2) = some (tcs (Yl a k v X i)) := by
        have := tcs_back [] (Yl a k v X i)
        rwa [List.nil_append, List.length_nil, Nat.zero_mul] at this
      have q1 : ¬ (Yl a k v X i).length + 1 ≤ (Yl a k v X i).length := by omega
      have q2 : 1 ≤ 24 ∧ ((Yl a k v X i).length + 1) * 24 ≤ 140737488355328 ∧ 2 = 2 ∧ (Yl a k v X i).length + 1 ≤ 9223372036854775807 := by omega
      have wk : IntKind.i64.wrap ((i : Int) * k) = (i : Int) * k ∧ 0 ≤ (i : Int) * k ∧ (i : Int) * k ≤ 4 := by
        have : 0 ≤ (i : Int) * k ∧ (i : Int) * k ≤ 4 := by rcases hk with rfl | rfl <;> omega
        exact ⟨wr _ (by omega) (by omega), this⟩
      have r1 : tcs (Yl a k v X i) ++ [Value.int .i64 (IntKind.i64.wrap (a + IntKind.i64.wrap ((i : Int) * k))), .string v] = tcs (Yl a k v X (i + 1)) := by
        rw [Yl_snoc a k v X hl, tcs_app, wk.1, wr _ (by omega) (by omega)]
        rfl
      have r2 : (Yl a k v X i).length + 1 = (Yl a k v X (i + 1)).length := by rw [Yl_len, Yl_len]; omega
      refine Wp.seq (Wp.text ?_)
      refine kp 86 (.bool true) ?_ (hop := fun _ => by_fact q3)
      refine WpOps.nil (thenK_at (Wp.seq (on' (Wp.skip (thenK_at (Wp.seq (Wp.block (Wp.seq (Wp.text ?_)))))))))
      refine kp 87 (.int IntKind.i64 (↑i : Int)) ?_
      refine kp 9 (.int IntKind.i64 (↑i : Int)) ?_
      refine WpOps.nil (thenK_at (Wp.seq (Wp.text ?_)))
      refine kp 88 (.pointer (some ⟨0, 0, none⟩)) ?_
      refine kp 89 (.pointer (some ⟨0, 0, none⟩)) ?_
      refine kp 90 (.pointer (some ⟨0, 4, none⟩)) ?_
      refine kp 91 (.slice (some ⟨2, 0, none⟩) (List.length (Yl a k v X i)) (List.length (Yl a k v X i))) ?_
      refine kp 92 (.int IntKind.i64 (↑(List.length (Yl a k v X i)) : Int)) ?_
      refine kp 93 (.bool true) ?_ (hop := fun _ => by_fact q4)
      refine WpOps.nil (thenK_at (on' ?_))
      refine Wp.region (by kernel_rfl) ?_
      refine kp 94 (.pointer (some ⟨0, 0, none⟩)) ?_
      refine kp 95 (.pointer (some ⟨0, 0, none⟩)) ?_
      refine kp 96 (.pointer (some ⟨0, 0, none⟩)) ?_
      refine kp 97 (.pointer (some ⟨0, 4, none⟩)) ?_
      refine kp 98 (.slice (some ⟨2, 0, none⟩) (List.length (Yl a k v X i)) (List.length (Yl a k v X i))) ?_
      refine kp 99 (.int IntKind.i64 a) ?_
      refine kp 100 (.int IntKind.i64 (↑i : Int)) ?_
      refine kp 101 (.pointer (some ⟨0, 0, none⟩)) ?_
      refine kp 102 (.pointer (some ⟨0, 0, none⟩)) ?_
      refine kp 103 (.pointer (some ⟨0, 0, none⟩)) ?_
      refine kp 104 (.int IntKind.i64 k) ?_
      refine kp 105 (.int IntKind.i64 (IntKind.wrap .i64 ((↑i : Int) * k))) ?_
      refine kp 106 (.int IntKind.i64 (IntKind.wrap .i64 (a + IntKind.wrap .i64 ((↑i : Int) * k)))) ?_
      refine kp 107 (.string v) ?_
      refine kp 108 (.agg #[Value.int .i64 (IntKind.wrap .i64 (a + IntKind.wrap .i64 ((↑i : Int) * k))), Value.string v]) ?_
      refine md 109 (.slice (some ⟨3, 0, none⟩) 1 1) (Blk.mk 73 true [Value.int .i64 (IntKind.wrap .i64 (a + IntKind.wrap .i64 ((↑i : Int) * k))), Value.string v]) ?_
      refine ra 110 (.slice (some ⟨4, 0, none⟩) (List.length (Yl a k v X i) + 1) (List.length (Yl a k v X i) + 1)) (2) (Blk.mk 73 true (tcs (Yl a k v X i) ++ [Value.int .i64 (IntKind.wrap .i64 (a + IntKind.wrap .i64 ((↑i : Int) * k))), Value.string v])) ?_ (hop := fun _ => o_append (e := 73) (2) (0) (List.length (Yl a k v X i)) _ (List.length (Yl a k v X i)) q1 q2 q0)
      refine kp 111 (.pointer (some ⟨0, 0, none⟩)) ?_
      refine kp 112 (.pointer (some ⟨0, 4, none⟩)) ?_
      refine ld (.tuple #[]) (0) (Blk.mk 66 true [Value.int .i64 k, Value.iface 46 (Value.iface (List.length L) (Value.iface 0 (Value.agg (List.toArray (fts L))))), Value.int .i64 (↑t : Int), Value.int .i64 (↑(u + 1) : Int), Value.slice (some ⟨4, 0, none⟩) (List.length (Yl a k v X i) + 1) (List.length (Yl a k v X i) + 1)]) ?_
      refine WpOps.nil (blockK_norm (thenK_at (Wp.text ?_)))
      refine kp 113 (.int IntKind.i64 (IntKind.wrap .i64 ((↑i : Int) + 1))) ?_
      refine kp 85 (.int IntKind.i64 (IntKind.wrap .i64 ((↑i : Int) + 1))) ?_
      refine WpOps.nil (thenK_at ?_)
      rw [r1, r2]
      exact ⟨i + 1, by omega, ⟨by omega, by omega⟩, View.ofP [0, 1, 4] _ _ (by decide) rfl ⟨⟨_, by kernel_rfl, ⟨rfl, rfl⟩⟩, ⟨_, by kernel_rfl, CellsOk.eq rfl (tcs_flat _)⟩, trivial⟩ ⟨⟨by kernel_rfl, rfl⟩, ⟨by kernel_rfl, rfl⟩, ⟨by kernel_rfl, rfl⟩, ⟨by kernel_rfl, rfl⟩, ⟨by kernel_rfl, rfl⟩, ⟨congrArg (Value.int .i64) wi, rfl⟩, trivial⟩⟩
    · have q4 : decide (((Yl a k v X i).length : Int) < 400) = false := decide_eq_false (by omega)
      have r3 : Yl a k v X i = Yl a k v X (i + 1) := Yl_stay a k v X (by omega)
      refine Wp.seq (Wp.text ?_)
      refine kp 86 (.bool true) ?_ (hop := fun _ => by_fact q3)
      refine WpOps.nil (thenK_at (Wp.seq (on' (Wp.skip (thenK_at (Wp.seq (Wp.block (Wp.seq (Wp.text ?_)))))))))
      refine kp 87 (.int IntKind.i64 (↑i : Int)) ?_
      refine kp 9 (.int IntKind.i64 (↑i : Int)) ?_
      refine WpOps.nil (thenK_at (Wp.seq (Wp.text ?_)))
      refine kp 88 (.pointer (some ⟨0, 0, none⟩)) ?_
      refine kp 89 (.pointer (some ⟨0, 0, none⟩)) ?_
      refine kp 90 (.pointer (some ⟨0, 4, none⟩)) ?_
      refine kp 91 (.slice (some ⟨2, 0, none⟩) (List.length (Yl a k v X i)) (List.length (Yl a k v X i))) ?_
      refine kp 92 (.int IntKind.i64 (↑(List.length (Yl a k v X i)) : Int)) ?_
      refine kp 93 (.bool false) ?_ (hop := fun _ => by_fact q4)
      refine WpOps.nil (thenK_at (off' (Wp.skip (blockK_norm (thenK_at (Wp.text ?_))))))
      refine kp 113 (.int IntKind.i64 (IntKind.wrap .i64 ((↑i : Int) + 1))) ?_
      refine kp 85 (.int IntKind.i64 (IntKind.wrap .i64 ((↑i : Int) + 1))) ?_
      refine WpOps.nil (thenK_at ?_)
      rw [r3]
      exact ⟨i + 1, by omega, ⟨by omega, by omega⟩, View.ofP [0, 1, 2] _ _ (by decide) rfl ⟨⟨_, by kernel_rfl, ⟨rfl, rfl⟩⟩, ⟨_, by kernel_rfl, CellsOk.eq rfl (tcs_flat _)⟩, trivial⟩ ⟨⟨by kernel_rfl, rfl⟩, ⟨by kernel_rfl, rfl⟩, ⟨by kernel_rfl, rfl⟩, ⟨by kernel_rfl, rfl⟩, ⟨by kernel_rfl, rfl⟩, ⟨congrArg (Value.int .i64) wi, rfl⟩, trivial⟩⟩
  · have q3 : decide ((i : Int) < ((C + 1 : Nat) : Int)) = false := decide_eq_false (by omega)
    obtain rfl : i = C + 1 := by omega
    refine Wp.seq (Wp.text ?_)
    refine kp 86 (.bool false) ?_ (hop := fun _ => by_fact q3)
    refine WpOps.nil (thenK_at (Wp.seq (off' (Wp.exit (thenK_exit (thenK_exit (blockK_hit (thenK_at (Wp.seq (Wp.text ?_))))))))))
    refine kp 4 (.int IntKind.i64 0) ?_
    refine WpOps.nil (thenK_at (Wp.ret ?_))
    refine endK_retn [Value.int IntKind.i64 0] (Value.int IntKind.i64 0) (by kernel_rfl) (by kernel_rfl) ?_
    exact ⟨[0, 1, 2], by decide, rfl, BlksP.told ⟨⟨_, by kernel_rfl, ⟨rfl, rfl⟩⟩, ⟨_, by kernel_rfl, CellsOk.eq rfl (tcs_flat _)⟩, trivial⟩, .w (.un rfl rfl)⟩
theorem put13n (k : Int) (L : List Ft) (t u : Nat) (b : ByteArray) (hb : b.size ≤ 4000) (hk : k = 0 ∨ k = 1) (hok : L.all Ft.ok = true) (ht : t ≤ 1000000) (hu : u ≤ 1000000) (hlo : (fate L u).lo = false) :
    SCall E 13 [.pointer (some ⟨0, 0, none⟩), .string b] (heapO [some (mB k L t u (.slice none 0 0))]) (.int .i64 0) (heapO [some (mB k L t (u + 1 : Nat) (.slice (some ⟨1, 0, none⟩) (Yl (atW k (fate L u) t []) k (unit' (fate L u) b) [] ((fate L u).co.toNat + 1)).length (Yl (atW k (fate L u) t []) k (unit' (fate L u) b) [] ((fate L u).co.toNat + 1)).length)), some (rowB (Yl (atW k (fate L u) t []) k (unit' (fate L u) b) [] ((fate L u).co.toNat + 1)))]) := by
  refine SCall.enterO h13 rfl (of_decide_eq_true (by kernel_rfl)) rfl rfl (Nat.le_succ _) ?_
  have c0 := none40n k L t u
  unfold mB at c0 ⊢
  have d1 : decide ((b.size : Int) > 4000) = false := decide_eq_false (by omega)
  refine Wp.seq (Wp.text ?_)
  refine kp 4 (.int IntKind.i64 0) ?_
  refine WpOps.nil (thenK_at (Wp.seq (Wp.seq (Wp.text ?_))))
  refine kp 10 (.pointer (some ⟨0, 0, none⟩)) ?_
  refine cl 11 40 [Value.pointer (some ⟨0, 0, none⟩)] ?_
  refine WpCall.lent [0] (c0) (by decide) ⟨⟨[Value.int IntKind.i64 k, Value.iface 46 (Value.iface (List.length L) (Value.iface 0 (Value.agg (List.toArray (fts L))))), Value.int IntKind.i64 (↑t : Int), Value.int IntKind.i64 (↑u : Int), Value.slice none 0 0], (by kernel_rfl), (by kernel_rfl), (by kernel_rfl)⟩, trivial⟩ (by kernel_rfl) (Value.bool false) ([Blk.mk 66 true [Value.int IntKind.i64 k, Value.iface 46 (Value.iface (List.length L) (Value.iface 0 (Value.agg (List.toArray (fts L))))), Value.int IntKind.i64 (↑t : Int), Value.int IntKind.i64 (↑u : Int), Value.slice none 0 0]]) (.cons (by kernel_rfl) .nil) (by kernel_rfl) (Heap.set (heapO [some (Blk.mk 66 true [Value.int IntKind.i64 k, FS 46 (List.length L) 0 (List.toArray (fts L)), Value.int IntKind.i64 (↑t : Int), Value.int IntKind.i64 (↑u : Int), Value.slice none 0 0])]) 0 (some (Blk.mk 66 true [Value.int IntKind.i64 k, Value.iface 46 (Value.iface (List.length L) (Value.iface 0 (Value.agg (List.toArray (fts L))))), Value.int IntKind.i64 (↑t : Int), Value.int IntKind.i64 (↑u : Int), Value.slice none 0 0]))) (by kernel_rfl) ?_
  refine WpOps.nil (thenK_at (off' (Wp.skip (thenK_at (Wp.seq (Wp.seq (Wp.text ?_)))))))
  refine kp 12 (.string b) ?_
  refine kp 13 (.int IntKind.i64 (↑(ByteArray.size b) : Int)) ?_
  refine kp 14 (.bool false) ?_ (hop := fun _ => by_fact d1)
  refine WpOps.nil (thenK_at (off' (Wp.skip (thenK_at (Wp.seq (Wp.text ?_))))))
  refine kp 15 (.agg #[Value.bool false, Value.int .i64 0, Value.int .i64 0, Value.int .i64 (-1)]) ?_
  refine md 5 (.pointer (some ⟨1, 0, none⟩)) (Blk.mk 46 true [Value.bool false, Value.int .i64 0, Value.int .i64 0, Value.int .i64 0]) ?_
  refine ld (.tuple #[]) (1) (Blk.mk 46 true [Value.bool false, Value.int .i64 0, Value.int .i64 0, Value.int .i64 (-1)]) ?_
  refine WpOps.nil (thenK_at (Wp.seq (Wp.seq ?_)))
  refine Wp.region (by kernel_rfl) ?_
  refine kp 16 (.pointer (some ⟨0, 0, none⟩)) ?_
  refine kp 17 (.pointer (some ⟨0, 0, none⟩)) ?_
  refine kp 18 (.pointer (some ⟨0, 3, none⟩)) ?_
  refine kp 19 (.int IntKind.i64 (↑u : Int)) ?_
  refine kp 20 (.pointer (some ⟨0, 0, none⟩)) ?_
  refine kp 21 (.pointer (some ⟨0, 0, none⟩)) ?_
  refine kp 22 (.pointer (some ⟨0, 1, none⟩)) ?_
  refine kp 23 (.iface 46 (Value.iface (List.length L) (Value.iface 0 (Value.agg (List.toArray (fts L)))))) ?_
  refine kp 24 (.int IntKind.i64 (↑(List.length L) : Int)) ?_
  refine kp 25 (.bool (decide ((↑u : Int) < (↑(List.length L) : Int)))) ?_
  refine WpOps.nil (thenK_at ?_)
  refine Wp.mergeH [(0, .pointer (some ⟨0, 0, none⟩)), (1, .string b), (4, .int .i64 0), (5, .pointer (some ⟨1, 0, none⟩))] (heapO [some ⟨66, true, [.int .i64 k, FS 46 L.length 0 (fts L).toArray, .int .i64 t, .int .i64 u, .slice none 0 0]⟩, some ⟨46, true, [.bool (fate L u).lo, .int .i64 (fate L u).co, .int .i64 (fate L u).de, .int .i64 (fate L u).sp]⟩]) ?_ ?_
  · refine Wp.split (decide ((↑u : Int) < (↑(List.length L) : Int))) (by kernel_rfl) (fun hc => ?_) (fun hc => ?_)
    · have hul : u < L.length := by
        have := of_decide_eq_true hc
        omega
      have g1 : 0 ≤ (u : Int) ∧ (u : Int) < L.length := by omega
      have hs : cellsAt (fts L).toArray.toList ((u : Int).toNat * 4) 4 = some (fce L[u]) := fts_cells L u hul
      have hf : fate L u = L[u] := by unfold fate; rw [List.getD_eq_getElem?_getD, List.getElem?_eq_getElem hul]; rfl
      unfold fce at hs
      rw [← hf] at hs
      refine Wp.region (by kernel_rfl) ?_
      refine kp 26 (.pointer (some ⟨0, 0, none⟩)) ?_
      refine kp 27 (.pointer (some ⟨0, 0, none⟩)) ?_
      refine kp 28 (.pointer (some ⟨0, 1, none⟩)) ?_
      refine kp 29 (.iface 46 (Value.iface (List.length L) (Value.iface 0 (Value.agg (List.toArray (fts L)))))) ?_
      refine kp 30 (.pointer (some ⟨0, 0, none⟩)) ?_
      refine kp 31 (.pointer (some ⟨0, 0, none⟩)) ?_
      refine kp 32 (.pointer (some ⟨0, 3, none⟩)) ?_
      refine kp 33 (.int IntKind.i64 (↑u : Int)) ?_
      refine kp 34 (.iface 46 (Value.iface (Int.toNat (↑u : Int) * 4) (Value.agg (List.toArray (fts L))))) ?_ (hop := fun _ => o_indexI (e := 46) (size := 4) (a := (↑u : Int)) g1)
      refine kp 35 (.agg #[Value.bool (Ft.lo (fate L u)), Value.int .i64 (Ft.co (fate L u)), Value.int .i64 (Ft.de (fate L u)), Value.int .i64 (Ft.sp (fate L u))]) ?_ (hop := fun _ => o_loadIA (Int.toNat (↑u : Int) * 4) hs)
      refine ld (.tuple #[]) (1) (Blk.mk 46 true [Value.bool (Ft.lo (fate L u)), Value.int .i64 (Ft.co (fate L u)), Value.int .i64 (Ft.de (fate L u)), Value.int .i64 (Ft.sp (fate L u))]) ?_
      refine WpOps.nil ?_
      exact ⟨rfl, View.ofP [0, 1] _ _ (by decide) rfl ⟨⟨_, by kernel_rfl, ⟨rfl, rfl⟩⟩, ⟨_, by kernel_rfl, ⟨rfl, rfl⟩⟩, trivial⟩ ⟨⟨by kernel_rfl, rfl⟩, ⟨by kernel_rfl, rfl⟩, ⟨by kernel_rfl, rfl⟩, ⟨by kernel_rfl, rfl⟩, trivial⟩⟩
    · have hul : L.length ≤ u := by
        have := of_decide_eq_false hc
        omega
      have hf : fate L u = ⟨false, 0, 0, -1⟩ := by unfold fate; rw [List.getD_eq_getElem?_getD, List.getElem?_eq_none hul]; rfl
      refine Wp.skip ?_
      rw [hf]
      exact ⟨rfl, View.ofP [0, 1] _ _ (by decide) rfl ⟨⟨_, by kernel_rfl, ⟨rfl, rfl⟩⟩, ⟨_, by kernel_rfl, ⟨rfl, rfl⟩⟩, trivial⟩ ⟨⟨by kernel_rfl, rfl⟩, ⟨by kernel_rfl, rfl⟩, ⟨by kernel_rfl, rfl⟩, ⟨by kernel_rfl, rfl⟩, trivial⟩⟩
  have wu : IntKind.i64.wrap ((u : Int) + 1) = ((u + 1 : Nat) : Int) := by rw [wr _ (by omega) (by omega)]; omega
  refine Wp.seq (Wp.text ?_)
  refine kp 36 (.pointer (some ⟨0, 0, none⟩)) ?_
  refine kp 37 (.pointer (some ⟨0, 0, none⟩)) ?_
  refine kp 38 (.pointer (some ⟨0, 3, none⟩)) ?_
  refine kp 39 (.int IntKind.i64 (↑u : Int)) ?_
  refine kp 40 (.int IntKind.i64 (IntKind.wrap .i64 ((↑u : Int) + 1))) ?_
  refine kp 41 (.pointer (some ⟨0, 0, none⟩)) ?_
  refine kp 42 (.pointer (some ⟨0, 3, none⟩)) ?_
  refine ld (.tuple #[]) (0) (Blk.mk 66 true [Value.int .i64 k, Value.iface 46 (Value.iface (List.length L) (Value.iface 0 (Value.agg (List.toArray (fts L))))), Value.int .i64 (↑t : Int), Value.int .i64 (IntKind.wrap .i64 ((↑u : Int) + 1)), Value.slice none 0 0]) ?_
  refine WpOps.nil (thenK_at (Wp.seq (Wp.seq (Wp.text ?_))))
  refine kp 43 (.pointer (some ⟨1, 0, none⟩)) ?_
  refine kp 44 (.bool false) ?_ (hop := fun _ => by_fact hlo)
  refine WpOps.nil (thenK_at (off' (Wp.skip (thenK_at (Wp.seq (Wp.seq (Wp.text ?_)))))))
  refine kp 45 (.pointer (some ⟨1, 3, none⟩)) ?_
  refine kp 46 (.int IntKind.i64 (Ft.sp (fate L u))) ?_
  refine kp 47 (.bool (decide (Ft.sp (fate L u) ≥ 0))) ?_
  refine WpOps.nil (thenK_at ?_)
  rw [wu]
  refine Wp.mergeH [(0, .pointer (some ⟨0, 0, none⟩)), (1, .string (unit' (fate L u) b)), (4, .int .i64 0), (5, .pointer (some ⟨1, 0, none⟩))] (heapO [some ⟨66, true, [.int .i64 k, FS 46 L.length 0 (fts L).toArray, .int .i64 t, .int .i64 (u + 1 : Nat), .slice none 0 0]⟩, some ⟨46, true, [.bool (fate L u).lo, .int .i64 (fate L u).co, .int .i64 (fate L u).de, .int .i64 (fate L u).sp]⟩]) ?_ ?_
  · refine Wp.split (decide (Ft.sp (fate L u) ≥ 0)) (by kernel_rfl) (fun hs => ?_) (fun hs => ?_)
    · have hu' : unit' (fate L u) b = spu b (fate L u).sp := if_pos (of_decide_eq_true hs)
      have c1 := spoil41 b (fate L u).sp (by omega)
      rw [← hu'] at c1
      refine Wp.text ?_
      refine kp 49 (.string b) ?_
      refine kp 50 (.pointer (some ⟨1, 3, none⟩)) ?_
      refine kp 51 (.int IntKind.i64 (Ft.sp (fate L u))) ?_
      refine fr 52 41 [Value.string b, Value.int .i64 (Ft.sp (fate L u))] ?_
      refine WpFun.of (c1) ?_
      refine kp 48 (.tuple #[Value.string (unit' (fate L u) b), Value.int .i64 0]) ?_
      refine kp 53 (.string (unit' (fate L u) b)) ?_
      refine kp 54 (.int IntKind.i64 0) ?_
      refine kp 1 (.string (unit' (fate L u) b)) ?_
      refine WpOps.nil ?_
      exact ⟨rfl, View.ofP [0, 1] _ _ (by decide) rfl ⟨⟨_, by kernel_rfl, ⟨rfl, rfl⟩⟩, ⟨_, by kernel_rfl, ⟨rfl, rfl⟩⟩, trivial⟩ ⟨⟨by kernel_rfl, rfl⟩, ⟨by kernel_rfl, rfl⟩, ⟨by kernel_rfl, rfl⟩, ⟨by kernel_rfl, rfl⟩, trivial⟩⟩
    · have hu' : unit' (fate L u) b = b := if_neg (of_decide_eq_false hs)
      rw [hu']
      refine Wp.skip ?_
      exact ⟨rfl, View.ofP [0, 1] _ _ (by decide) rfl ⟨⟨_, by kernel_rfl, ⟨rfl, rfl⟩⟩, ⟨_, by kernel_rfl, ⟨rfl, rfl⟩⟩, trivial⟩ ⟨⟨by kernel_rfl, rfl⟩, ⟨by kernel_rfl, rfl⟩, ⟨by kernel_rfl, rfl⟩, ⟨by kernel_rfl, rfl⟩, trivial⟩⟩
  obtain ⟨o1, o2, o3, o4, o5⟩ := fate_ok hok u
  have wa : IntKind.i64.wrap (IntKind.i64.wrap ((t : Int) + 1) + (fate L u).de) = (t : Int) + 1 + (fate L u).de := by rw [wr ((t : Int) + 1) (by omega) (by omega), wr _ (by omega) (by omega)]
  refine Wp.seq ?_
  refine Wp.region (by kernel_rfl) ?_
  refine kp 55 (.pointer (some ⟨0, 0, none⟩)) ?_
  refine kp 56 (.pointer (some ⟨0, 0, none⟩)) ?_
  refine kp 57 (.pointer (some ⟨0, 2, none⟩)) ?_
  refine kp 58 (.int IntKind.i64 (↑t : Int)) ?_
  refine kp 59 (.int IntKind.i64 (IntKind.wrap .i64 ((↑t : Int) + 1))) ?_
  refine kp 60 (.pointer (some ⟨1, 2, none⟩)) ?_
  refine kp 61 (.int IntKind.i64 (Ft.de (fate L u))) ?_
  refine kp 62 (.int IntKind.i64 (IntKind.wrap .i64 (IntKind.wrap .i64 ((↑t : Int) + 1) + Ft.de (fate L u)))) ?_
  refine kp 6 (.int IntKind.i64 (IntKind.wrap .i64 (IntKind.wrap .i64 ((↑t : Int) + 1) + Ft.de (fate L u)))) ?_
  refine WpOps.nil (thenK_at (Wp.seq (Wp.seq (Wp.text ?_))))
  refine kp 63 (.pointer (some ⟨0, 0, none⟩)) ?_
  refine kp 64 (.pointer (some ⟨0, 0, none⟩)) ?_
  refine kp 65 (.pointer (some ⟨0, 0, none⟩)) ?_
  refine kp 66 (.int IntKind.i64 k) ?_
  refine kp 67 (.bool (k == 0)) ?_
  refine WpOps.nil (thenK_at ?_)
  rw [wa]
  refine Wp.mergeH [(0, .pointer (some ⟨0, 0, none⟩)), (1, .string (unit' (fate L u) b)), (4, .int .i64 0), (5, .pointer (some ⟨1, 0, none⟩)), (6, .int .i64 (atW k (fate L u) t []))] (heapO [some ⟨66, true, [.int .i64 k, FS 46 L.length 0 (fts L).toArray, .int .i64 t, .int .i64 (u + 1 : Nat), .slice none 0 0]⟩, some ⟨46, true, [.bool (fate L u).lo, .int .i64 (fate L u).co, .int .i64 (fate L u).de, .int .i64 (fate L u).sp]⟩]) ?_ ?_
  · rcases hk with rfl | rfl
    · have e0 : ((0 : Int) == 0) = true := rfl
      have e1 : atW 0 (fate L u) t [] = (t : Int) + 1 + (fate L u).de := rfl
      rw [e1]
      refine on' (Wp.seq (Wp.text ?_))
      refine kp 68 (.pointer (some ⟨0, 0, none⟩)) ?_
      refine kp 69 (.pointer (some ⟨0, 0, none⟩)) ?_
      refine kp 70 (.pointer (some ⟨0, 4, none⟩)) ?_
      refine kp 71 (.slice none 0 0) ?_
      refine kp 72 (.int IntKind.i64 (↑0 : Int)) ?_
      refine kp 73 (.int IntKind.i64 0) ?_
      refine WpOps.nil (thenK_at (Wp.block ?_))
      refine Wp.unroll (WpL.step ?_)
      refine Wp.seq (Wp.text ?_)
      refine kp 74 (.bool false) ?_
      refine WpOps.nil (thenK_at (Wp.seq (off' (Wp.exit (thenK_exit (thenK_exit (blockK_hit ?_)))))))
      exact ⟨rfl, View.ofP [0, 1] _ _ (by decide) rfl ⟨⟨_, by kernel_rfl, ⟨rfl, rfl⟩⟩, ⟨_, by kernel_rfl, ⟨rfl, rfl⟩⟩, trivial⟩ ⟨⟨by kernel_rfl, rfl⟩, ⟨by kernel_rfl, rfl⟩, ⟨by kernel_rfl, rfl⟩, ⟨by kernel_rfl, rfl⟩, ⟨by kernel_rfl, rfl⟩, trivial⟩⟩
    · have e0 : ((1 : Int) == 0) = false := rfl
      have e1 : atW 1 (fate L u) t [] = (t : Int) + 1 + (fate L u).de := rfl
      rw [e1]
      refine off' (Wp.skip ?_)
      exact ⟨rfl, View.ofP [0, 1] _ _ (by decide) rfl ⟨⟨_, by kernel_rfl, ⟨rfl, rfl⟩⟩, ⟨_, by kernel_rfl, ⟨rfl, rfl⟩⟩, trivial⟩ ⟨⟨by kernel_rfl, rfl⟩, ⟨by kernel_rfl, rfl⟩, ⟨by kernel_rfl, rfl⟩, ⟨by kernel_rfl, rfl⟩, ⟨by kernel_rfl, rfl⟩, trivial⟩⟩
  obtain ⟨C, hC⟩ : ∃ C : Nat, (fate L u).co = C := ⟨(fate L u).co.toNat, by omega⟩
  have hC3 : C ≤ 3 := by omega
  obtain ⟨a1, a2⟩ := atW_in k (fate L u) t [] ht o3 o4 (fun _ h => by cases h)
  rw [hC, Int.toNat_natCast]
  generalize atW k (fate L u) t [] = a at a1 a2 ⊢
  generalize unit' (fate L u) b = v
  have wc : IntKind.i64.wrap (1 + (C : Int)) = ((C + 1 : Nat) : Int) := by rw [wr _ (by omega) (by omega)]; omega
  refine Wp.seq (Wp.seq (Wp.text ?_))
  refine kp 82 (.pointer (some ⟨1, 1, none⟩)) ?_
  refine kp 83 (.int IntKind.i64 (↑C : Int)) ?_
  refine kp 84 (.int IntKind.i64 (IntKind.wrap .i64 (1 + (↑C : Int)))) ?_
  refine kp 85 (.int IntKind.i64 0) ?_
  refine WpOps.nil (thenK_at (Wp.block ?_))
  rw [wc]
  have q3 : decide ((0 : Int) < ((C + 1 : Nat) : Int)) = true := decide_eq_true (by omega)
  refine Wp.unroll (WpL.step ?_)
  have r1 : ([Value.int .i64 (IntKind.i64.wrap (a + IntKind.i64.wrap (0 * k))), .string v] : List Value) = tcs (Yl a k v [] 1) := by
    rw [show Yl a k v [] 1 = [(a + 0 * k, v)] from rfl, wr (0 * k) (by omega) (by omega), wr _ (by omega) (by omega)]
    rfl
  refine Wp.seq (Wp.text ?_)
  refine kp 86 (.bool true) ?_ (hop := fun _ => by_fact q3)
  refine WpOps.nil (thenK_at (Wp.seq (on' (Wp.skip (thenK_at (Wp.seq (Wp.block (Wp.seq (Wp.text ?_)))))))))
  refine kp 87 (.int IntKind.i64 0) ?_
  refine kp 9 (.int IntKind.i64 0) ?_
  refine WpOps.nil (thenK_at (Wp.seq (Wp.text ?_)))
  refine kp 88 (.pointer (some ⟨0, 0, none⟩)) ?_
  refine kp 89 (.pointer (some ⟨0, 0, none⟩)) ?_
  refine kp 90 (.pointer (some ⟨0, 4, none⟩)) ?_
  refine kp 91 (.slice none 0 0) ?_
  refine kp 92 (.int IntKind.i64 (↑0 : Int)) ?_
  refine kp 93 (.bool true) ?_
  refine WpOps.nil (thenK_at (on' ?_))
  refine Wp.region (by kernel_rfl) ?_
  refine kp 94 (.pointer (some ⟨0, 0, none⟩)) ?_
  refine kp 95 (.pointer (some ⟨0, 0, none⟩)) ?_
  refine kp 96 (.pointer (some ⟨0, 0, none⟩)) ?_
  refine kp 97 (.pointer (some ⟨0, 4, none⟩)) ?_
  refine kp 98 (.slice none 0 0) ?_
  refine kp 99 (.int IntKind.i64 a) ?_
  refine kp 100 (.int IntKind.i64 0) ?_
  refine kp 101 (.pointer (some ⟨0, 0, none⟩)) ?_
  refine kp 102 (.pointer (some ⟨0, 0, none⟩)) ?_
  refine kp 103 (.pointer (some ⟨0, 0, none⟩)) ?_
  refine kp 104 (.int IntKind.i64 k) ?_
  refine kp 105 (.int IntKind.i64 (IntKind.wrap .i64 (0 * k))) ?_
  refine kp 106 (.int IntKind.i64 (IntKind.wrap .i64 (a + IntKind.wrap .i64 (0 * k)))) ?_
  refine kp 107 (.string v) ?_
  refine kp 108 (.agg #[Value.int .i64 (IntKind.wrap .i64 (a + IntKind.wrap .i64 (0 * k))), Value.string v]) ?_
  refine md 109 (.slice (some ⟨2, 0, none⟩) 1 1) (Blk.mk 73 true [Value.int .i64 (IntKind.wrap .i64 (a + IntKind.wrap .i64 (0 * k))), Value.string v]) ?_
  refine md 110 (.slice (some ⟨3, 0, none⟩) 1 1) (Blk.mk 73 true [Value.int .i64 (IntKind.wrap .i64 (a + IntKind.wrap .i64 (0 * k))), Value.string v]) ?_
  refine kp 111 (.pointer (some ⟨0, 0, none⟩)) ?_
  refine kp 112 (.pointer (some ⟨0, 4, none⟩)) ?_
  refine ld (.tuple #[]) (0) (Blk.mk 66 true [Value.int .i64 k, Value.iface 46 (Value.iface (List.length L) (Value.iface 0 (Value.agg (List.toArray (fts L))))), Value.int .i64 (↑t : Int), Value.int .i64 (↑(u + 1) : Int), Value.slice (some ⟨3, 0, none⟩) 1 1]) ?_
  refine WpOps.nil (blockK_norm (thenK_at (Wp.text ?_)))
  refine kp 113 (.int IntKind.i64 (IntKind.wrap .i64 (0 + 1))) ?_
  refine kp 85 (.int IntKind.i64 (IntKind.wrap .i64 (0 + 1))) ?_
  refine WpOps.nil (thenK_at ?_)
  rw [r1]
  refine WpL.loop (G := Nat) (fun i => layj [(0, .pointer (some ⟨0, 0, none⟩)), (1, .string v), (4, .int .i64 0), (6, .int .i64 a), (84, .int .i64 (C + 1 : Nat)), (85, .int .i64 i)]) (fun i => (heapO [some ⟨66, true, [.int .i64 k, FS 46 L.length 0 (fts L).toArray, .int .i64 t, .int .i64 (u + 1 : Nat), .slice (some ⟨1, 0, none⟩) (Yl a k v [] i).length (Yl a k v [] i).length]⟩, some (rowB (Yl a k v [] i))])) (fun i => C + 1 - i) (fun i => 1 ≤ i ∧ i ≤ C + 1) 1
    (View.ofP [0, 3] _ _ (by decide) rfl ⟨⟨_, by kernel_rfl, ⟨rfl, rfl⟩⟩, ⟨_, by kernel_rfl, CellsOk.eq rfl (tcs_flat _)⟩, trivial⟩ ⟨⟨by kernel_rfl, rfl⟩, ⟨by kernel_rfl, rfl⟩, ⟨by kernel_rfl, rfl⟩, ⟨by kernel_rfl, rfl⟩, ⟨by kernel_rfl, rfl⟩, ⟨by kernel_rfl, rfl⟩, trivial⟩) ⟨Nat.le_refl _, by omega⟩ ?_
  clear r1 q3
  rintro i ⟨hi1, hi2⟩
  have hYl := Yl_len a k v [] i
  by_cases hc : i < C + 1
  · have q3 : decide ((i : Int) < ((C + 1 : Nat) : Int)) = true := decide_eq_true (by omega)
    have wi : IntKind.i64.wrap ((i : Int) + 1) = ((i + 1 : Nat) : Int) := by rw [wr _ (by omega) (by omega)]; omega
    by_cases hl : i < 400 - ([] : List Tr).length
    · have q4 : decide (((Yl a k v [] i).length : Int) < 400) = true := decide_eq_true (by omega)
      have q0 : cellsAt (rowB (Yl a k v [] i)).cells 0 ((Yl a k v [] i).length * 2) = some (tcs (Yl a k v [] i)) := by
        have := tcs_back [] (Yl a k v [] i)
        rwa [List.nil_append, List.length_nil, Nat.zero_mul] at this
      have q1 : ¬ (Yl a k v [] i).length + 1 ≤ (Yl a k v [] i).length := by omega
      have q2 : 1 ≤ 24 ∧ ((Yl a k v [] i).length + 1) * 24 ≤ 140737488355328 ∧ 2 = 2 ∧ (Yl a k v [] i).length + 1 ≤ 9223372036854775807 := by omega
      have wk : IntKind.i64.wrap ((i : Int) * k) = (i : Int) * k ∧ 0 ≤ (i : Int) * k ∧ (i : Int) * k ≤ 4 := by
        have : 0 ≤ (i : Int) * k ∧ (i : Int) * k ≤ 4 := by rcases hk with rfl | rfl <;> omega
        exact ⟨wr _ (by omega) (by omega), this⟩
      have r1 : tcs (Yl a k v [] i) ++ [Value.int .i64 (IntKind.i64.wrap (a + IntKind.i64.wrap ((i : Int) * k))), .string v] = tcs (Yl a k v [] (i + 1)) := by
        rw [Yl_snoc a k v [] hl, tcs_app, wk.1, wr _ (by omega) (by omega)]
        rfl
      have r2 : (Yl a k v [] i).length + 1 = (Yl a k v [] (i + 1)).length := by rw [Yl_len, Yl_len]; omega
      refine Wp.seq (Wp.text ?_)
      refine kp 86 (.bool true) ?_ (hop := fun _ => by_fact q3)
      refine WpOps.nil (thenK_at (Wp.seq (on' (Wp.skip (thenK_at (Wp.seq (Wp.block (Wp.seq (Wp.text ?_)))))))))
      refine kp 87 (.int IntKind.i64 (↑i : Int)) ?_
      refine kp 9 (.int IntKind.i64 (↑i : Int)) ?_
      refine WpOps.nil (thenK_at (Wp.seq (Wp.text ?_)))
      refine kp 88 (.pointer (some ⟨0, 0, none⟩)) ?_
      refine kp 89 (.pointer (some ⟨0, 0, none⟩)) ?_
      refine kp 90 (.pointer (some ⟨0, 4, none⟩)) ?_
      refine kp 91 (.slice (some ⟨1, 0, none⟩) (List.length (Yl a k v [] i)) (List.length (Yl a k v [] i))) ?_
      refine kp 92 (.int IntKind.i64 (↑(List.length (Yl a k v [] i)) : Int)) ?_
      refine kp 93 (.bool true) ?_ (hop := fun _ => by_fact q4)
      refine WpOps.nil (thenK_at (on' ?_))
      refine Wp.region (by kernel_rfl) ?_
      refine kp 94 (.pointer (some ⟨0, 0, none⟩)) ?_
      refine kp 95 (.pointer (some ⟨0, 0, none⟩)) ?_
      refine kp 96 (.pointer (some ⟨0, 0, none⟩)) ?_
      refine kp 97 (.pointer (some ⟨0, 4, none⟩)) ?_
      refine kp 98 (.slice (some ⟨1, 0, none⟩) (List.length (Yl a k v [] i)) (List.length (Yl a k v [] i))) ?_
      refine kp 99 (.int IntKind.i64 a) ?_
      refine kp 100 (.int IntKind.i64 (↑i : Int)) ?_
      refine kp 101 (.pointer (some ⟨0, 0, none⟩)) ?_
      refine kp 102 (.pointer (some ⟨0, 0, none⟩)) ?_
      refine kp 103 (.pointer (some ⟨0, 0, none⟩)) ?_
      refine kp 104 (.int IntKind.i64 k) ?_
      refine kp 105 (.int IntKind.i64 (IntKind.wrap .i64 ((↑i : Int) * k))) ?_
      refine kp 106 (.int IntKind.i64 (IntKind.wrap .i64 (a + IntKind.wrap .i64 ((↑i : Int) * k)))) ?_
      refine kp 107 (.string v) ?_
      refine kp 108 (.agg #[Value.int .i64 (IntKind.wrap .i64 (a + IntKind.wrap .i64 ((↑i : Int) * k))), Value.string v]) ?_
      refine md 109 (.slice (some ⟨2, 0, none⟩) 1 1) (Blk.mk 73 true [Value.int .i64 (IntKind.wrap .i64 (a + IntKind.wrap .i64 ((↑i : Int) * k))), Value.string v]) ?_
      refine ra 110 (.slice (some ⟨3, 0, none⟩) (List.length (Yl a k v [] i) + 1) (List.length (Yl a k v [] i) + 1)) (1) (Blk.mk 73 true (tcs (Yl a k v [] i) ++ [Value.int .i64 (IntKind.wrap .i64 (a + IntKind.wrap .i64 ((↑i : Int) * k))), Value.string v])) ?_ (hop := fun _ => o_append (e := 73) (1) (0) (List.length (Yl a k v [] i)) _ (List.length (Yl a k v [] i)) q1 q2 q0)
      refine kp 111 (.pointer (some ⟨0, 0, none⟩)) ?_
      refine kp 112 (.pointer (some ⟨0, 4, none⟩)) ?_
      refine ld (.tuple #[]) (0) (Blk.mk 66 true [Value.int .i64 k, Value.iface 46 (Value.iface (List.length L) (Value.iface 0 (Value.agg (List.toArray (fts L))))), Value.int .i64 (↑t : Int), Value.int .i64 (↑(u + 1) : Int), Value.slice (some ⟨3, 0, none⟩) (List.length (Yl a k v [] i) + 1) (List.length (Yl a k v [] i) + 1)]) ?_
      refine WpOps.nil (blockK_norm (thenK_at (Wp.text ?_)))
      refine kp 113 (.int IntKind.i64 (IntKind.wrap .i64 ((↑i : Int) + 1))) ?_
      refine kp 85 (.int IntKind.i64 (IntKind.wrap .i64 ((↑i : Int) + 1))) ?_
      refine WpOps.nil (thenK_at ?_)
      rw [r1, r2]
      exact ⟨i + 1, by omega, ⟨by omega, by omega⟩, View.ofP [0, 3] _ _ (by decide) rfl ⟨⟨_, by kernel_rfl, ⟨rfl, rfl⟩⟩, ⟨_, by kernel_rfl, CellsOk.eq rfl (tcs_flat _)⟩, trivial⟩ ⟨⟨by kernel_rfl, rfl⟩, ⟨by kernel_rfl, rfl⟩, ⟨by kernel_rfl, rfl⟩, ⟨by kernel_rfl, rfl⟩, ⟨by kernel_rfl, rfl⟩, ⟨congrArg (Value.int .i64) wi, rfl⟩, trivial⟩⟩
    · have q4 : decide (((Yl a k v [] i).length : Int) < 400) = false := decide_eq_false (by omega)
      have r3 : Yl a k v [] i = Yl a k v [] (i + 1) := Yl_stay a k v [] (by omega)
      refine Wp.seq (Wp.text ?_)
      refine kp 86 (.bool true) ?_ (hop := fun _ => by_fact q3)
      refine WpOps.nil (thenK_at (Wp.seq (on' (Wp.skip (thenK_at (Wp.seq (Wp.block (Wp.seq (Wp.text ?_)))))))))
      refine kp 87 (.int IntKind.i64 (↑i : Int)) ?_
      refine kp 9 (.int IntKind.i64 (↑i : Int)) ?_
      refine WpOps.nil (thenK_at (Wp.seq (Wp.text ?_)))
      refine kp 88 (.pointer (some ⟨0, 0, none⟩)) ?_
      refine kp 89 (.pointer (some ⟨0, 0, none⟩)) ?_
      refine kp 90 (.pointer (some ⟨0, 4, none⟩)) ?_
      refine kp 91 (.slice (some ⟨1, 0, none⟩) (List.length (Yl a k v [] i)) (List.length (Yl a k v [] i))) ?_
      refine kp 92 (.int IntKind.i64 (↑(List.length (Yl a k v [] i)) : Int)) ?_
      refine kp 93 (.bool false) ?_ (hop := fun _ => by_fact q4)
      refine WpOps.nil (thenK_at (off' (Wp.skip (blockK_norm (thenK_at (Wp.text ?_))))))
      refine kp 113 (.int IntKind.i64 (IntKind.wrap .i64 ((↑i : Int) + 1))) ?_
      refine kp 85 (.int IntKind.i64 (IntKind.wrap .i64 ((↑i : Int) + 1))) ?_
      refine WpOps.nil (thenK_at ?_)
      rw [r3]
      exact ⟨i + 1, by omega, ⟨by omega, by omega⟩, View.ofP [0, 1] _ _ (by decide) rfl ⟨⟨_, by kernel_rfl, ⟨rfl, rfl⟩⟩, ⟨_, by kernel_rfl, CellsOk.eq rfl (tcs_flat _)⟩, trivial⟩ ⟨⟨by kernel_rfl, rfl⟩, ⟨by kernel_rfl, rfl⟩, ⟨by kernel_rfl, rfl⟩, ⟨by kernel_rfl, rfl⟩, ⟨by kernel_rfl, rfl⟩, ⟨congrArg (Value.int .i64) wi, rfl⟩, trivial⟩⟩
  · have q3 : decide ((i : Int) < ((C + 1 : Nat) : Int)) = false := decide_eq_false (by omega)
    obtain rfl : i = C + 1 := by omega
    refine Wp.seq (Wp.text ?_)
    refine kp 86 (.bool false) ?_ (hop := fun _ => by_fact q3)
    refine WpOps.nil (thenK_at (Wp.seq (off' (Wp.exit (thenK_exit (thenK_exit (blockK_hit (thenK_at (Wp.seq (Wp.text ?_))))))))))
    refine kp 4 (.int IntKind.i64 0) ?_
    refine WpOps.nil (thenK_at (Wp.ret ?_))
    refine endK_retn [Value.int IntKind.i64 0] (Value.int IntKind.i64 0) (by kernel_rfl) (by kernel_rfl) ?_
    exact ⟨[0, 1], by decide, rfl, BlksP.told ⟨⟨_, by kernel_rfl, ⟨rfl, rfl⟩⟩, ⟨_, by kernel_rfl, CellsOk.eq rfl (tcs_flat _)⟩, trivial⟩, .w (.un rfl rfl)⟩
theorem put13f (k : Int) (L : List Ft) (t u : Nat) (p X : List Tr) (b : ByteArray) (hb : b.size ≤ 4000) (hk : k = 0 ∨ k = 1) (hok : L.all Ft.ok = true) (ht : t ≤ 1000000) (hu : u ≤ 1000000) (hXm : X.length ≤ 1000) (hX : X.length ≥ 400) (hin : InT X) (hlo : (fate L u).lo = false) :
    SCall E 13 [.pointer (some ⟨0, 0, none⟩), .string b] (heapO [some (mB k L t u (.slice (some ⟨1, p.length * 2, none⟩) X.length X.length)), some (rowB (p ++ X))]) (.int .i64 0) (heapO [some (mB k L t (u + 1 : Nat) (.slice (some ⟨1, p.length * 2, none⟩) X.length X.length)), some (rowB (p ++ X))]) := by
  refine SCall.enterO h13 rfl (of_decide_eq_true (by kernel_rfl)) rfl rfl (Nat.le_refl _) ?_
  have c0 := none40o k L t u (p.length * 2) X.length X.length (p ++ X)
  unfold mB at c0 ⊢
  have d1 : decide ((b.size : Int) > 4000) = false := decide_eq_false (by omega)
  have hfl : (rowB (p ++ X)).cells.all flat = true := tcs_flat _
  refine Wp.seq (Wp.text ?_)
  refine kp 4 (.int IntKind.i64 0) ?_
  refine WpOps.nil (thenK_at (Wp.seq (Wp.seq (Wp.text ?_))))
  refine kp 10 (.pointer (some ⟨0, 0, none⟩)) ?_
  refine cl 11 40 [Value.pointer (some ⟨0, 0, none⟩)] ?_
  refine WpCall.lent [0, 1] (c0) (by decide) ⟨⟨[Value.int IntKind.i64 k, Value.iface 46 (Value.iface (List.length L) (Value.iface 0 (Value.agg (List.toArray (fts L))))), Value.int IntKind.i64 (↑t : Int), Value.int IntKind.i64 (↑u : Int), Value.slice (some (Addr.mk 1 (List.length p * 2) none)) (List.length X) (List.length X)], (by kernel_rfl), (by kernel_rfl), (by kernel_rfl)⟩, ⟨⟨_, (by kernel_rfl), CellsOk.eq rfl (by assumption)⟩, trivial⟩⟩ (by kernel_rfl) (Value.bool false) ([Blk.mk 66 true [Value.int IntKind.i64 k, Value.iface 46 (Value.iface (List.length L) (Value.iface 0 (Value.agg (List.toArray (fts L))))), Value.int IntKind.i64 (↑t : Int), Value.int IntKind.i64 (↑u : Int), Value.slice (some (Addr.mk (List.getD [0, 1] 1 0) (List.length p * 2) none)) (List.length X) (List.length X)], Blk.mk 73 true (tcs (p ++ X))]) (.cons (by kernel_rfl) (.cons (unB_flat (by assumption)) .nil)) (by kernel_rfl) (Heap.set (Heap.set (heapO [some (Blk.mk 66 true [Value.int IntKind.i64 k, FS 46 (List.length L) 0 (List.toArray (fts L)), Value.int IntKind.i64 (↑t : Int), Value.int IntKind.i64 (↑u : Int), Value.slice (some (Addr.mk 1 (List.length p * 2) none)) (List.length X) (List.length X)]), some (rowB (p ++ X))]) 0 (some (Blk.mk 66 true [Value.int IntKind.i64 k, Value.iface 46 (Value.iface (List.length L) (Value.iface 0 (Value.agg (List.toArray (fts L))))), Value.int IntKind.i64 (↑t : Int), Value.int IntKind.i64 (↑u : Int), Value.slice (some (Addr.mk 1 (List.length p * 2) none)) (List.length X) (List.length X)]))) 1 (some (Blk.mk 73 true (tcs (p ++ X))))) (by kernel_rfl) ?_
  refine WpOps.nil (thenK_at (off' (Wp.skip (thenK_at (Wp.seq (Wp.seq (Wp.text ?_)))))))
  refine kp 12 (.string b) ?_
  refine kp 13 (.int IntKind.i64 (↑(ByteArray.size b) : Int)) ?_
  refine kp 14 (.bool false) ?_ (hop := fun _ => by_fact d1)
  refine WpOps.nil (thenK_at (off' (Wp.skip (thenK_at (Wp.seq (Wp.text ?_))))))
  refine kp 15 (.agg #[Value.bool false, Value.int .i64 0, Value.int .i64 0, Value.int .i64 (-1)]) ?_
  refine md 5 (.pointer (some ⟨2, 0, none⟩)) (Blk.mk 46 true [Value.bool false, Value.int .i64 0, Value.int .i64 0, Value.int .i64 0]) ?_
  refine ld (.tuple #[]) (2) (Blk.mk 46 true [Value.bool false, Value.int .i64 0, Value.int .i64 0, Value.int .i64 (-1)]) ?_
  refine WpOps.nil (thenK_at (Wp.seq (Wp.seq ?_)))
  refine Wp.region (by kernel_rfl) ?_
  refine kp 16 (.pointer (some ⟨0, 0, none⟩)) ?_
  refine kp 17 (.pointer (some ⟨0, 0, none⟩)) ?_
  refine kp 18 (.pointer (some ⟨0, 3, none⟩)) ?_
  refine kp 19 (.int IntKind.i64 (↑u : Int)) ?_
  refine kp 20 (.pointer (some ⟨0, 0, none⟩)) ?_
  refine kp 21 (.pointer (some ⟨0, 0, none⟩)) ?_
  refine kp 22 (.pointer (some ⟨0, 1, none⟩)) ?_
  refine kp 23 (.iface 46 (Value.iface (List.length L) (Value.iface 0 (Value.agg (List.toArray (fts L)))))) ?_
  refine kp 24 (.int IntKind.i64 (↑(List.length L) : Int)) ?_
  refine kp 25 (.bool (decide ((↑u : Int) < (↑(List.length L) : Int)))) ?_
  refine WpOps.nil (thenK_at ?_)
  refine Wp.mergeH [(0, .pointer (some ⟨0, 0, none⟩)), (1, .string b), (4, .int .i64 0), (5, .pointer (some ⟨2, 0, none⟩))] (heapO [some ⟨66, true, [.int .i64 k, FS 46 L.length 0 (fts L).toArray, .int .i64 t, .int .i64 u, .slice (some ⟨1, p.length * 2, none⟩) X.length X.length]⟩, some (rowB (p ++ X)), some ⟨46, true, [.bool (fate L u).lo, .int .i64 (fate L u).co, .int .i64 (fate L u).de, .int .i64 (fate L u).sp]⟩]) ?_ ?_
  · refine Wp.split (decide ((↑u : Int) < (↑(List.length L) : Int))) (by kernel_rfl) (fun hc => ?_) (fun hc => ?_)
    · have hul : u < L.length := by
        have := of_decide_eq_true hc
        omega
      have g1 : 0 ≤ (u : Int) ∧ (u : Int) < L.length := by omega
      have hs : cellsAt (fts L).toArray.toList ((u : Int).toNat * 4) 4 = some (fce L[u]) := fts_cells L u hul
      have hf : fate L u = L[u] := by unfold fate; rw [List.getD_eq_getElem?_getD, List.getElem?_eq_getElem hul]; rfl
      unfold fce at hs
      rw [← hf] at hs
      refine Wp.region (by kernel_rfl) ?_
      refine kp 26 (.pointer (some ⟨0, 0, none⟩)) ?_
      refine kp 27 (.pointer (some ⟨0, 0, none⟩)) ?_
      refine kp 28 (.pointer (some ⟨0, 1, none⟩)) ?_
      refine kp 29 (.iface 46 (Value.iface (List.length L) (Value.iface 0 (Value.agg (List.toArray (fts L)))))) ?_
      refine kp 30 (.pointer (some ⟨0, 0, none⟩)) ?_
      refine kp 31 (.pointer (some ⟨0, 0, none⟩)) ?_
      refine kp 32 (.pointer (some ⟨0, 3, none⟩)) ?_
      refine kp 33 (.int IntKind.i64 (↑u : Int)) ?_
      refine kp 34 (.iface 46 (Value.iface (Int.toNat (↑u : Int) * 4) (Value.agg (List.toArray (fts L))))) ?_ (hop := fun _ => o_indexI (e := 46) (size := 4) (a := (↑u : Int)) g1)
      refine kp 35 (.agg #[Value.bool (Ft.lo (fate L u)), Value.int .i64 (Ft.co (fate L u)), Value.int .i64 (Ft.de (fate L u)), Value.int .i64 (Ft.sp (fate L u))]) ?_ (hop := fun _ => o_loadIA (Int.toNat (↑u : Int) * 4) hs)
      refine ld (.tuple #[]) (2) (Blk.mk 46 true [Value.bool (Ft.lo (fate L u)), Value.int .i64 (Ft.co (fate L u)), Value.int .i64 (Ft.de (fate L u)), Value.int .i64 (Ft.sp (fate L u))]) ?_
      refine WpOps.nil ?_
      exact ⟨rfl, View.ofP [0, 1, 2] _ _ (by decide) rfl ⟨⟨_, by kernel_rfl, ⟨rfl, rfl⟩⟩, ⟨_, by kernel_rfl, CellsOk.eq rfl (tcs_flat _)⟩, ⟨_, by kernel_rfl, ⟨rfl, rfl⟩⟩, trivial⟩ ⟨⟨by kernel_rfl, rfl⟩, ⟨by kernel_rfl, rfl⟩, ⟨by kernel_rfl, rfl⟩, ⟨by kernel_rfl, rfl⟩, trivial⟩⟩
    · have hul : L.length ≤ u := by
        have := of_decide_eq_false hc
        omega
      have hf : fate L u = ⟨false, 0, 0, -1⟩ := by unfold fate; rw [List.getD_eq_getElem?_getD, List.getElem?_eq_none hul]; rfl
      refine Wp.skip ?_
      rw [hf]
      exact ⟨rfl, View.ofP [0, 1, 2] _ _ (by decide) rfl ⟨⟨_, by kernel_rfl, ⟨rfl, rfl⟩⟩, ⟨_, by kernel_rfl, CellsOk.eq rfl (tcs_flat _)⟩, ⟨_, by kernel_rfl, ⟨rfl, rfl⟩⟩, trivial⟩ ⟨⟨by kernel_rfl, rfl⟩, ⟨by kernel_rfl, rfl⟩, ⟨by kernel_rfl, rfl⟩, ⟨by kernel_rfl, rfl⟩, trivial⟩⟩
  have wu : IntKind.i64.wrap ((u : Int) + 1) = ((u + 1 : Nat) : Int) := by rw [wr _ (by omega) (by omega)]; omega
  refine Wp.seq (Wp.text ?_)
  refine kp 36 (.pointer (some ⟨0, 0, none⟩)) ?_
  refine kp 37 (.pointer (some ⟨0, 0, none⟩)) ?_
  refine kp 38 (.pointer (some ⟨0, 3, none⟩)) ?_
  refine kp 39 (.int IntKind.i64 (↑u : Int)) ?_
  refine kp 40 (.int IntKind.i64 (IntKind.wrap .i64 ((↑u : Int) + 1))) ?_
  refine kp 41 (.pointer (some ⟨0, 0, none⟩)) ?_
  refine kp 42 (.pointer (some ⟨0, 3, none⟩)) ?_
  refine ld (.tuple #[]) (0) (Blk.mk 66 true [Value.int .i64 k, Value.iface 46 (Value.iface (List.length L) (Value.iface 0 (Value.agg (List.toArray (fts L))))), Value.int .i64 (↑t : Int), Value.int .i64 (IntKind.wrap .i64 ((↑u : Int) + 1)), Value.slice (some (Addr.mk 1 (List.length p * 2) none)) (List.length X) (List.length X)]) ?_
  refine WpOps.nil (thenK_at (Wp.seq (Wp.seq (Wp.text ?_))))
  refine kp 43 (.pointer (some ⟨2, 0, none⟩)) ?_
  refine kp 44 (.bool false) ?_ (hop := fun _ => by_fact hlo)
  refine WpOps.nil (thenK_at (off' (Wp.skip (thenK_at (Wp.seq (Wp.seq (Wp.text ?_)))))))
  refine kp 45 (.pointer (some ⟨2, 3, none⟩)) ?_
  refine kp 46 (.int IntKind.i64 (Ft.sp (fate L u))) ?_
  refine kp 47 (.bool (decide (Ft.sp (fate L u) ≥ 0))) ?_
  refine WpOps.nil (thenK_at ?_)
  rw [wu]
  refine Wp.mergeH [(0, .pointer (some ⟨0, 0, none⟩)), (1, .string (unit' (fate L u) b)), (4, .int .i64 0), (5, .pointer (some ⟨2, 0, none⟩))] (heapO [some ⟨66, true, [.int .i64 k, FS 46 L.length 0 (fts L).toArray, .int .i64 t, .int .i64 (u + 1 : Nat), .slice (some ⟨1, p.length * 2, none⟩) X.length X.length]⟩, some (rowB (p ++ X)), some ⟨46, true, [.bool (fate L u).lo, .int .i64 (fate L u).co, .int .i64 (fate L u).de, .int .i64 (fate L u).sp]⟩]) ?_ ?_
  · refine Wp.split (decide (Ft.sp (fate L u) ≥ 0)) (by kernel_rfl) (fun hs => ?_) (fun hs => ?_)
    · have hu' : unit' (fate L u) b = spu b (fate L u).sp := if_pos (of_decide_eq_true hs)
      have c1 := spoil41 b (fate L u).sp (by omega)
      rw [← hu'] at c1
      refine Wp.text ?_
      refine kp 49 (.string b) ?_
      refine kp 50 (.pointer (some ⟨2, 3, none⟩)) ?_
      refine kp 51 (.int IntKind.i64 (Ft.sp (fate L u))) ?_
      refine fr 52 41 [Value.string b, Value.int .i64 (Ft.sp (fate L u))] ?_
      refine WpFun.of (c1) ?_
      refine kp 48 (.tuple #[Value.string (unit' (fate L u) b), Value.int .i64 0]) ?_
      refine kp 53 (.string (unit' (fate L u) b)) ?_
      refine kp 54 (.int IntKind.i64 0) ?_
      refine kp 1 (.string (unit' (fate L u) b)) ?_
      refine WpOps.nil ?_
      exact ⟨rfl, View.ofP [0, 1, 2] _ _ (by decide) rfl ⟨⟨_, by kernel_rfl, ⟨rfl, rfl⟩⟩, ⟨_, by kernel_rfl, CellsOk.eq rfl (tcs_flat _)⟩, ⟨_, by kernel_rfl, ⟨rfl, rfl⟩⟩, trivial⟩ ⟨⟨by kernel_rfl, rfl⟩, ⟨by kernel_rfl, rfl⟩, ⟨by kernel_rfl, rfl⟩, ⟨by kernel_rfl, rfl⟩, trivial⟩⟩
    · have hu' : unit' (fate L u) b = b := if_neg (of_decide_eq_false hs)
      rw [hu']
      refine Wp.skip ?_
      exact ⟨rfl, View.ofP [0, 1, 2] _ _ (by decide) rfl ⟨⟨_, by kernel_rfl, ⟨rfl, rfl⟩⟩, ⟨_, by kernel_rfl, CellsOk.eq rfl (tcs_flat _)⟩, ⟨_, by kernel_rfl, ⟨rfl, rfl⟩⟩, trivial⟩ ⟨⟨by kernel_rfl, rfl⟩, ⟨by kernel_rfl, rfl⟩, ⟨by kernel_rfl, rfl⟩, ⟨by kernel_rfl, rfl⟩, trivial⟩⟩
  obtain ⟨o1, o2, o3, o4, o5⟩ := fate_ok hok u
  have wa : IntKind.i64.wrap (IntKind.i64.wrap ((t : Int) + 1) + (fate L u).de) = (t : Int) + 1 + (fate L u).de := by rw [wr ((t : Int) + 1) (by omega) (by omega), wr _ (by omega) (by omega)]
  refine Wp.seq ?_
  refine Wp.region (by kernel_rfl) ?_
  refine kp 55 (.pointer (some ⟨0, 0, none⟩)) ?_
  refine kp 56 (.pointer (some ⟨0, 0, none⟩)) ?_
  refine kp 57 (.pointer (some ⟨0, 2, none⟩)) ?_
  refine kp 58 (.int IntKind.i64 (↑t : Int)) ?_
  refine kp 59 (.int IntKind.i64 (IntKind.wrap .i64 ((↑t : Int) + 1))) ?_
  refine kp 60 (.pointer (some ⟨2, 2, none⟩)) ?_
  refine kp 61 (.int IntKind.i64 (Ft.de (fate L u))) ?_
  refine kp 62 (.int IntKind.i64 (IntKind.wrap .i64 (IntKind.wrap .i64 ((↑t : Int) + 1) + Ft.de (fate L u)))) ?_
  refine kp 6 (.int IntKind.i64 (IntKind.wrap .i64 (IntKind.wrap .i64 ((↑t : Int) + 1) + Ft.de (fate L u)))) ?_
  refine WpOps.nil (thenK_at (Wp.seq (Wp.seq (Wp.text ?_))))
  refine kp 63 (.pointer (some ⟨0, 0, none⟩)) ?_
  refine kp 64 (.pointer (some ⟨0, 0, none⟩)) ?_
  refine kp 65 (.pointer (some ⟨0, 0, none⟩)) ?_
  refine kp 66 (.int IntKind.i64 k) ?_
  refine kp 67 (.bool (k == 0)) ?_
  refine WpOps.nil (thenK_at ?_)
  rw [wa]
  refine Wp.mergeH [(0, .pointer (some ⟨0, 0, none⟩)), (1, .string (unit' (fate L u) b)), (4, .int .i64 0), (5, .pointer (some ⟨2, 0, none⟩)), (6, .int .i64 (atW k (fate L u) t X))] (heapO [some ⟨66, true, [.int .i64 k, FS 46 L.length 0 (fts L).toArray, .int .i64 t, .int .i64 (u + 1 : Nat), .slice (some ⟨1, p.length * 2, none⟩) X.length X.length]⟩, some (rowB (p ++ X)), some ⟨46, true, [.bool (fate L u).lo, .int .i64 (fate L u).co, .int .i64 (fate L u).de, .int .i64 (fate L u).sp]⟩]) ?_ ?_
  · rcases hk with rfl | rfl
    · have e0 : ((0 : Int) == 0) = true := rfl
      refine on' (Wp.seq (Wp.text ?_))
      refine kp 68 (.pointer (some ⟨0, 0, none⟩)) ?_
      refine kp 69 (.pointer (some ⟨0, 0, none⟩)) ?_
      refine kp 70 (.pointer (some ⟨0, 4, none⟩)) ?_
      refine kp 71 (.slice (some (Addr.mk 1 (List.length p * 2) none)) (List.length X) (List.length X)) ?_
      refine kp 72 (.int IntKind.i64 (↑(List.length X) : Int)) ?_
      refine kp 73 (.int IntKind.i64 0) ?_
      refine WpOps.nil (thenK_at (Wp.block ?_))
      refine Wp.loop (G := Nat) (fun i => layj [(0, .pointer (some ⟨0, 0, none⟩)), (1, .string (unit' (fate L u) b)), (4, .int .i64 0), (5, .pointer (some ⟨2, 0, none⟩)), (6, .int .i64 ((X.take i).foldl mx ((t : Int) + 1 + (fate L u).de))), (71, .slice (some ⟨1, p.length * 2, none⟩) X.length X.length), (72, .int .i64 X.length), (73, .int .i64 i)]) (fun _ => (heapO [some ⟨66, true, [.int .i64 0, FS 46 L.length 0 (fts L).toArray, .int .i64 t, .int .i64 (u + 1 : Nat), .slice (some ⟨1, p.length * 2, none⟩) X.length X.length]⟩, some (rowB (p ++ X)), some ⟨46, true, [.bool (fate L u).lo, .int .i64 (fate L u).co, .int .i64 (fate L u).de, .int .i64 (fate L u).sp]⟩])) (fun i => X.length - i) (fun i => i ≤ X.length) 0
        (View.ofP [0, 1, 2] _ _ (by decide) rfl ⟨⟨_, by kernel_rfl, ⟨rfl, rfl⟩⟩, ⟨_, by kernel_rfl, CellsOk.eq rfl (tcs_flat _)⟩, ⟨_, by kernel_rfl, ⟨rfl, rfl⟩⟩, trivial⟩ ⟨⟨by kernel_rfl, rfl⟩, ⟨by kernel_rfl, rfl⟩, ⟨by kernel_rfl, rfl⟩, ⟨by kernel_rfl, rfl⟩, ⟨by kernel_rfl, rfl⟩, ⟨by kernel_rfl, rfl⟩, ⟨by kernel_rfl, rfl⟩, ⟨by kernel_rfl, rfl⟩, trivial⟩) (Nat.zero_le _) ?_
      intro i hi
      by_cases hc : i < X.length
      · have d2 : decide ((i : Int) < (X.length : Int)) = true := decide_eq_true (by omega)
        have g1 : 0 ≤ (i : Int) ∧ (i : Int) < X.length := by omega
        have g2 : cellsAt (rowB (p ++ X)).cells (p.length * 2 + (i : Int).toNat * 2) 2 = some [.int .i64 X[i].1, .string X[i].2] := by
          rw [Int.toNat_natCast, ← Nat.add_mul]
          exact tcs_at (by rw [List.getElem?_append_right (by omega), Nat.add_sub_cancel_left, List.getElem?_eq_getElem hc])
        have wi : IntKind.i64.wrap ((i : Int) + 1) = ((i + 1 : Nat) : Int) := by rw [wr _ (by omega) (by omega)]; omega
        have ex : (X.take (i + 1)).foldl mx ((t : Int) + 1 + (fate L u).de) = mx ((X.take i).foldl mx ((t : Int) + 1 + (fate L u).de)) X[i] := by
          rw [List.take_add_one, List.getElem?_eq_getElem hc, List.foldl_append]
          rfl
        refine Wp.seq (Wp.text ?_)
        refine kp 74 (.bool true) ?_ (hop := fun _ => by_fact d2)
        refine WpOps.nil (thenK_at (Wp.seq (on' (Wp.skip (thenK_at (Wp.seq (Wp.block (Wp.seq (Wp.text ?_)))))))))
        refine kp 75 (.pointer (some (Addr.mk 1 (List.length p * 2 + Int.toNat (↑i : Int) * 2) none))) ?_ (hop := fun _ => o_indexAddr (a := (↑i : Int)) (bl := 1) (off := List.length p * 2) (size := 2) 73 (List.length X) g1)
        refine kp 76 (.agg #[Value.int .i64 (Prod.fst X[i]), Value.string (Prod.snd X[i])]) ?_ (hop := fun _ => o_loadA (1) (List.length p * 2 + Int.toNat (↑i : Int) * 2) g2)
        refine md 8 (.pointer (some ⟨3, 0, none⟩)) (Blk.mk 73 true [Value.int .i64 0, Value.string (ByteArray.mk #[])]) ?_
        refine ld (.tuple #[]) (3) (Blk.mk 73 true [Value.int .i64 (Prod.fst X[i]), Value.string (Prod.snd X[i])]) ?_
        refine WpOps.nil (thenK_at (Wp.text ?_))
        refine kp 77 (.int IntKind.i64 (List.foldl mx ((↑t : Int) + 1 + Ft.de (fate L u)) (List.take i X))) ?_
        refine kp 78 (.pointer (some ⟨3, 0, none⟩)) ?_
        refine kp 79 (.int IntKind.i64 (Prod.fst X[i])) ?_
        refine kp 80 (.int IntKind.i64 (if Prod.fst X[i] > List.foldl mx ((↑t : Int) + 1 + Ft.de (fate L u)) (List.take i X) then Prod.fst X[i] else List.foldl mx ((↑t : Int) + 1 + Ft.de (fate L u)) (List.take i X))) ?_
        refine kp 6 (.int IntKind.i64 (if Prod.fst X[i] > List.foldl mx ((↑t : Int) + 1 + Ft.de (fate L u)) (List.take i X) then Prod.fst X[i] else List.foldl mx ((↑t : Int) + 1 + Ft.de (fate L u)) (List.take i X))) ?_
        refine WpOps.nil (blockK_norm (thenK_at (Wp.text ?_)))
        refine kp 81 (.int IntKind.i64 (IntKind.wrap .i64 ((↑i : Int) + 1))) ?_
        refine kp 73 (.int IntKind.i64 (IntKind.wrap .i64 ((↑i : Int) + 1))) ?_
        refine WpOps.nil (thenK_at ?_)
        exact ⟨i + 1, by omega, by omega, View.ofP [0, 1, 2] _ _ (by decide) rfl ⟨⟨_, by kernel_rfl, ⟨rfl, rfl⟩⟩, ⟨_, by kernel_rfl, CellsOk.eq rfl (tcs_flat _)⟩, ⟨_, by kernel_rfl, ⟨rfl, rfl⟩⟩, trivial⟩ ⟨⟨by kernel_rfl, rfl⟩, ⟨by kernel_rfl, rfl⟩, ⟨by kernel_rfl, rfl⟩, ⟨by kernel_rfl, rfl⟩, ⟨congrArg (Value.int .i64) ex.symm, rfl⟩, ⟨by kernel_rfl, rfl⟩, ⟨by kernel_rfl, rfl⟩, ⟨congrArg (Value.int .i64) wi, rfl⟩, trivial⟩⟩
      · have d2 : decide ((i : Int) < (X.length : Int)) = false := decide_eq_false (by omega)
        obtain rfl : i = X.length := by omega
        have e1 : atW 0 (fate L u) t X = (X.take X.length).foldl mx ((t : Int) + 1 + (fate L u).de) := by rw [List.take_length]; rfl
        rw [e1]
        refine Wp.seq (Wp.text ?_)
        refine kp 74 (.bool false) ?_ (hop := fun _ => by_fact d2)
        refine WpOps.nil (thenK_at (Wp.seq (off' (Wp.exit (thenK_exit (thenK_exit (blockK_hit ?_)))))))
        exact ⟨rfl, View.ofP [0, 1, 2] _ _ (by decide) rfl ⟨⟨_, by kernel_rfl, ⟨rfl, rfl⟩⟩, ⟨_, by kernel_rfl, CellsOk.eq rfl (tcs_flat _)⟩, ⟨_, by kernel_rfl, ⟨rfl, rfl⟩⟩, trivial⟩ ⟨⟨by kernel_rfl, rfl⟩, ⟨by kernel_rfl, rfl⟩, ⟨by kernel_rfl, rfl⟩, ⟨by kernel_rfl, rfl⟩, ⟨by kernel_rfl, rfl⟩, trivial⟩⟩
    · have e0 : ((1 : Int) == 0) = false := rfl
      have e1 : atW 1 (fate L u) t X = (t : Int) + 1 + (fate L u).de := rfl
      rw [e1]
      refine off' (Wp.skip ?_)
      exact ⟨rfl, View.ofP [0, 1, 2] _ _ (by decide) rfl ⟨⟨_, by kernel_rfl, ⟨rfl, rfl⟩⟩, ⟨_, by kernel_rfl, CellsOk.eq rfl (tcs_flat _)⟩, ⟨_, by kernel_rfl, ⟨rfl, rfl⟩⟩, trivial⟩ ⟨⟨by kernel_rfl, rfl⟩, ⟨by kernel_rfl, rfl⟩, ⟨by kernel_rfl, rfl⟩, ⟨by kernel_rfl, rfl⟩, ⟨by kernel_rfl, rfl⟩, trivial⟩⟩
  obtain ⟨C, hC⟩ : ∃ C : Nat, (fate L u).co = C := ⟨(fate L u).co.toNat, by omega⟩
  have hC3 : C ≤ 3 := by omega
  obtain ⟨a1, a2⟩ := atW_in k (fate L u) t X ht o3 o4 hin
  rw [hC]
  generalize atW k (fate L u) t X = a at a1 a2 ⊢
  generalize unit' (fate L u) b = v
  have wc : IntKind.i64.wrap (1 + (C : Int)) = ((C + 1 : Nat) : Int) := by rw [wr _ (by omega) (by omega)]; omega
  refine Wp.seq (Wp.seq (Wp.text ?_))
  refine kp 82 (.pointer (some ⟨2, 1, none⟩)) ?_
  refine kp 83 (.int IntKind.i64 (↑C : Int)) ?_
  refine kp 84 (.int IntKind.i64 (IntKind.wrap .i64 (1 + (↑C : Int)))) ?_
  refine kp 85 (.int IntKind.i64 0) ?_
  refine WpOps.nil (thenK_at (Wp.block ?_))
  rw [wc]
  have q4 : decide ((X.length : Int) < 400) = false := decide_eq_false (by omega)
  refine Wp.loop (G := Nat) (fun i => layj [(0, .pointer (some ⟨0, 0, none⟩)), (1, .string v), (4, .int .i64 0), (6, .int .i64 a), (84, .int .i64 (C + 1 : Nat)), (85, .int .i64 i)]) (fun i => (heapO [some ⟨66, true, [.int .i64 k, FS 46 L.length 0 (fts L).toArray, .int .i64 t, .int .i64 (u + 1 : Nat), .slice (some ⟨1, p.length * 2, none⟩) X.length X.length]⟩, some (rowB (p ++ X))])) (fun i => C + 1 - i) (fun i => i ≤ C + 1) 0
    (View.ofP [0, 1] _ _ (by decide) rfl ⟨⟨_, by kernel_rfl, ⟨rfl, rfl⟩⟩, ⟨_, by kernel_rfl, CellsOk.eq rfl (tcs_flat _)⟩, trivial⟩ ⟨⟨by kernel_rfl, rfl⟩, ⟨by kernel_rfl, rfl⟩, ⟨by kernel_rfl, rfl⟩, ⟨by kernel_rfl, rfl⟩, ⟨by kernel_rfl, rfl⟩, ⟨by kernel_rfl, rfl⟩, trivial⟩) (Nat.zero_le _) ?_
  intro i hi
  by_cases hc : i < C + 1
  · have q3 : decide ((i : Int) < ((C + 1 : Nat) : Int)) = true := decide_eq_true (by omega)
    have wi : IntKind.i64.wrap ((i : Int) + 1) = ((i + 1 : Nat) : Int) := by rw [wr _ (by omega) (by omega)]; omega
    refine Wp.seq (Wp.text ?_)
    refine kp 86 (.bool true) ?_ (hop := fun _ => by_fact q3)
    refine WpOps.nil (thenK_at (Wp.seq (on' (Wp.skip (thenK_at (Wp.seq (Wp.block (Wp.seq (Wp.text ?_)))))))))
    refine kp 87 (.int IntKind.i64 (↑i : Int)) ?_
    refine kp 9 (.int IntKind.i64 (↑i : Int)) ?_
    refine WpOps.nil (thenK_at (Wp.seq (Wp.text ?_)))
    refine kp 88 (.pointer (some ⟨0, 0, none⟩)) ?_
    refine kp 89 (.pointer (some ⟨0, 0, none⟩)) ?_
    refine kp 90 (.pointer (some ⟨0, 4, none⟩)) ?_
    refine kp 91 (.slice (some (Addr.mk 1 (List.length p * 2) none)) (List.length X) (List.length X)) ?_
    refine kp 92 (.int IntKind.i64 (↑(List.length X) : Int)) ?_
    refine kp 93 (.bool false) ?_ (hop := fun _ => by_fact q4)
    refine WpOps.nil (thenK_at (off' (Wp.skip (blockK_norm (thenK_at (Wp.text ?_))))))
    refine kp 113 (.int IntKind.i64 (IntKind.wrap .i64 ((↑i : Int) + 1))) ?_
    refine kp 85 (.int IntKind.i64 (IntKind.wrap .i64 ((↑i : Int) + 1))) ?_
    refine WpOps.nil (thenK_at ?_)
    exact ⟨i + 1, by omega, by omega, View.ofP [0, 1] _ _ (by decide) rfl ⟨⟨_, by kernel_rfl, ⟨rfl, rfl⟩⟩, ⟨_, by kernel_rfl, CellsOk.eq rfl (tcs_flat _)⟩, trivial⟩ ⟨⟨by kernel_rfl, rfl⟩, ⟨by kernel_rfl, rfl⟩, ⟨by kernel_rfl, rfl⟩, ⟨by kernel_rfl, rfl⟩, ⟨by kernel_rfl, rfl⟩, ⟨congrArg (Value.int .i64) wi, rfl⟩, trivial⟩⟩
  · have q3 : decide ((i : Int) < ((C + 1 : Nat) : Int)) = false := decide_eq_false (by omega)
    refine Wp.seq (Wp.text ?_)
    refine kp 86 (.bool false) ?_ (hop := fun _ => by_fact q3)
    refine WpOps.nil (thenK_at (Wp.seq (off' (Wp.exit (thenK_exit (thenK_exit (blockK_hit (thenK_at (Wp.seq (Wp.text ?_))))))))))
    refine kp 4 (.int IntKind.i64 0) ?_
    refine WpOps.nil (thenK_at (Wp.ret ?_))
    refine endK_retn [Value.int IntKind.i64 0] (Value.int IntKind.i64 0) (by kernel_rfl) (by kernel_rfl) ?_
    exact ⟨[0, 1], by decide, rfl, BlksP.told ⟨⟨_, by kernel_rfl, ⟨rfl, rfl⟩⟩, ⟨_, by kernel_rfl, CellsOk.eq rfl (tcs_flat _)⟩, trivial⟩, .w (.un rfl rfl)⟩
theorem put13lo (k : Int) (L : List Ft) (t u : Nat) (p X : List Tr) (b : ByteArray) (hb : b.size ≤ 4000) (hu : u ≤ 1000000) (hlo : (fate L u).lo = true) :
    SCall E 13 [.pointer (some ⟨0, 0, none⟩), .string b] (heapO [some (mB k L t u (.slice (some ⟨1, p.length * 2, none⟩) X.length X.length)), some (rowB (p ++ X))]) (.int .i64 0) (heapO [some (mB k L t (u + 1 : Nat) (.slice (some ⟨1, p.length * 2, none⟩) X.length X.length)), some (rowB (p ++ X))]) := by
  refine SCall.enterO h13 rfl (of_decide_eq_true (by kernel_rfl)) rfl rfl (Nat.le_refl _) ?_
  have c0 := none40o k L t u (p.length * 2) X.length X.length (p ++ X)
  unfold mB at c0 ⊢
  have d1 : decide ((b.size : Int) > 4000) = false := decide_eq_false (by omega)
  have hfl : (rowB (p ++ X)).cells.all flat = true := tcs_flat _
  refine Wp.seq (Wp.text ?_)
  refine kp 4 (.int IntKind.i64 0) ?_
  refine WpOps.nil (thenK_at (Wp.seq (Wp.seq (Wp.text ?_))))
  refine kp 10 (.pointer (some ⟨0, 0, none⟩)) ?_
  refine cl 11 40 [Value.pointer (some ⟨0, 0, none⟩)] ?_
  refine WpCall.lent [0, 1] (c0) (by decide) ⟨⟨[Value.int IntKind.i64 k, Value.iface 46 (Value.iface (List.length L) (Value.iface 0 (Value.agg (List.toArray (fts L))))), Value.int IntKind.i64 (↑t : Int), Value.int IntKind.i64 (↑u : Int), Value.slice (some (Addr.mk 1 (List.length p * 2) none)) (List.length X) (List.length X)], (by kernel_rfl), (by kernel_rfl), (by kernel_rfl)⟩, ⟨⟨_, (by kernel_rfl), CellsOk.eq rfl (by assumption)⟩, trivial⟩⟩ (by kernel_rfl) (Value.bool false) ([Blk.mk 66 true [Value.int IntKind.i64 k, Value.iface 46 (Value.iface (List.length L) (Value.iface 0 (Value.agg (List.toArray (fts L))))), Value.int IntKind.i64 (↑t : Int), Value.int IntKind.i64 (↑u : Int), Value.slice (some (Addr.mk (List.getD [0, 1] 1 0) (List.length p * 2) none)) (List.length X) (List.length X)], Blk.mk 73 true (tcs (p ++ X))]) (.cons (by kernel_rfl) (.cons (unB_flat (by assumption)) .nil)) (by kernel_rfl) (Heap.set (Heap.set (heapO [some (Blk.mk 66 true [Value.int IntKind.i64 k, FS 46 (List.length L) 0 (List.toArray (fts L)), Value.int IntKind.i64 (↑t : Int), Value.int IntKind.i64 (↑u : Int), Value.slice (some (Addr.mk 1 (List.length p * 2) none)) (List.length X) (List.length X)]), some (rowB (p ++ X))]) 0 (some (Blk.mk 66 true [Value.int IntKind.i64 k, Value.iface 46 (Value.iface (List.length L) (Value.iface 0 (Value.agg (List.toArray (fts L))))), Value.int IntKind.i64 (↑t : Int), Value.int IntKind.i64 (↑u : Int), Value.slice (some (Addr.mk 1 (List.length p * 2) none)) (List.length X) (List.length X)]))) 1 (some (Blk.mk 73 true (tcs (p ++ X))))) (by kernel_rfl) ?_
  refine WpOps.nil (thenK_at (off' (Wp.skip (thenK_at (Wp.seq (Wp.seq (Wp.text ?_)))))))
  refine kp 12 (.string b) ?_
  refine kp 13 (.int IntKind.i64 (↑(ByteArray.size b) : Int)) ?_
  refine kp 14 (.bool false) ?_ (hop := fun _ => by_fact d1)
  refine WpOps.nil (thenK_at (off' (Wp.skip (thenK_at (Wp.seq (Wp.text ?_))))))
  refine kp 15 (.agg #[Value.bool false, Value.int .i64 0, Value.int .i64 0, Value.int .i64 (-1)]) ?_
  refine md 5 (.pointer (some ⟨2, 0, none⟩)) (Blk.mk 46 true [Value.bool false, Value.int .i64 0, Value.int .i64 0, Value.int .i64 0]) ?_
  refine ld (.tuple #[]) (2) (Blk.mk 46 true [Value.bool false, Value.int .i64 0, Value.int .i64 0, Value.int .i64 (-1)]) ?_
  refine WpOps.nil (thenK_at (Wp.seq (Wp.seq ?_)))
  refine Wp.region (by kernel_rfl) ?_
  refine kp 16 (.pointer (some ⟨0, 0, none⟩)) ?_
  refine kp 17 (.pointer (some ⟨0, 0, none⟩)) ?_
  refine kp 18 (.pointer (some ⟨0, 3, none⟩)) ?_
  refine kp 19 (.int IntKind.i64 (↑u : Int)) ?_
  refine kp 20 (.pointer (some ⟨0, 0, none⟩)) ?_
  refine kp 21 (.pointer (some ⟨0, 0, none⟩)) ?_
  refine kp 22 (.pointer (some ⟨0, 1, none⟩)) ?_
  refine kp 23 (.iface 46 (Value.iface (List.length L) (Value.iface 0 (Value.agg (List.toArray (fts L)))))) ?_
  refine kp 24 (.int IntKind.i64 (↑(List.length L) : Int)) ?_
  refine kp 25 (.bool (decide ((↑u : Int) < (↑(List.length L) : Int)))) ?_
  refine WpOps.nil (thenK_at ?_)
  refine Wp.mergeH [(0, .pointer (some ⟨0, 0, none⟩)), (1, .string b), (4, .int .i64 0), (5, .pointer (some ⟨2, 0, none⟩))] (heapO [some ⟨66, true, [.int .i64 k, FS 46 L.length 0 (fts L).toArray, .int .i64 t, .int .i64 u, .slice (some ⟨1, p.length * 2, none⟩) X.length X.length]⟩, some (rowB (p ++ X)), some ⟨46, true, [.bool (fate L u).lo, .int .i64 (fate L u).co, .int .i64 (fate L u).de, .int .i64 (fate L u).sp]⟩]) ?_ ?_
  · refine Wp.split (decide ((↑u : Int) < (↑(List.length L) : Int))) (by kernel_rfl) (fun hc => ?_) (fun hc => ?_)
    · have hul : u < L.length := by
        have := of_decide_eq_true hc
        omega
      have g1 : 0 ≤ (u : Int) ∧ (u : Int) < L.length := by omega
      have hs : cellsAt (fts L).toArray.toList ((u : Int).toNat * 4) 4 = some (fce L[u]) := fts_cells L u hul
      have hf : fate L u = L[u] := by unfold fate; rw [List.getD_eq_getElem?_getD, List.getElem?_eq_getElem hul]; rfl
      unfold fce at hs
      rw [← hf] at hs
      refine Wp.region (by kernel_rfl) ?_
      refine kp 26 (.pointer (some ⟨0, 0, none⟩)) ?_
      refine kp 27 (.pointer (some ⟨0, 0, none⟩)) ?_
      refine kp 28 (.pointer (some ⟨0, 1, none⟩)) ?_
      refine kp 29 (.iface 46 (Value.iface (List.length L) (Value.iface 0 (Value.agg (List.toArray (fts L)))))) ?_
      refine kp 30 (.pointer (some ⟨0, 0, none⟩)) ?_
      refine kp 31 (.pointer (some ⟨0, 0, none⟩)) ?_
      refine kp 32 (.pointer (some ⟨0, 3, none⟩)) ?_
      refine kp 33 (.int IntKind.i64 (↑u : Int)) ?_
      refine kp 34 (.iface 46 (Value.iface (Int.toNat (↑u : Int) * 4) (Value.agg (List.toArray (fts L))))) ?_ (hop := fun _ => o_indexI (e := 46) (size := 4) (a := (↑u : Int)) g1)
      refine kp 35 (.agg #[Value.bool (Ft.lo (fate L u)), Value.int .i64 (Ft.co (fate L u)), Value.int .i64 (Ft.de (fate L u)), Value.int .i64 (Ft.sp (fate L u))]) ?_ (hop := fun _ => o_loadIA (Int.toNat (↑u : Int) * 4) hs)
      refine ld (.tuple #[]) (2) (Blk.mk 46 true [Value.bool (Ft.lo (fate L u)), Value.int .i64 (Ft.co (fate L u)), Value.int .i64 (Ft.de (fate L u)), Value.int .i64 (Ft.sp (fate L u))]) ?_
      refine WpOps.nil ?_
      exact ⟨rfl, View.ofP [0, 1, 2] _ _ (by decide) rfl ⟨⟨_, by kernel_rfl, ⟨rfl, rfl⟩⟩, ⟨_, by kernel_rfl, CellsOk.eq rfl (tcs_flat _)⟩, ⟨_, by kernel_rfl, ⟨rfl, rfl⟩⟩, trivial⟩ ⟨⟨by kernel_rfl, rfl⟩, ⟨by kernel_rfl, rfl⟩, ⟨by kernel_rfl, rfl⟩, ⟨by kernel_rfl, rfl⟩, trivial⟩⟩
    · have hul : L.length ≤ u := by
        have := of_decide_eq_false hc
        omega
      have hf : fate L u = ⟨false, 0, 0, -1⟩ := by unfold fate; rw [List.getD_eq_getElem?_getD, List.getElem?_eq_none hul]; rfl
      refine Wp.skip ?_
      rw [hf]
      exact ⟨rfl, View.ofP [0, 1, 2] _ _ (by decide) rfl ⟨⟨_, by kernel_rfl, ⟨rfl, rfl⟩⟩, ⟨_, by kernel_rfl, CellsOk.eq rfl (tcs_flat _)⟩, ⟨_, by kernel_rfl, ⟨rfl, rfl⟩⟩, trivial⟩ ⟨⟨by kernel_rfl, rfl⟩, ⟨by kernel_rfl, rfl⟩, ⟨by kernel_rfl, rfl⟩, ⟨by kernel_rfl, rfl⟩, trivial⟩⟩
  have wu : IntKind.i64.wrap ((u : Int) + 1) = ((u + 1 : Nat) : Int) := by rw [wr _ (by omega) (by omega)]; omega
  refine Wp.seq (Wp.text ?_)
  refine kp 36 (.pointer (some ⟨0, 0, none⟩)) ?_
  refine kp 37 (.pointer (some ⟨0, 0, none⟩)) ?_
  refine kp 38 (.pointer (some ⟨0, 3, none⟩)) ?_
  refine kp 39 (.int IntKind.i64 (↑u : Int)) ?_
  refine kp 40 (.int IntKind.i64 (IntKind.wrap .i64 ((↑u : Int) + 1))) ?_
  refine kp 41 (.pointer (some ⟨0, 0, none⟩)) ?_
  refine kp 42 (.pointer (some ⟨0, 3, none⟩)) ?_
  refine ld (.tuple #[]) (0) (Blk.mk 66 true [Value.int .i64 k, Value.iface 46 (Value.iface (List.length L) (Value.iface 0 (Value.agg (List.toArray (fts L))))), Value.int .i64 (↑t : Int), Value.int .i64 (IntKind.wrap .i64 ((↑u : Int) + 1)), Value.slice (some (Addr.mk 1 (List.length p * 2) none)) (List.length X) (List.length X)]) ?_
  refine WpOps.nil (thenK_at (Wp.seq (Wp.seq (Wp.text ?_))))
  refine kp 43 (.pointer (some ⟨2, 0, none⟩)) ?_
  refine kp 44 (.bool true) ?_ (hop := fun _ => by_fact hlo)
  refine WpOps.nil (thenK_at (on' (Wp.seq (Wp.text ?_))))
  refine kp 4 (.int IntKind.i64 0) ?_
  refine WpOps.nil (thenK_at (Wp.ret (thenK_ret ?_)))
  refine endK_retn [Value.int IntKind.i64 0] (Value.int IntKind.i64 0) (by kernel_rfl) (by kernel_rfl) ?_
  rw [wu]
  exact ⟨[0, 1], by decide, rfl, BlksP.told ⟨⟨_, by kernel_rfl, ⟨rfl, rfl⟩⟩, ⟨_, by kernel_rfl, CellsOk.eq rfl (tcs_flat _)⟩, trivial⟩, .w (.un rfl rfl)⟩
theorem put13ln (k : Int) (L : List Ft) (t u : Nat) (b : ByteArray) (hb : b.size ≤ 4000) (hu : u ≤ 1000000) (hlo : (fate L u).lo = true) :
    SCall E 13 [.pointer (some ⟨0, 0, none⟩), .string b] (heapO [some (mB k L t u (.slice none 0 0))]) (.int .i64 0) (heapO [some (mB k L t (u + 1 : Nat) (.slice none 0 0))]) := by
  refine SCall.enterO h13 rfl (of_decide_eq_true (by kernel_rfl)) rfl rfl (Nat.le_refl _) ?_
  have c0 := none40n k L t u
  unfold mB at c0 ⊢
  have d1 : decide ((b.size : Int) > 4000) = false := decide_eq_false (by omega)
  refine Wp.seq (Wp.text ?_)
  refine kp 4 (.int IntKind.i64 0) ?_
  refine WpOps.nil (thenK_at (Wp.seq (Wp.seq (Wp.text ?_))))
  refine kp 10 (.pointer (some ⟨0, 0, none⟩)) ?_
  refine cl 11 40 [Value.pointer (some ⟨0, 0, none⟩)] ?_
  refine WpCall.lent [0] (c0) (by decide) ⟨⟨[Value.int IntKind.i64 k, Value.iface 46 (Value.iface (List.length L) (Value.iface 0 (Value.agg (List.toArray (fts L))))), Value.int IntKind.i64 (↑t : Int), Value.int IntKind.i64 (↑u : Int), Value.slice none 0 0], (by kernel_rfl), (by kernel_rfl), (by kernel_rfl)⟩, trivial⟩ (by kernel_rfl) (Value.bool false) ([Blk.mk 66 true [Value.int IntKind.i64 k, Value.iface 46 (Value.iface (List.length L) (Value.iface 0 (Value.agg (List.toArray (fts L))))), Value.int IntKind.i64 (↑t : Int), Value.int IntKind.i64 (↑u : Int), Value.slice none 0 0]]) (.cons (by kernel_rfl) .nil) (by kernel_rfl) (Heap.set (heapO [some (Blk.mk 66 true [Value.int IntKind.i64 k, FS 46 (List.length L) 0 (List.toArray (fts L)), Value.int IntKind.i64 (↑t : Int), Value.int IntKind.i64 (↑u : Int), Value.slice none 0 0])]) 0 (some (Blk.mk 66 true [Value.int IntKind.i64 k, Value.iface 46 (Value.iface (List.length L) (Value.iface 0 (Value.agg (List.toArray (fts L))))), Value.int IntKind.i64 (↑t : Int), Value.int IntKind.i64 (↑u : Int), Value.slice none 0 0]))) (by kernel_rfl) ?_
  refine WpOps.nil (thenK_at (off' (Wp.skip (thenK_at (Wp.seq (Wp.seq (Wp.text ?_)))))))
  refine kp 12 (.string b) ?_
  refine kp 13 (.int IntKind.i64 (↑(ByteArray.size b) : Int)) ?_
  refine kp 14 (.bool false) ?_ (hop := fun _ => by_fact d1)
  refine WpOps.nil (thenK_at (off' (Wp.skip (thenK_at (Wp.seq (Wp.text ?_))))))
  refine kp 15 (.agg #[Value.bool false, Value.int .i64 0, Value.int .i64 0, Value.int .i64 (-1)]) ?_
  refine md 5 (.pointer (some ⟨1, 0, none⟩)) (Blk.mk 46 true [Value.bool false, Value.int .i64 0, Value.int .i64 0, Value.int .i64 0]) ?_
  refine ld (.tuple #[]) (1) (Blk.mk 46 true [Value.bool false, Value.int .i64 0, Value.int .i64 0, Value.int .i64 (-1)]) ?_
  refine WpOps.nil (thenK_at (Wp.seq (Wp.seq ?_)))
  refine Wp.region (by kernel_rfl) ?_
  refine kp 16 (.pointer (some ⟨0, 0, none⟩)) ?_
  refine kp 17 (.pointer (some ⟨0, 0, none⟩)) ?_
  refine kp 18 (.pointer (some ⟨0, 3, none⟩)) ?_
  refine kp 19 (.int IntKind.i64 (↑u : Int)) ?_
  refine kp 20 (.pointer (some ⟨0, 0, none⟩)) ?_
  refine kp 21 (.pointer (some ⟨0, 0, none⟩)) ?_
  refine kp 22 (.pointer (some ⟨0, 1, none⟩)) ?_
  refine kp 23 (.iface 46 (Value.iface (List.length L) (Value.iface 0 (Value.agg (List.toArray (fts L)))))) ?_
  refine kp 24 (.int IntKind.i64 (↑(List.length L) : Int)) ?_
  refine kp 25 (.bool (decide ((↑u : Int) < (↑(List.length L) : Int)))) ?_
  refine WpOps.nil (thenK_at ?_)
  refine Wp.mergeH [(0, .pointer (some ⟨0, 0, none⟩)), (1, .string b), (4, .int .i64 0), (5, .pointer (some ⟨1, 0, none⟩))] (heapO [some ⟨66, true, [.int .i64 k, FS 46 L.length 0 (fts L).toArray, .int .i64 t, .int .i64 u, .slice none 0 0]⟩, some ⟨46, true, [.bool (fate L u).lo, .int .i64 (fate L u).co, .int .i64 (fate L u).de, .int .i64 (fate L u).sp]⟩]) ?_ ?_
  · refine Wp.split (decide ((↑u : Int) < (↑(List.length L) : Int))) (by kernel_rfl) (fun hc => ?_) (fun hc => ?_)
    · have hul : u < L.length := by
        have := of_decide_eq_true hc
        omega
      have g1 : 0 ≤ (u : Int) ∧ (u : Int) < L.length := by omega
      have hs : cellsAt (fts L).toArray.toList ((u : Int).toNat * 4) 4 = some (fce L[u]) := fts_cells L u hul
      have hf : fate L u = L[u] := by unfold fate; rw [List.getD_eq_getElem?_getD, List.getElem?_eq_getElem hul]; rfl
      unfold fce at hs
      rw [← hf] at hs
      refine Wp.region (by kernel_rfl) ?_
      refine kp 26 (.pointer (some ⟨0, 0, none⟩)) ?_
      refine kp 27 (.pointer (some ⟨0, 0, none⟩)) ?_
      refine kp 28 (.pointer (some ⟨0, 1, none⟩)) ?_
      refine kp 29 (.iface 46 (Value.iface (List.length L) (Value.iface 0 (Value.agg (List.toArray (fts L)))))) ?_
      refine kp 30 (.pointer (some ⟨0, 0, none⟩)) ?_
      refine kp 31 (.pointer (some ⟨0, 0, none⟩)) ?_
      refine kp 32 (.pointer (some ⟨0, 3, none⟩)) ?_
      refine kp 33 (.int IntKind.i64 (↑u : Int)) ?_
      refine kp 34 (.iface 46 (Value.iface (Int.toNat (↑u : Int) * 4) (Value.agg (List.toArray (fts L))))) ?_ (hop := fun _ => o_indexI (e := 46) (size := 4) (a := (↑u : Int)) g1)
      refine kp 35 (.agg #[Value.bool (Ft.lo (fate L u)), Value.int .i64 (Ft.co (fate L u)), Value.int .i64 (Ft.de (fate L u)), Value.int .i64 (Ft.sp (fate L u))]) ?_ (hop := fun _ => o_loadIA (Int.toNat (↑u : Int) * 4) hs)
      refine ld (.tuple #[]) (1) (Blk.mk 46 true [Value.bool (Ft.lo (fate L u)), Value.int .i64 (Ft.co (fate L u)), Value.int .i64 (Ft.de (fate L u)), Value.int .i64 (Ft.sp (fate L u))]) ?_
      refine WpOps.nil ?_
      exact ⟨rfl, View.ofP [0, 1] _ _ (by decide) rfl ⟨⟨_, by kernel_rfl, ⟨rfl, rfl⟩⟩, ⟨_, by kernel_rfl, ⟨rfl, rfl⟩⟩, trivial⟩ ⟨⟨by kernel_rfl, rfl⟩, ⟨by kernel_rfl, rfl⟩, ⟨by kernel_rfl, rfl⟩, ⟨by kernel_rfl, rfl⟩, trivial⟩⟩
    · have hul : L.length ≤ u := by
        have := of_decide_eq_false hc
        omega
      have hf : fate L u = ⟨false, 0, 0, -1⟩ := by unfold fate; rw [List.getD_eq_getElem?_getD, List.getElem?_eq_none hul]; rfl
      refine Wp.skip ?_
      rw [hf]
      exact ⟨rfl, View.ofP [0, 1] _ _ (by decide) rfl ⟨⟨_, by kernel_rfl, ⟨rfl, rfl⟩⟩, ⟨_, by kernel_rfl, ⟨rfl, rfl⟩⟩, trivial⟩ ⟨⟨by kernel_rfl, rfl⟩, ⟨by kernel_rfl, rfl⟩, ⟨by kernel_rfl, rfl⟩, ⟨by kernel_rfl, rfl⟩, trivial⟩⟩
  have wu : IntKind.i64.wrap ((u : Int) + 1) = ((u + 1 : Nat) : Int) := by rw [wr _ (by omega) (by omega)]; omega
  refine Wp.seq (Wp.text ?_)
  refine kp 36 (.pointer (some ⟨0, 0, none⟩)) ?_
  refine kp 37 (.pointer (some ⟨0, 0, none⟩)) ?_
  refine kp 38 (.pointer (some ⟨0, 3, none⟩)) ?_
  refine kp 39 (.int IntKind.i64 (↑u : Int)) ?_
  refine kp 40 (.int IntKind.i64 (IntKind.wrap .i64 ((↑u : Int) + 1))) ?_
  refine kp 41 (.pointer (some ⟨0, 0, none⟩)) ?_
  refine kp 42 (.pointer (some ⟨0, 3, none⟩)) ?_
  refine ld (.tuple #[]) (0) (Blk.mk 66 true [Value.int .i64 k, Value.iface 46 (Value.iface (List.length L) (Value.iface 0 (Value.agg (List.toArray (fts L))))), Value.int .i64 (↑t : Int), Value.int .i64 (IntKind.wrap .i64 ((↑u : Int) + 1)), Value.slice none 0 0]) ?_
  refine WpOps.nil (thenK_at (Wp.seq (Wp.seq (Wp.text ?_))))
  refine kp 43 (.pointer (some ⟨1, 0, none⟩)) ?_
  refine kp 44 (.bool true) ?_ (hop := fun _ => by_fact hlo)
  refine WpOps.nil (thenK_at (on' (Wp.seq (Wp.text ?_))))
  refine kp 4 (.int IntKind.i64 0) ?_
  refine WpOps.nil (thenK_at (Wp.ret (thenK_ret ?_)))
  refine endK_retn [Value.int IntKind.i64 0] (Value.int IntKind.i64 0) (by kernel_rfl) (by kernel_rfl) ?_
  rw [wu]
  exact ⟨[0], by decide, rfl, BlksP.told ⟨⟨_, by kernel_rfl, ⟨rfl, rfl⟩⟩, trivial⟩, .w (.un rfl rfl)⟩
end Go.Proofs.Ytdkmdpklojeepaa.D
