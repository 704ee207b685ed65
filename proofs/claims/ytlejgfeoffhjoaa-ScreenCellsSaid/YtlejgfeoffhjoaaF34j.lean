/- The law ScreenCells: an update changes only what it may. -/
import Derived.Test.YtlejgfeoffhjoaaFwLem
import Derived.Test.YtlejgfeoffhjoaaF34i
namespace Go.Proofs.Ytlejgfeoffhjoaa.D
open Go.Fw Go.RowKit

/-- Is a cell another one? -/
def dif (r m r2 m2 : List ByteArray) (a c : Nat) : Bool := cond (((byteAt (rowAt r2 a) c).toNat : Int) != ((byteAt (rowAt r a) c).toNat : Int)) true (((byteAt (rowAt m2 a) c).toNat : Int) != ((byteAt (rowAt m a) c).toNat : Int))
theorem cntC_le (h : Nat → Nat → Bool) (i : Nat) : ∀ k, cntC h i k ≤ k
  | 0 => Nat.le_refl _
  | k + 1 => by have := cntC_le h i k; rw [cntC]; split <;> omega
theorem cnt_le (h : Nat → Nat → Bool) (C : Nat) : ∀ k, cnt h C k ≤ k * C
  | 0 => by simp [cnt]
  | k + 1 => by have := cnt_le h C k; have := cntC_le h k C; rw [cnt, Nat.succ_mul]; omega
/-- What is asked in the end. -/
def Ends (N C : Nat) (op row col : Int) (t : ByteArray) (j i2 j2 i : Int) : Prop :=
  ((op = 0 ∨ op = 4) → N = 0) ∧ (op = 1 → N ≤ t.size) ∧ (op = 2 → (N : Int) ≤ C - j ∧ i2 = i ∧ j2 = j) ∧ (op = 6 → (N : Int) ≤ row * col ∧ i2 = i ∧ j2 = j)
theorem f4 : E.funcs 4 = some Try.f4 := by kernel_rfl
set_option maxHeartbeats 8000000 in
theorem law4_ok (x y : Nat) (r m r2 m2 : List ByteArray) (i j i2 j2 op row col n : Int) (t : ByteArray) 
    (hA : Fun E 9 [dv x y r m i j, uv op row col n t] (.tuple #[dv 0 0 r2 m2 i2 j2, .int .i64 0])) (hg : Good r m i j) (hg2 : Good r2 m2 i2 j2) (hf : Fits r.length (rowAt r 0).size op row col n t)
    (hl : r2.length = r.length) (hz : (rowAt r2 0).size = (rowAt r 0).size) (he : Ends (cnt (dif r m r2 m2) (rowAt r 0).size r.length) (rowAt r 0).size op row col t j i2 j2 i) : Fun E 4 [dv x y r m i j, uv op row col n t] (.bool true) := by
  refine Fun.of f4 rfl (of_decide_eq_true (by kernel_rfl)) rfl ?_
  obtain ⟨⟨g1, g2, g3, g4, g5⟩, gr⟩ := hg
  obtain ⟨⟨k1, k2, k3, k4, k5⟩, kr⟩ := id hg2
  have c2 := valid15 0 0 r2 m2 i2 j2 (fun k => by
    rcases Nat.lt_or_ge k r2.length with h | h
    · rw [(kr k h).1]; omega
    · rw [rowAt, List.getD_eq_getElem?_getD, List.getElem?_eq_none h]; decide) (fun k => by
    rcases Nat.lt_or_ge k r2.length with h | h
    · rw [(kr k h).2.1]; omega
    · rw [rowAt, List.getD_eq_getElem?_getD, List.getElem?_eq_none (by omega)]; decide)
  rw [decide_eq_true hg2] at c2
  have c3 := sane18
  have d1 : ((r2.length : Int) != (r.length : Int)) = false := by rw [hl]; simp
  have d2 : (((rowAt r2 0).size : Int) != ((rowAt r 0).size : Int)) = false := by rw [hz]; simp
  have l1 : 0 ≤ (0 : Int) ∧ (0 : Int) < r.length := by omega
  have l2 : 0 ≤ (0 : Int) ∧ (0 : Int) < r2.length := by omega
  have v1 := strs_0 r (by omega)
  have v2 := strs_0 r2 (by omega)
  unfold dv uv strs at hA ⊢
  unfold dv strs at c2
  refine Wp.seq ?_
  refine Wp.text ?_
  refine WpOps.made 2 (Value.pointer (some (Addr.mk 0 0 none))) (Blk.mk 24 true [Value.iface 9 (Value.iface (List.length r) (Value.iface x (Value.agg (List.toArray (List.map Value.string r))))), Value.iface 9 (Value.iface (List.length m) (Value.iface y (Value.agg (List.toArray (List.map Value.string m))))), Value.int IntKind.i64 i, Value.int IntKind.i64 j]) (by kernel_rfl) (by kernel_rfl) (by kernel_rfl) ?_ (fun cf => (by kernel_rfl))
  refine WpOps.made 3 (Value.pointer (some (Addr.mk 1 0 none))) (Blk.mk 26 true [Value.int IntKind.i64 op, Value.int IntKind.i64 row, Value.int IntKind.i64 col, Value.int IntKind.i64 n, Value.string t]) (by kernel_rfl) (by kernel_rfl) (by kernel_rfl) ?_ (fun cf => (by kernel_rfl))
  refine WpOps.keep 4 (Value.bool false) (by kernel_rfl) (by kernel_rfl) (by kernel_rfl) ?_ (fun cf => (by kernel_rfl))
  refine WpOps.nil ?_
  refine thenK_at ?_
  refine Wp.seq ?_
  refine Wp.text ?_
  refine WpOps.keep 11 (Value.agg #[Value.iface 9 (Value.iface (List.length r) (Value.iface x (Value.agg (List.toArray (List.map Value.string r))))), Value.iface 9 (Value.iface (List.length m) (Value.iface y (Value.agg (List.toArray (List.map Value.string m))))), Value.int IntKind.i64 i, Value.int IntKind.i64 j]) (by kernel_rfl) (by kernel_rfl) (by kernel_rfl) ?_ (fun cf => (by kernel_rfl))
  refine WpOps.keep 12 (Value.agg #[Value.int IntKind.i64 op, Value.int IntKind.i64 row, Value.int IntKind.i64 col, Value.int IntKind.i64 n, Value.string t]) (by kernel_rfl) (by kernel_rfl) (by kernel_rfl) ?_ (fun cf => (by kernel_rfl))
  refine WpOps.framed 13 9 [Value.agg #[Value.iface 9 (Value.iface (List.length r) (Value.iface x (Value.agg (List.toArray (List.map Value.string r))))), Value.iface 9 (Value.iface (List.length m) (Value.iface y (Value.agg (List.toArray (List.map Value.string m))))), Value.int IntKind.i64 i, Value.int IntKind.i64 j], Value.agg #[Value.int IntKind.i64 op, Value.int IntKind.i64 row, Value.int IntKind.i64 col, Value.int IntKind.i64 n, Value.string t]] (by kernel_rfl) (by kernel_rfl) (by kernel_rfl) (by kernel_rfl) (by kernel_rfl) (fun cf => (by kernel_rfl)) ?_
  refine WpFun.of (hA) ?_
  refine WpOps.keep 10 (Value.tuple #[Value.agg #[FS 9 (List.length r2) 0 (List.toArray (List.map Value.string r2)), FS 9 (List.length m2) 0 (List.toArray (List.map Value.string m2)), Value.int IntKind.i64 i2, Value.int IntKind.i64 j2], Value.int IntKind.i64 0]) (by kernel_rfl) (by kernel_rfl) (by kernel_rfl) ?_ (fun cf => (by kernel_rfl))
  refine WpOps.keep 14 (Value.agg #[FS 9 (List.length r2) 0 (List.toArray (List.map Value.string r2)), FS 9 (List.length m2) 0 (List.toArray (List.map Value.string m2)), Value.int IntKind.i64 i2, Value.int IntKind.i64 j2]) (by kernel_rfl) (by kernel_rfl) (by kernel_rfl) ?_ (fun cf => (by kernel_rfl))
  refine WpOps.keep 15 (Value.int IntKind.i64 0) (by kernel_rfl) (by kernel_rfl) (by kernel_rfl) ?_ (fun cf => (by kernel_rfl))
  refine WpOps.made 5 (Value.pointer (some (Addr.mk 2 0 none))) (Blk.mk 24 true [Value.slice none 0 0, Value.slice none 0 0, Value.int IntKind.i64 0, Value.int IntKind.i64 0]) (by kernel_rfl) (by kernel_rfl) (by kernel_rfl) ?_ (fun cf => (by kernel_rfl))
  refine WpOps.laid (Value.tuple #[]) (2) (Blk.mk 24 true [Value.iface 9 (Value.iface (List.length r2) (Value.iface 0 (Value.agg (List.toArray (List.map Value.string r2))))), Value.iface 9 (Value.iface (List.length m2) (Value.iface 0 (Value.agg (List.toArray (List.map Value.string m2))))), Value.int IntKind.i64 i2, Value.int IntKind.i64 j2]) (by kernel_rfl) (by kernel_rfl) (by kernel_rfl) ?_ (fun cf => (by kernel_rfl))
  refine WpOps.keep 6 (Value.int IntKind.i64 0) (by kernel_rfl) (by kernel_rfl) (by kernel_rfl) ?_ (fun cf => (by kernel_rfl))
  refine WpOps.nil ?_
  refine thenK_at ?_
  refine Wp.seq ?_
  refine Wp.seq ?_
  refine Wp.text ?_
  refine WpOps.keep 16 (Value.int IntKind.i64 0) (by kernel_rfl) (by kernel_rfl) (by kernel_rfl) ?_ (fun cf => (by kernel_rfl))
  refine WpOps.keep 17 (Value.bool false) (by kernel_rfl) (by kernel_rfl) (by kernel_rfl) ?_ (fun cf => (by kernel_rfl))
  refine WpOps.nil ?_
  refine thenK_at ?_
  refine Wp.off (by kernel_rfl) ?_
  refine Wp.skip ?_
  refine thenK_at ?_
  refine Wp.seq ?_
  refine Wp.seq ?_
  refine Wp.region (by kernel_rfl) ?_
  refine WpOps.keep 19 (Value.agg #[Value.iface 9 (Value.iface (List.length r2) (Value.iface 0 (Value.agg (List.toArray (List.map Value.string r2))))), Value.iface 9 (Value.iface (List.length m2) (Value.iface 0 (Value.agg (List.toArray (List.map Value.string m2))))), Value.int IntKind.i64 i2, Value.int IntKind.i64 j2]) (by kernel_rfl) (by kernel_rfl) (by kernel_rfl) ?_ (fun cf => (by kernel_rfl))
  refine WpOps.framed 20 15 [Value.agg #[Value.iface 9 (Value.iface (List.length r2) (Value.iface 0 (Value.agg (List.toArray (List.map Value.string r2))))), Value.iface 9 (Value.iface (List.length m2) (Value.iface 0 (Value.agg (List.toArray (List.map Value.string m2))))), Value.int IntKind.i64 i2, Value.int IntKind.i64 j2]] (by kernel_rfl) (by kernel_rfl) (by kernel_rfl) (by kernel_rfl) (by kernel_rfl) (fun cf => (by kernel_rfl)) ?_
  refine WpFun.of (c2) ?_
  refine WpOps.keep 21 (Value.bool false) (by kernel_rfl) (by kernel_rfl) (by kernel_rfl) ?_ (fun cf => (by kernel_rfl))
  refine WpOps.keep 22 (Value.bool false) (by kernel_rfl) (by kernel_rfl) (by kernel_rfl) ?_ (fun cf => (by kernel_rfl))
  refine WpOps.keep 23 (Value.pointer (some (Addr.mk 2 0 none))) (by kernel_rfl) (by kernel_rfl) (by kernel_rfl) ?_ (fun cf => (by kernel_rfl))
  refine WpOps.keep 24 (Value.iface 9 (Value.iface (List.length r2) (Value.iface 0 (Value.agg (List.toArray (List.map Value.string r2)))))) (by kernel_rfl) (by kernel_rfl) (by kernel_rfl) ?_ (fun cf => (by kernel_rfl))
  refine WpOps.keep 25 (Value.int IntKind.i64 (↑(List.length r2) : Int)) (by kernel_rfl) (by kernel_rfl) (by kernel_rfl) ?_ (fun cf => (by kernel_rfl))
  refine WpOps.keep 26 (Value.pointer (some (Addr.mk 0 0 none))) (by kernel_rfl) (by kernel_rfl) (by kernel_rfl) ?_ (fun cf => (by kernel_rfl))
  refine WpOps.keep 27 (Value.iface 9 (Value.iface (List.length r) (Value.iface x (Value.agg (List.toArray (List.map Value.string r)))))) (by kernel_rfl) (by kernel_rfl) (by kernel_rfl) ?_ (fun cf => (by kernel_rfl))
  refine WpOps.keep 28 (Value.int IntKind.i64 (↑(List.length r) : Int)) (by kernel_rfl) (by kernel_rfl) (by kernel_rfl) ?_ (fun cf => (by kernel_rfl))
  refine WpOps.keep 29 (Value.bool false) (by kernel_rfl) (by kernel_rfl) (by kernel_rfl) ?_ (fun cf => by_fact d1 ((by kernel_rfl)))
  refine WpOps.keep 30 (Value.bool false) (by kernel_rfl) (by kernel_rfl) (by kernel_rfl) ?_ (fun cf => (by kernel_rfl))
  refine WpOps.keep 31 (Value.bool false) (by kernel_rfl) (by kernel_rfl) (by kernel_rfl) ?_ (fun cf => (by kernel_rfl))
  refine WpOps.keep 32 (Value.pointer (some (Addr.mk 2 0 none))) (by kernel_rfl) (by kernel_rfl) (by kernel_rfl) ?_ (fun cf => (by kernel_rfl))
  refine WpOps.keep 33 (Value.iface 9 (Value.iface (List.length r2) (Value.iface 0 (Value.agg (List.toArray (List.map Value.string r2)))))) (by kernel_rfl) (by kernel_rfl) (by kernel_rfl) ?_ (fun cf => (by kernel_rfl))
  refine WpOps.keep 34 (Value.iface 9 (Value.iface 0 (Value.agg (List.toArray (List.map Value.string r2))))) (by kernel_rfl) (by kernel_rfl) (by kernel_rfl) ?_ (fun cf => o_indexI (e := 9) (size := 1) (a := 0) l2 (by kernel_rfl) (by kernel_rfl) (by kernel_rfl) (by kernel_rfl))
  refine WpOps.keep 35 (Value.string (rowAt r2 0)) (by kernel_rfl) (by kernel_rfl) (by kernel_rfl) ?_ (fun cf => o_loadI1 (0) v2 (by kernel_rfl) (by kernel_rfl))
  refine WpOps.keep 36 (Value.int IntKind.i64 (↑(ByteArray.size (rowAt r2 0)) : Int)) (by kernel_rfl) (by kernel_rfl) (by kernel_rfl) ?_ (fun cf => (by kernel_rfl))
  refine WpOps.keep 37 (Value.pointer (some (Addr.mk 0 0 none))) (by kernel_rfl) (by kernel_rfl) (by kernel_rfl) ?_ (fun cf => (by kernel_rfl))
  refine WpOps.keep 38 (Value.iface 9 (Value.iface (List.length r) (Value.iface x (Value.agg (List.toArray (List.map Value.string r)))))) (by kernel_rfl) (by kernel_rfl) (by kernel_rfl) ?_ (fun cf => (by kernel_rfl))
  refine WpOps.keep 39 (Value.iface 9 (Value.iface 0 (Value.agg (List.toArray (List.map Value.string r))))) (by kernel_rfl) (by kernel_rfl) (by kernel_rfl) ?_ (fun cf => o_indexI (e := 9) (size := 1) (a := 0) l1 (by kernel_rfl) (by kernel_rfl) (by kernel_rfl) (by kernel_rfl))
  refine WpOps.keep 40 (Value.string (rowAt r 0)) (by kernel_rfl) (by kernel_rfl) (by kernel_rfl) ?_ (fun cf => o_loadI1 (0) v1 (by kernel_rfl) (by kernel_rfl))
  refine WpOps.keep 41 (Value.int IntKind.i64 (↑(ByteArray.size (rowAt r 0)) : Int)) (by kernel_rfl) (by kernel_rfl) (by kernel_rfl) ?_ (fun cf => (by kernel_rfl))
  refine WpOps.keep 42 (Value.bool false) (by kernel_rfl) (by kernel_rfl) (by kernel_rfl) ?_ (fun cf => by_fact d2 ((by kernel_rfl)))
  refine WpOps.keep 43 (Value.bool false) (by kernel_rfl) (by kernel_rfl) (by kernel_rfl) ?_ (fun cf => (by kernel_rfl))
  refine WpOps.nil ?_
  refine thenK_at ?_
  refine Wp.off (by kernel_rfl) ?_
  refine Wp.skip ?_
  refine thenK_at ?_
  refine Wp.seq ?_
  refine Wp.text ?_
  refine WpOps.keep 7 (Value.int IntKind.i64 0) (by kernel_rfl) (by kernel_rfl) (by kernel_rfl) ?_ (fun cf => (by kernel_rfl))
  refine WpOps.nil ?_
  refine thenK_at ?_
  refine Wp.seq ?_
  refine Wp.seq ?_
  refine Wp.text ?_
  refine WpOps.keep 8 (Value.int IntKind.i64 0) (by kernel_rfl) (by kernel_rfl) (by kernel_rfl) ?_ (fun cf => (by kernel_rfl))
  refine WpOps.nil ?_
  refine thenK_at ?_
  refine Wp.block ?_
  have hcl := cnt_le (dif r m r2 m2) (rowAt r 0).size
  refine Wp.loop (G := Nat) (fun k => layj [(2, .pointer (some ⟨0, 0, none⟩)), (3, .pointer (some ⟨1, 0, none⟩)), (5, .pointer (some ⟨2, 0, none⟩)), (7, .int .i64 (cnt (dif r m r2 m2) (rowAt r 0).size k : Nat)), (8, .int .i64 k)]) (fun _ => heapOf [⟨24, true, [strs x r, strs y m, .int .i64 i, .int .i64 j]⟩, ⟨26, true, [.int .i64 op, .int .i64 row, .int .i64 col, .int .i64 n, .string t]⟩, ⟨24, true, [strs 0 r2, strs 0 m2, .int .i64 i2, .int .i64 j2]⟩]) (fun k => r.length - k) (fun k => k ≤ r.length) 0
    (View.of [0, 1, 2] [⟨24, true, [strs x r, strs y m, .int .i64 i, .int .i64 j]⟩, ⟨26, true, [.int .i64 op, .int .i64 row, .int .i64 col, .int .i64 n, .string t]⟩, ⟨24, true, [strs 0 r2, strs 0 m2, .int .i64 i2, .int .i64 j2]⟩] _ (by decide) rfl ⟨⟨_, by kernel_rfl, CellsOk.eq rfl rfl⟩, ⟨_, by kernel_rfl, CellsOk.eq rfl rfl⟩, ⟨_, by kernel_rfl, CellsOk.eq rfl rfl⟩, trivial⟩ ⟨⟨by kernel_rfl, rfl⟩, ⟨by kernel_rfl, rfl⟩, ⟨by kernel_rfl, rfl⟩, ⟨by kernel_rfl, rfl⟩, ⟨by kernel_rfl, rfl⟩, trivial⟩) (Nat.zero_le _) ?_
  intro k hk
  unfold strs
  refine Wp.seq ?_
  refine Wp.seq ?_
  refine Wp.text ?_
  refine WpOps.keep 44 (Value.int IntKind.i64 (↑k : Int)) (by kernel_rfl) (by kernel_rfl) (by kernel_rfl) ?_ (fun cf => (by kernel_rfl))
  refine WpOps.keep 45 (Value.pointer (some (Addr.mk 0 0 none))) (by kernel_rfl) (by kernel_rfl) (by kernel_rfl) ?_ (fun cf => (by kernel_rfl))
  refine WpOps.keep 46 (Value.iface 9 (Value.iface (List.length r) (Value.iface x (Value.agg (List.toArray (List.map Value.string r)))))) (by kernel_rfl) (by kernel_rfl) (by kernel_rfl) ?_ (fun cf => (by kernel_rfl))
  refine WpOps.keep 47 (Value.int IntKind.i64 (↑(List.length r) : Int)) (by kernel_rfl) (by kernel_rfl) (by kernel_rfl) ?_ (fun cf => (by kernel_rfl))
  refine WpOps.keep 48 (Value.bool (decide ((↑k : Int) < (↑(List.length r) : Int)))) (by kernel_rfl) (by kernel_rfl) (by kernel_rfl) ?_ (fun cf => (by kernel_rfl))
  refine WpOps.nil ?_
  refine thenK_at ?_
  refine Wp.split (decide ((↑k : Int) < (↑(List.length r) : Int))) (by kernel_rfl) (fun hc => ?_) (fun hc => ?_)
  · have hlt : (k : Int) < r.length := of_decide_eq_true hc
    have l3 : 0 ≤ (k : Int) ∧ (k : Int) < r.length := ⟨Int.natCast_nonneg _, hlt⟩
    have l4 : 0 ≤ (k : Int) ∧ (k : Int) < m.length := by omega
    have l5 : 0 ≤ (k : Int) ∧ (k : Int) < r2.length := by omega
    have l6 : 0 ≤ (k : Int) ∧ (k : Int) < m2.length := by omega
    have v3 := strs_at r k (by omega)
    have v4 := strs_at m k (by omega)
    have v5 := strs_at r2 k (by omega)
    have v6 := strs_at m2 k (by omega)
    have z3 := (gr k (by omega)).1
    have z4 := (gr k (by omega)).2.1
    have z5 := (kr k (by omega)).1
    have z6 := (kr k (by omega)).2.1
    refine Wp.skip ?_
    refine thenK_at ?_
    refine Wp.seq ?_
    refine Wp.block ?_
    refine Wp.seq ?_
    refine Wp.text ?_
    refine WpOps.keep 9 (Value.int IntKind.i64 0) (by kernel_rfl) (by kernel_rfl) (by kernel_rfl) ?_ (fun cf => (by kernel_rfl))
    refine WpOps.nil ?_
    refine thenK_at ?_
    refine Wp.block ?_
    refine Wp.loop (G := Nat) (fun q => layj [(2, .pointer (some ⟨0, 0, none⟩)), (3, .pointer (some ⟨1, 0, none⟩)), (5, .pointer (some ⟨2, 0, none⟩)), (7, .int .i64 (cnt (dif r m r2 m2) (rowAt r 0).size k + cntC (dif r m r2 m2) k q : Nat)), (8, .int .i64 k), (9, .int .i64 q)]) (fun _ => heapOf [⟨24, true, [strs x r, strs y m, .int .i64 i, .int .i64 j]⟩, ⟨26, true, [.int .i64 op, .int .i64 row, .int .i64 col, .int .i64 n, .string t]⟩, ⟨24, true, [strs 0 r2, strs 0 m2, .int .i64 i2, .int .i64 j2]⟩]) (fun q => (rowAt r 0).size - q) (fun q => q ≤ (rowAt r 0).size) 0
      (View.of [0, 1, 2] [⟨24, true, [strs x r, strs y m, .int .i64 i, .int .i64 j]⟩, ⟨26, true, [.int .i64 op, .int .i64 row, .int .i64 col, .int .i64 n, .string t]⟩, ⟨24, true, [strs 0 r2, strs 0 m2, .int .i64 i2, .int .i64 j2]⟩] _ (by decide) rfl ⟨⟨_, by kernel_rfl, CellsOk.eq rfl rfl⟩, ⟨_, by kernel_rfl, CellsOk.eq rfl rfl⟩, ⟨_, by kernel_rfl, CellsOk.eq rfl rfl⟩, trivial⟩ ⟨⟨by kernel_rfl, rfl⟩, ⟨by kernel_rfl, rfl⟩, ⟨by kernel_rfl, rfl⟩, ⟨by kernel_rfl, rfl⟩, ⟨by kernel_rfl, rfl⟩, ⟨by kernel_rfl, rfl⟩, trivial⟩) (Nat.zero_le _) ?_
    intro q hq
    unfold strs
    refine Wp.seq ?_
    refine Wp.seq ?_
    refine Wp.text ?_
    refine WpOps.keep 51 (Value.int IntKind.i64 (↑q : Int)) (by kernel_rfl) (by kernel_rfl) (by kernel_rfl) ?_ (fun cf => (by kernel_rfl))
    refine WpOps.keep 52 (Value.pointer (some (Addr.mk 0 0 none))) (by kernel_rfl) (by kernel_rfl) (by kernel_rfl) ?_ (fun cf => (by kernel_rfl))
    refine WpOps.keep 53 (Value.iface 9 (Value.iface (List.length r) (Value.iface x (Value.agg (List.toArray (List.map Value.string r)))))) (by kernel_rfl) (by kernel_rfl) (by kernel_rfl) ?_ (fun cf => (by kernel_rfl))
    refine WpOps.keep 54 (Value.iface 9 (Value.iface 0 (Value.agg (List.toArray (List.map Value.string r))))) (by kernel_rfl) (by kernel_rfl) (by kernel_rfl) ?_ (fun cf => o_indexI (e := 9) (size := 1) (a := 0) l1 (by kernel_rfl) (by kernel_rfl) (by kernel_rfl) (by kernel_rfl))
    refine WpOps.keep 55 (Value.string (rowAt r 0)) (by kernel_rfl) (by kernel_rfl) (by kernel_rfl) ?_ (fun cf => o_loadI1 (0) v1 (by kernel_rfl) (by kernel_rfl))
    refine WpOps.keep 56 (Value.int IntKind.i64 (↑(ByteArray.size (rowAt r 0)) : Int)) (by kernel_rfl) (by kernel_rfl) (by kernel_rfl) ?_ (fun cf => (by kernel_rfl))
    refine WpOps.keep 57 (Value.bool (decide ((↑q : Int) < (↑(ByteArray.size (rowAt r 0)) : Int)))) (by kernel_rfl) (by kernel_rfl) (by kernel_rfl) ?_ (fun cf => (by kernel_rfl))
    refine WpOps.nil ?_
    refine thenK_at ?_
    refine Wp.split (decide ((↑q : Int) < (↑(ByteArray.size (rowAt r 0)) : Int))) (by kernel_rfl) (fun hd => ?_) (fun hd => ?_)
    · have hlt2 : (q : Int) < (rowAt r 0).size := of_decide_eq_true hd
      have m3 : 0 ≤ (q : Int) ∧ (q : Int) < (rowAt r k).size := by omega
      have m4 : 0 ≤ (q : Int) ∧ (q : Int) < (rowAt m k).size := by omega
      have m5 : 0 ≤ (q : Int) ∧ (q : Int) < (rowAt r2 k).size := by omega
      have m6 : 0 ≤ (q : Int) ∧ (q : Int) < (rowAt m2 k).size := by omega
      have n3 := byte_get (rowAt r k) q (by omega)
      have n4 := byte_get (rowAt m k) q (by omega)
      have n5 := byte_get (rowAt r2 k) q (by omega)
      have n6 := byte_get (rowAt m2 k) q (by omega)
      refine Wp.skip ?_
      refine thenK_at ?_
      refine Wp.seq ?_
      refine Wp.block ?_
      refine Wp.seq ?_
      refine Wp.region (by kernel_rfl) ?_
      refine WpOps.keep 60 (Value.pointer (some (Addr.mk 2 0 none))) (by kernel_rfl) (by kernel_rfl) (by kernel_rfl) ?_ (fun cf => (by kernel_rfl))
      refine WpOps.keep 61 (Value.iface 9 (Value.iface (List.length r2) (Value.iface 0 (Value.agg (List.toArray (List.map Value.string r2)))))) (by kernel_rfl) (by kernel_rfl) (by kernel_rfl) ?_ (fun cf => (by kernel_rfl))
      refine WpOps.keep 62 (Value.int IntKind.i64 (↑k : Int)) (by kernel_rfl) (by kernel_rfl) (by kernel_rfl) ?_ (fun cf => (by kernel_rfl))
      refine WpOps.keep 63 (Value.iface 9 (Value.iface (Int.toNat (↑k : Int) * 1) (Value.agg (List.toArray (List.map Value.string r2))))) (by kernel_rfl) (by kernel_rfl) (by kernel_rfl) ?_ (fun cf => o_indexI (e := 9) (size := 1) (a := (↑k : Int)) l5 (by kernel_rfl) (by kernel_rfl) (by kernel_rfl) (by kernel_rfl))
      refine WpOps.keep 64 (Value.string (rowAt r2 k)) (by kernel_rfl) (by kernel_rfl) (by kernel_rfl) ?_ (fun cf => o_loadI1 (Int.toNat (↑k : Int) * 1) v5 (by kernel_rfl) (by kernel_rfl))
      refine WpOps.keep 65 (Value.int IntKind.i64 (↑q : Int)) (by kernel_rfl) (by kernel_rfl) (by kernel_rfl) ?_ (fun cf => (by kernel_rfl))
      refine WpOps.keep 66 (Value.int IntKind.u8 (↑(UInt8.toNat (byteAt (rowAt r2 k) q)) : Int)) (by kernel_rfl) (by kernel_rfl) (by kernel_rfl) ?_ (fun cf => o_indexStr (of_decide_eq_true (by kernel_rfl)) n5 (by kernel_rfl) (by kernel_rfl) (by kernel_rfl))
      refine WpOps.keep 67 (Value.pointer (some (Addr.mk 0 0 none))) (by kernel_rfl) (by kernel_rfl) (by kernel_rfl) ?_ (fun cf => (by kernel_rfl))
      refine WpOps.keep 68 (Value.iface 9 (Value.iface (List.length r) (Value.iface x (Value.agg (List.toArray (List.map Value.string r)))))) (by kernel_rfl) (by kernel_rfl) (by kernel_rfl) ?_ (fun cf => (by kernel_rfl))
      refine WpOps.keep 69 (Value.int IntKind.i64 (↑k : Int)) (by kernel_rfl) (by kernel_rfl) (by kernel_rfl) ?_ (fun cf => (by kernel_rfl))
      refine WpOps.keep 70 (Value.iface 9 (Value.iface (Int.toNat (↑k : Int) * 1) (Value.agg (List.toArray (List.map Value.string r))))) (by kernel_rfl) (by kernel_rfl) (by kernel_rfl) ?_ (fun cf => o_indexI (e := 9) (size := 1) (a := (↑k : Int)) l3 (by kernel_rfl) (by kernel_rfl) (by kernel_rfl) (by kernel_rfl))
      refine WpOps.keep 71 (Value.string (rowAt r k)) (by kernel_rfl) (by kernel_rfl) (by kernel_rfl) ?_ (fun cf => o_loadI1 (Int.toNat (↑k : Int) * 1) v3 (by kernel_rfl) (by kernel_rfl))
      refine WpOps.keep 72 (Value.int IntKind.i64 (↑q : Int)) (by kernel_rfl) (by kernel_rfl) (by kernel_rfl) ?_ (fun cf => (by kernel_rfl))
      refine WpOps.keep 73 (Value.int IntKind.u8 (↑(UInt8.toNat (byteAt (rowAt r k) q)) : Int)) (by kernel_rfl) (by kernel_rfl) (by kernel_rfl) ?_ (fun cf => o_indexStr (of_decide_eq_true (by kernel_rfl)) n3 (by kernel_rfl) (by kernel_rfl) (by kernel_rfl))
      refine WpOps.keep 74 (Value.bool ((↑(UInt8.toNat (byteAt (rowAt r2 k) q)) : Int) != (↑(UInt8.toNat (byteAt (rowAt r k) q)) : Int))) (by kernel_rfl) (by kernel_rfl) (by kernel_rfl) ?_ (fun cf => (by kernel_rfl))
      refine WpOps.keep 75 (Value.bool ((↑(UInt8.toNat (byteAt (rowAt r2 k) q)) : Int) != (↑(UInt8.toNat (byteAt (rowAt r k) q)) : Int))) (by kernel_rfl) (by kernel_rfl) (by kernel_rfl) ?_ (fun cf => (by kernel_rfl))
      refine WpOps.fork 16 ((↑(UInt8.toNat (byteAt (rowAt r2 k) q)) : Int) != (↑(UInt8.toNat (byteAt (rowAt r k) q)) : Int)) [76, 77, 78, 79, 80, 81, 82, 83, 84, 85, 86, 87, 88, 89, 90, 91] 91 (true) ((↑(UInt8.toNat (byteAt (rowAt m2 k) q)) : Int) != (↑(UInt8.toNat (byteAt (rowAt m k) q)) : Int)) (by kernel_rfl) (fun g91 => ?_) (fun g91 => ?_) (fun f_91 b91 hb91 => ?_)
      · refine WpOps.unmet 76 (by kernel_rfl) (by kernel_rfl) (wants_tf g91 (by kernel_rfl)) ?_
        refine WpOps.unmet 77 (by kernel_rfl) (by kernel_rfl) (wants_tf g91 (by kernel_rfl)) ?_
        refine WpOps.unmet 78 (by kernel_rfl) (by kernel_rfl) (wants_tf g91 (by kernel_rfl)) ?_
        refine WpOps.unmet 79 (by kernel_rfl) (by kernel_rfl) (wants_tf g91 (by kernel_rfl)) ?_
        refine WpOps.unmet 80 (by kernel_rfl) (by kernel_rfl) (wants_tf g91 (by kernel_rfl)) ?_
        refine WpOps.unmet 81 (by kernel_rfl) (by kernel_rfl) (wants_tf g91 (by kernel_rfl)) ?_
        refine WpOps.unmet 82 (by kernel_rfl) (by kernel_rfl) (wants_tf g91 (by kernel_rfl)) ?_
        refine WpOps.unmet 83 (by kernel_rfl) (by kernel_rfl) (wants_tf g91 (by kernel_rfl)) ?_
        refine WpOps.unmet 84 (by kernel_rfl) (by kernel_rfl) (wants_tf g91 (by kernel_rfl)) ?_
        refine WpOps.unmet 85 (by kernel_rfl) (by kernel_rfl) (wants_tf g91 (by kernel_rfl)) ?_
        refine WpOps.unmet 86 (by kernel_rfl) (by kernel_rfl) (wants_tf g91 (by kernel_rfl)) ?_
        refine WpOps.unmet 87 (by kernel_rfl) (by kernel_rfl) (wants_tf g91 (by kernel_rfl)) ?_
        refine WpOps.unmet 88 (by kernel_rfl) (by kernel_rfl) (wants_tf g91 (by kernel_rfl)) ?_
        refine WpOps.unmet 89 (by kernel_rfl) (by kernel_rfl) (wants_tf g91 (by kernel_rfl)) ?_
        refine WpOps.unmet 90 (by kernel_rfl) (by kernel_rfl) (wants_tf g91 (by kernel_rfl)) ?_
        refine WpOps.keep 91 (Value.bool true) (by kernel_rfl) (by kernel_rfl) (by kernel_rfl) ?_ (fun cf => o_pickT g91 (by kernel_rfl) (by kernel_rfl))
        refine WpOps.nil ?_
        exact ⟨rfl, (.upd rfl (.upd rfl (.upd rfl (.upd rfl (.upd rfl (.upd rfl (.upd rfl (.upd rfl (.upd rfl (.upd rfl (.upd rfl (.upd rfl (.upd rfl (.upd rfl (.upd rfl (.upd rfl .refl)))))))))))))))), (by kernel_rfl)⟩
      · refine WpOps.keep 76 (Value.pointer (some (Addr.mk 2 1 none))) (by kernel_rfl) (by kernel_rfl) (wants_ff g91 (by kernel_rfl)) ?_ (fun cf => (by kernel_rfl))
        refine WpOps.keep 77 (Value.iface 9 (Value.iface (List.length m2) (Value.iface 0 (Value.agg (List.toArray (List.map Value.string m2)))))) (by kernel_rfl) (by kernel_rfl) (wants_ff g91 (by kernel_rfl)) ?_ (fun cf => (by kernel_rfl))
        refine WpOps.keep 78 (Value.int IntKind.i64 (↑k : Int)) (by kernel_rfl) (by kernel_rfl) (wants_ff g91 (by kernel_rfl)) ?_ (fun cf => (by kernel_rfl))
        refine WpOps.keep 79 (Value.iface 9 (Value.iface (Int.toNat (↑k : Int) * 1) (Value.agg (List.toArray (List.map Value.string m2))))) (by kernel_rfl) (by kernel_rfl) (wants_ff g91 (by kernel_rfl)) ?_ (fun cf => o_indexI (e := 9) (size := 1) (a := (↑k : Int)) l6 (by kernel_rfl) (by kernel_rfl) (by kernel_rfl) (by kernel_rfl))
        refine WpOps.keep 80 (Value.string (rowAt m2 k)) (by kernel_rfl) (by kernel_rfl) (wants_ff g91 (by kernel_rfl)) ?_ (fun cf => o_loadI1 (Int.toNat (↑k : Int) * 1) v6 (by kernel_rfl) (by kernel_rfl))
        refine WpOps.keep 81 (Value.int IntKind.i64 (↑q : Int)) (by kernel_rfl) (by kernel_rfl) (wants_ff g91 (by kernel_rfl)) ?_ (fun cf => (by kernel_rfl))
        refine WpOps.keep 82 (Value.int IntKind.u8 (↑(UInt8.toNat (byteAt (rowAt m2 k) q)) : Int)) (by kernel_rfl) (by kernel_rfl) (wants_ff g91 (by kernel_rfl)) ?_ (fun cf => o_indexStr (of_decide_eq_true (by kernel_rfl)) n6 (by kernel_rfl) (by kernel_rfl) (by kernel_rfl))
        refine WpOps.keep 83 (Value.pointer (some (Addr.mk 0 1 none))) (by kernel_rfl) (by kernel_rfl) (wants_ff g91 (by kernel_rfl)) ?_ (fun cf => (by kernel_rfl))
        refine WpOps.keep 84 (Value.iface 9 (Value.iface (List.length m) (Value.iface y (Value.agg (List.toArray (List.map Value.string m)))))) (by kernel_rfl) (by kernel_rfl) (wants_ff g91 (by kernel_rfl)) ?_ (fun cf => (by kernel_rfl))
        refine WpOps.keep 85 (Value.int IntKind.i64 (↑k : Int)) (by kernel_rfl) (by kernel_rfl) (wants_ff g91 (by kernel_rfl)) ?_ (fun cf => (by kernel_rfl))
        refine WpOps.keep 86 (Value.iface 9 (Value.iface (Int.toNat (↑k : Int) * 1) (Value.agg (List.toArray (List.map Value.string m))))) (by kernel_rfl) (by kernel_rfl) (wants_ff g91 (by kernel_rfl)) ?_ (fun cf => o_indexI (e := 9) (size := 1) (a := (↑k : Int)) l4 (by kernel_rfl) (by kernel_rfl) (by kernel_rfl) (by kernel_rfl))
        refine WpOps.keep 87 (Value.string (rowAt m k)) (by kernel_rfl) (by kernel_rfl) (wants_ff g91 (by kernel_rfl)) ?_ (fun cf => o_loadI1 (Int.toNat (↑k : Int) * 1) v4 (by kernel_rfl) (by kernel_rfl))
        refine WpOps.keep 88 (Value.int IntKind.i64 (↑q : Int)) (by kernel_rfl) (by kernel_rfl) (wants_ff g91 (by kernel_rfl)) ?_ (fun cf => (by kernel_rfl))
        refine WpOps.keep 89 (Value.int IntKind.u8 (↑(UInt8.toNat (byteAt (rowAt m k) q)) : Int)) (by kernel_rfl) (by kernel_rfl) (wants_ff g91 (by kernel_rfl)) ?_ (fun cf => o_indexStr (of_decide_eq_true (by kernel_rfl)) n4 (by kernel_rfl) (by kernel_rfl) (by kernel_rfl))
        refine WpOps.keep 90 (Value.bool ((↑(UInt8.toNat (byteAt (rowAt m2 k) q)) : Int) != (↑(UInt8.toNat (byteAt (rowAt m k) q)) : Int))) (by kernel_rfl) (by kernel_rfl) (wants_ff g91 (by kernel_rfl)) ?_ (fun cf => (by kernel_rfl))
        refine WpOps.keep 91 (Value.bool ((↑(UInt8.toNat (byteAt (rowAt m2 k) q)) : Int) != (↑(UInt8.toNat (byteAt (rowAt m k) q)) : Int))) (by kernel_rfl) (by kernel_rfl) (by kernel_rfl) ?_ (fun cf => o_pickF g91 (by kernel_rfl) (by kernel_rfl))
        refine WpOps.nil ?_
        exact ⟨rfl, (.upd rfl (.upd rfl (.upd rfl (.upd rfl (.upd rfl (.upd rfl (.upd rfl (.upd rfl (.upd rfl (.upd rfl (.upd rfl (.upd rfl (.upd rfl (.upd rfl (.upd rfl (.upd rfl .refl)))))))))))))))), (by kernel_rfl)⟩
      refine WpOps.nil ?_
      refine thenK_at ?_
      have e : dif r m r2 m2 k q = b91 := by rw [hb91]; rfl
      have hq2 : cntC (dif r m r2 m2) k q ≤ q := cntC_le _ _ _
      have hck := hcl k
      have hkc : k * (rowAt r 0).size ≤ 40 * 80 := Nat.mul_le_mul (by omega) (by omega)
      have w9 : IntKind.i64.wrap ((q : Int) + 1) = ((q + 1 : Nat) : Int) := wr _ (by omega) (by omega)
      clear hb91
      refine Wp.split (b91) (by kernel_rfl) (fun hb => ?_) (fun hb => ?_)
      · have w7 : IntKind.i64.wrap (((cnt (dif r m r2 m2) (rowAt r 0).size k + cntC (dif r m r2 m2) k q : Nat) : Int) + 1) = ((cnt (dif r m r2 m2) (rowAt r 0).size k + cntC (dif r m r2 m2) k (q + 1) : Nat) : Int) := by
          rw [cntC, e, hb, if_pos rfl, wr _ (by omega) (by omega)]
          omega
        refine Wp.text ?_
        refine WpOps.keep 92 (Value.int IntKind.i64 (↑(cnt (dif r m r2 m2) (ByteArray.size (rowAt r 0)) k + cntC (dif r m r2 m2) k q) : Int)) (by kernel_rfl) (by kernel_rfl) (by kernel_rfl) ?_ (fun cf => (by kernel_rfl))
        refine WpOps.keep 93 (Value.int IntKind.i64 (IntKind.wrap IntKind.i64 ((↑(cnt (dif r m r2 m2) (ByteArray.size (rowAt r 0)) k + cntC (dif r m r2 m2) k q) : Int) + 1))) (by kernel_rfl) (by kernel_rfl) (by kernel_rfl) ?_ (fun cf => (by kernel_rfl))
        refine WpOps.keep 7 (Value.int IntKind.i64 (IntKind.wrap IntKind.i64 ((↑(cnt (dif r m r2 m2) (ByteArray.size (rowAt r 0)) k + cntC (dif r m r2 m2) k q) : Int) + 1))) (by kernel_rfl) (by kernel_rfl) (by kernel_rfl) ?_ (fun cf => (by kernel_rfl))
        refine WpOps.nil ?_
        refine blockK_norm ?_
        refine thenK_at ?_
        refine Wp.text ?_
        refine WpOps.keep 58 (Value.int IntKind.i64 (↑q : Int)) (by kernel_rfl) (by kernel_rfl) (by kernel_rfl) ?_ (fun cf => (by kernel_rfl))
        refine WpOps.keep 59 (Value.int IntKind.i64 (IntKind.wrap IntKind.i64 ((↑q : Int) + 1))) (by kernel_rfl) (by kernel_rfl) (by kernel_rfl) ?_ (fun cf => (by kernel_rfl))
        refine WpOps.keep 9 (Value.int IntKind.i64 (IntKind.wrap IntKind.i64 ((↑q : Int) + 1))) (by kernel_rfl) (by kernel_rfl) (by kernel_rfl) ?_ (fun cf => (by kernel_rfl))
        refine WpOps.nil ?_
        refine thenK_at ?_
        exact ⟨q + 1, by omega, by omega, View.of [0, 1, 2] [⟨24, true, [strs x r, strs y m, .int .i64 i, .int .i64 j]⟩, ⟨26, true, [.int .i64 op, .int .i64 row, .int .i64 col, .int .i64 n, .string t]⟩, ⟨24, true, [strs 0 r2, strs 0 m2, .int .i64 i2, .int .i64 j2]⟩] _ (by decide) rfl ⟨⟨_, by kernel_rfl, CellsOk.eq rfl rfl⟩, ⟨_, by kernel_rfl, CellsOk.eq rfl rfl⟩, ⟨_, by kernel_rfl, CellsOk.eq rfl rfl⟩, trivial⟩ ⟨⟨by kernel_rfl, rfl⟩, ⟨by kernel_rfl, rfl⟩, ⟨by kernel_rfl, rfl⟩, ⟨congrArg (Value.int .i64) w7, rfl⟩, ⟨by kernel_rfl, rfl⟩, ⟨congrArg (Value.int .i64) w9, rfl⟩, trivial⟩⟩
      · have w7 : ((cnt (dif r m r2 m2) (rowAt r 0).size k + cntC (dif r m r2 m2) k q : Nat) : Int) = ((cnt (dif r m r2 m2) (rowAt r 0).size k + cntC (dif r m r2 m2) k (q + 1) : Nat) : Int) := by
          rw [cntC, e, hb, if_neg (by decide)]
          rfl
        refine Wp.skip ?_
        refine blockK_norm ?_
        refine thenK_at ?_
        refine Wp.text ?_
        refine WpOps.keep 58 (Value.int IntKind.i64 (↑q : Int)) (by kernel_rfl) (by kernel_rfl) (by kernel_rfl) ?_ (fun cf => (by kernel_rfl))
        refine WpOps.keep 59 (Value.int IntKind.i64 (IntKind.wrap IntKind.i64 ((↑q : Int) + 1))) (by kernel_rfl) (by kernel_rfl) (by kernel_rfl) ?_ (fun cf => (by kernel_rfl))
        refine WpOps.keep 9 (Value.int IntKind.i64 (IntKind.wrap IntKind.i64 ((↑q : Int) + 1))) (by kernel_rfl) (by kernel_rfl) (by kernel_rfl) ?_ (fun cf => (by kernel_rfl))
        refine WpOps.nil ?_
        refine thenK_at ?_
        exact ⟨q + 1, by omega, by omega, View.of [0, 1, 2] [⟨24, true, [strs x r, strs y m, .int .i64 i, .int .i64 j]⟩, ⟨26, true, [.int .i64 op, .int .i64 row, .int .i64 col, .int .i64 n, .string t]⟩, ⟨24, true, [strs 0 r2, strs 0 m2, .int .i64 i2, .int .i64 j2]⟩] _ (by decide) rfl ⟨⟨_, by kernel_rfl, CellsOk.eq rfl rfl⟩, ⟨_, by kernel_rfl, CellsOk.eq rfl rfl⟩, ⟨_, by kernel_rfl, CellsOk.eq rfl rfl⟩, trivial⟩ ⟨⟨by kernel_rfl, rfl⟩, ⟨by kernel_rfl, rfl⟩, ⟨by kernel_rfl, rfl⟩, ⟨congrArg (Value.int .i64) w7, rfl⟩, ⟨by kernel_rfl, rfl⟩, ⟨congrArg (Value.int .i64) w9, rfl⟩, trivial⟩⟩
    · have hle : ¬ ((q : Int) < (rowAt r 0).size) := of_decide_eq_false hd
      obtain rfl : q = (rowAt r 0).size := by omega
      refine Wp.exit ?_
      refine thenK_exit ?_
      refine thenK_exit ?_
      refine blockK_hit ?_
      refine blockK_norm ?_
      refine thenK_at ?_
      refine Wp.text ?_
      refine WpOps.keep 49 (Value.int IntKind.i64 (↑k : Int)) (by kernel_rfl) (by kernel_rfl) (by kernel_rfl) ?_ (fun cf => (by kernel_rfl))
      refine WpOps.keep 50 (Value.int IntKind.i64 (IntKind.wrap IntKind.i64 ((↑k : Int) + 1))) (by kernel_rfl) (by kernel_rfl) (by kernel_rfl) ?_ (fun cf => (by kernel_rfl))
      refine WpOps.keep 8 (Value.int IntKind.i64 (IntKind.wrap IntKind.i64 ((↑k : Int) + 1))) (by kernel_rfl) (by kernel_rfl) (by kernel_rfl) ?_ (fun cf => (by kernel_rfl))
      refine WpOps.nil ?_
      refine thenK_at ?_
      exact ⟨k + 1, by omega, by omega, View.of [0, 1, 2] [⟨24, true, [strs x r, strs y m, .int .i64 i, .int .i64 j]⟩, ⟨26, true, [.int .i64 op, .int .i64 row, .int .i64 col, .int .i64 n, .string t]⟩, ⟨24, true, [strs 0 r2, strs 0 m2, .int .i64 i2, .int .i64 j2]⟩] _ (by decide) rfl ⟨⟨_, by kernel_rfl, CellsOk.eq rfl rfl⟩, ⟨_, by kernel_rfl, CellsOk.eq rfl rfl⟩, ⟨_, by kernel_rfl, CellsOk.eq rfl rfl⟩, trivial⟩ ⟨⟨by kernel_rfl, rfl⟩, ⟨by kernel_rfl, rfl⟩, ⟨by kernel_rfl, rfl⟩, ⟨by kernel_rfl, rfl⟩, ⟨congrArg (Value.int .i64) (wr _ (by omega) (by omega)), rfl⟩, trivial⟩⟩
  · have hle : ¬ ((k : Int) < r.length) := of_decide_eq_false hc
    obtain rfl : k = r.length := by omega
    obtain ⟨a0, a1, a2, a6⟩ := he
    generalize cnt (dif r m r2 m2) (rowAt r 0).size r.length = N at *
    by_cases h0 : op = 0
    · subst h0
      obtain rfl : N = 0 := a0 (.inl rfl)
      refine Wp.exit ?_
      refine thenK_exit ?_
      refine thenK_exit ?_
      refine blockK_hit ?_
      refine thenK_at ?_
      refine Wp.seq ?_
      refine Wp.seq ?_
      refine Wp.text ?_
      refine WpOps.keep 94 (Value.pointer (some (Addr.mk 1 0 none))) (by kernel_rfl) (by kernel_rfl) (by kernel_rfl) ?_ (fun cf => (by kernel_rfl))
      refine WpOps.keep 95 (Value.int IntKind.i64 0) (by kernel_rfl) (by kernel_rfl) (by kernel_rfl) ?_ (fun cf => (by kernel_rfl))
      refine WpOps.nil ?_
      refine thenK_at ?_
      refine Wp.block ?_
      refine Wp.seq ?_
      refine Wp.seq ?_
      refine Wp.text ?_
      refine WpOps.keep 97 (Value.bool true) (by kernel_rfl) (by kernel_rfl) (by kernel_rfl) ?_ (fun cf => (by kernel_rfl))
      refine WpOps.keep 96 (Value.bool true) (by kernel_rfl) (by kernel_rfl) (by kernel_rfl) ?_ (fun cf => (by kernel_rfl))
      refine WpOps.nil ?_
      refine thenK_at ?_
      refine Wp.on (by kernel_rfl) ?_
      refine Wp.skip ?_
      refine thenK_at ?_
      refine Wp.on (by kernel_rfl) ?_
      refine Wp.seq ?_
      refine Wp.text ?_
      refine WpOps.keep 99 (Value.int IntKind.i64 (↑0 : Int)) (by kernel_rfl) (by kernel_rfl) (by kernel_rfl) ?_ (fun cf => (by kernel_rfl))
      refine WpOps.keep 100 (Value.bool true) (by kernel_rfl) (by kernel_rfl) (by kernel_rfl) ?_ (fun cf => (by kernel_rfl))
      refine WpOps.keep 101 (Value.bool true) (by kernel_rfl) (by kernel_rfl) (by kernel_rfl) ?_ (fun cf => (by kernel_rfl))
      refine WpOps.framed 102 18 [] (by kernel_rfl) (by kernel_rfl) (by kernel_rfl) (by kernel_rfl) (by kernel_rfl) (fun cf => (by kernel_rfl)) ?_
      refine WpFun.of (c3) ?_
      refine WpOps.keep 103 (Value.bool true) (by kernel_rfl) (by kernel_rfl) (by kernel_rfl) ?_ (fun cf => (by kernel_rfl))
      refine WpOps.keep 4 (Value.bool true) (by kernel_rfl) (by kernel_rfl) (by kernel_rfl) ?_ (fun cf => (by kernel_rfl))
      refine WpOps.nil ?_
      refine thenK_at ?_
      refine Wp.ret ?_
      refine blockK_ret ?_
      refine thenK_ret ?_
      refine endK_retn [Value.bool true] (Value.bool true) (by kernel_rfl) (by kernel_rfl) ?_
      rfl
    have q0 := bne_f h0
    by_cases h4 : op = 4
    · subst h4
      obtain rfl : N = 0 := a0 (.inr rfl)
      refine Wp.exit ?_
      refine thenK_exit ?_
      refine thenK_exit ?_
      refine blockK_hit ?_
      refine thenK_at ?_
      refine Wp.seq ?_
      refine Wp.seq ?_
      refine Wp.text ?_
      refine WpOps.keep 94 (Value.pointer (some (Addr.mk 1 0 none))) (by kernel_rfl) (by kernel_rfl) (by kernel_rfl) ?_ (fun cf => (by kernel_rfl))
      refine WpOps.keep 95 (Value.int IntKind.i64 4) (by kernel_rfl) (by kernel_rfl) (by kernel_rfl) ?_ (fun cf => (by kernel_rfl))
      refine WpOps.nil ?_
      refine thenK_at ?_
      refine Wp.block ?_
      refine Wp.seq ?_
      refine Wp.seq ?_
      refine Wp.text ?_
      refine WpOps.keep 97 (Value.bool false) (by kernel_rfl) (by kernel_rfl) (by kernel_rfl) ?_ (fun cf => (by kernel_rfl))
      refine WpOps.keep 96 (Value.bool false) (by kernel_rfl) (by kernel_rfl) (by kernel_rfl) ?_ (fun cf => (by kernel_rfl))
      refine WpOps.nil ?_
      refine thenK_at ?_
      refine Wp.off (by kernel_rfl) ?_
      refine Wp.text ?_
      refine WpOps.keep 98 (Value.bool true) (by kernel_rfl) (by kernel_rfl) (by kernel_rfl) ?_ (fun cf => (by kernel_rfl))
      refine WpOps.keep 96 (Value.bool true) (by kernel_rfl) (by kernel_rfl) (by kernel_rfl) ?_ (fun cf => (by kernel_rfl))
      refine WpOps.nil ?_
      refine thenK_at ?_
      refine Wp.on (by kernel_rfl) ?_
      refine Wp.seq ?_
      refine Wp.text ?_
      refine WpOps.keep 99 (Value.int IntKind.i64 (↑0 : Int)) (by kernel_rfl) (by kernel_rfl) (by kernel_rfl) ?_ (fun cf => (by kernel_rfl))
      refine WpOps.keep 100 (Value.bool true) (by kernel_rfl) (by kernel_rfl) (by kernel_rfl) ?_ (fun cf => (by kernel_rfl))
      refine WpOps.keep 101 (Value.bool true) (by kernel_rfl) (by kernel_rfl) (by kernel_rfl) ?_ (fun cf => (by kernel_rfl))
      refine WpOps.framed 102 18 [] (by kernel_rfl) (by kernel_rfl) (by kernel_rfl) (by kernel_rfl) (by kernel_rfl) (fun cf => (by kernel_rfl)) ?_
      refine WpFun.of (c3) ?_
      refine WpOps.keep 103 (Value.bool true) (by kernel_rfl) (by kernel_rfl) (by kernel_rfl) ?_ (fun cf => (by kernel_rfl))
      refine WpOps.keep 4 (Value.bool true) (by kernel_rfl) (by kernel_rfl) (by kernel_rfl) ?_ (fun cf => (by kernel_rfl))
      refine WpOps.nil ?_
      refine thenK_at ?_
      refine Wp.ret ?_
      refine blockK_ret ?_
      refine thenK_ret ?_
      refine endK_retn [Value.bool true] (Value.bool true) (by kernel_rfl) (by kernel_rfl) ?_
      rfl
    have q4 := bne_f h4
    by_cases h1 : op = 1
    · subst h1
      have b1 : decide ((N : Int) ≤ t.size) = true := decide_eq_true (by have := a1 rfl; omega)
      refine Wp.exit ?_
      refine thenK_exit ?_
      refine thenK_exit ?_
      refine blockK_hit ?_
      refine thenK_at ?_
      refine Wp.seq ?_
      refine Wp.seq ?_
      refine Wp.text ?_
      refine WpOps.keep 94 (Value.pointer (some (Addr.mk 1 0 none))) (by kernel_rfl) (by kernel_rfl) (by kernel_rfl) ?_ (fun cf => (by kernel_rfl))
      refine WpOps.keep 95 (Value.int IntKind.i64 1) (by kernel_rfl) (by kernel_rfl) (by kernel_rfl) ?_ (fun cf => (by kernel_rfl))
      refine WpOps.nil ?_
      refine thenK_at ?_
      refine Wp.block ?_
      refine Wp.seq ?_
      refine Wp.seq ?_
      refine Wp.text ?_
      refine WpOps.keep 97 (Value.bool false) (by kernel_rfl) (by kernel_rfl) (by kernel_rfl) ?_ (fun cf => (by kernel_rfl))
      refine WpOps.keep 96 (Value.bool false) (by kernel_rfl) (by kernel_rfl) (by kernel_rfl) ?_ (fun cf => (by kernel_rfl))
      refine WpOps.nil ?_
      refine thenK_at ?_
      refine Wp.off (by kernel_rfl) ?_
      refine Wp.text ?_
      refine WpOps.keep 98 (Value.bool false) (by kernel_rfl) (by kernel_rfl) (by kernel_rfl) ?_ (fun cf => (by kernel_rfl))
      refine WpOps.keep 96 (Value.bool false) (by kernel_rfl) (by kernel_rfl) (by kernel_rfl) ?_ (fun cf => (by kernel_rfl))
      refine WpOps.nil ?_
      refine thenK_at ?_
      refine Wp.off (by kernel_rfl) ?_
      refine Wp.seq ?_
      refine Wp.text ?_
      refine WpOps.keep 105 (Value.bool true) (by kernel_rfl) (by kernel_rfl) (by kernel_rfl) ?_ (fun cf => (by kernel_rfl))
      refine WpOps.keep 104 (Value.bool true) (by kernel_rfl) (by kernel_rfl) (by kernel_rfl) ?_ (fun cf => (by kernel_rfl))
      refine WpOps.nil ?_
      refine thenK_at ?_
      refine Wp.on (by kernel_rfl) ?_
      refine Wp.seq ?_
      refine Wp.text ?_
      refine WpOps.keep 106 (Value.int IntKind.i64 (↑N : Int)) (by kernel_rfl) (by kernel_rfl) (by kernel_rfl) ?_ (fun cf => (by kernel_rfl))
      refine WpOps.keep 107 (Value.pointer (some (Addr.mk 1 4 none))) (by kernel_rfl) (by kernel_rfl) (by kernel_rfl) ?_ (fun cf => (by kernel_rfl))
      refine WpOps.keep 108 (Value.string t) (by kernel_rfl) (by kernel_rfl) (by kernel_rfl) ?_ (fun cf => (by kernel_rfl))
      refine WpOps.keep 109 (Value.int IntKind.i64 (↑(ByteArray.size t) : Int)) (by kernel_rfl) (by kernel_rfl) (by kernel_rfl) ?_ (fun cf => (by kernel_rfl))
      refine WpOps.keep 110 (Value.bool true) (by kernel_rfl) (by kernel_rfl) (by kernel_rfl) ?_ (fun cf => by_fact b1 ((by kernel_rfl)))
      refine WpOps.keep 111 (Value.bool true) (by kernel_rfl) (by kernel_rfl) (by kernel_rfl) ?_ (fun cf => (by kernel_rfl))
      refine WpOps.framed 112 18 [] (by kernel_rfl) (by kernel_rfl) (by kernel_rfl) (by kernel_rfl) (by kernel_rfl) (fun cf => (by kernel_rfl)) ?_
      refine WpFun.of (c3) ?_
      refine WpOps.keep 113 (Value.bool true) (by kernel_rfl) (by kernel_rfl) (by kernel_rfl) ?_ (fun cf => (by kernel_rfl))
      refine WpOps.keep 4 (Value.bool true) (by kernel_rfl) (by kernel_rfl) (by kernel_rfl) ?_ (fun cf => (by kernel_rfl))
      refine WpOps.nil ?_
      refine thenK_at ?_
      refine Wp.ret ?_
      refine blockK_ret ?_
      refine thenK_ret ?_
      refine endK_retn [Value.bool true] (Value.bool true) (by kernel_rfl) (by kernel_rfl) ?_
      rfl
    have q1 := bne_f h1
    by_cases h2 : op = 2
    · subst h2
      obtain ⟨b1, rfl, rfl⟩ := a2 rfl
      have b2 : decide ((N : Int) ≤ IntKind.i64.wrap (((rowAt r 0).size : Int) - j2)) = true := by rw [wr _ (by omega) (by omega)]; exact decide_eq_true b1
      have b3 : (i2 == i2) = true := beq_self_eq_true _
      have b4 : (j2 == j2) = true := beq_self_eq_true _
      refine Wp.exit ?_
      refine thenK_exit ?_
      refine thenK_exit ?_
      refine blockK_hit ?_
      refine thenK_at ?_
      refine Wp.seq ?_
      refine Wp.seq ?_
      refine Wp.text ?_
      refine WpOps.keep 94 (Value.pointer (some (Addr.mk 1 0 none))) (by kernel_rfl) (by kernel_rfl) (by kernel_rfl) ?_ (fun cf => (by kernel_rfl))
      refine WpOps.keep 95 (Value.int IntKind.i64 2) (by kernel_rfl) (by kernel_rfl) (by kernel_rfl) ?_ (fun cf => (by kernel_rfl))
      refine WpOps.nil ?_
      refine thenK_at ?_
      refine Wp.block ?_
      refine Wp.seq ?_
      refine Wp.seq ?_
      refine Wp.text ?_
      refine WpOps.keep 97 (Value.bool false) (by kernel_rfl) (by kernel_rfl) (by kernel_rfl) ?_ (fun cf => (by kernel_rfl))
      refine WpOps.keep 96 (Value.bool false) (by kernel_rfl) (by kernel_rfl) (by kernel_rfl) ?_ (fun cf => (by kernel_rfl))
      refine WpOps.nil ?_
      refine thenK_at ?_
      refine Wp.off (by kernel_rfl) ?_
      refine Wp.text ?_
      refine WpOps.keep 98 (Value.bool false) (by kernel_rfl) (by kernel_rfl) (by kernel_rfl) ?_ (fun cf => (by kernel_rfl))
      refine WpOps.keep 96 (Value.bool false) (by kernel_rfl) (by kernel_rfl) (by kernel_rfl) ?_ (fun cf => (by kernel_rfl))
      refine WpOps.nil ?_
      refine thenK_at ?_
      refine Wp.off (by kernel_rfl) ?_
      refine Wp.seq ?_
      refine Wp.text ?_
      refine WpOps.keep 105 (Value.bool false) (by kernel_rfl) (by kernel_rfl) (by kernel_rfl) ?_ (fun cf => (by kernel_rfl))
      refine WpOps.keep 104 (Value.bool false) (by kernel_rfl) (by kernel_rfl) (by kernel_rfl) ?_ (fun cf => (by kernel_rfl))
      refine WpOps.nil ?_
      refine thenK_at ?_
      refine Wp.off (by kernel_rfl) ?_
      refine Wp.seq ?_
      refine Wp.text ?_
      refine WpOps.keep 115 (Value.bool true) (by kernel_rfl) (by kernel_rfl) (by kernel_rfl) ?_ (fun cf => (by kernel_rfl))
      refine WpOps.keep 114 (Value.bool true) (by kernel_rfl) (by kernel_rfl) (by kernel_rfl) ?_ (fun cf => (by kernel_rfl))
      refine WpOps.nil ?_
      refine thenK_at ?_
      refine Wp.on (by kernel_rfl) ?_
      refine Wp.seq ?_
      refine Wp.region (by kernel_rfl) ?_
      refine WpOps.keep 116 (Value.int IntKind.i64 (↑N : Int)) (by kernel_rfl) (by kernel_rfl) (by kernel_rfl) ?_ (fun cf => (by kernel_rfl))
      refine WpOps.keep 117 (Value.pointer (some (Addr.mk 0 0 none))) (by kernel_rfl) (by kernel_rfl) (by kernel_rfl) ?_ (fun cf => (by kernel_rfl))
      refine WpOps.keep 118 (Value.iface 9 (Value.iface (List.length r) (Value.iface x (Value.agg (List.toArray (List.map Value.string r)))))) (by kernel_rfl) (by kernel_rfl) (by kernel_rfl) ?_ (fun cf => (by kernel_rfl))
      refine WpOps.keep 119 (Value.iface 9 (Value.iface 0 (Value.agg (List.toArray (List.map Value.string r))))) (by kernel_rfl) (by kernel_rfl) (by kernel_rfl) ?_ (fun cf => o_indexI (e := 9) (size := 1) (a := 0) l1 (by kernel_rfl) (by kernel_rfl) (by kernel_rfl) (by kernel_rfl))
      refine WpOps.keep 120 (Value.string (rowAt r 0)) (by kernel_rfl) (by kernel_rfl) (by kernel_rfl) ?_ (fun cf => o_loadI1 (0) v1 (by kernel_rfl) (by kernel_rfl))
      refine WpOps.keep 121 (Value.int IntKind.i64 (↑(ByteArray.size (rowAt r 0)) : Int)) (by kernel_rfl) (by kernel_rfl) (by kernel_rfl) ?_ (fun cf => (by kernel_rfl))
      refine WpOps.keep 122 (Value.pointer (some (Addr.mk 0 3 none))) (by kernel_rfl) (by kernel_rfl) (by kernel_rfl) ?_ (fun cf => (by kernel_rfl))
      refine WpOps.keep 123 (Value.int IntKind.i64 j2) (by kernel_rfl) (by kernel_rfl) (by kernel_rfl) ?_ (fun cf => (by kernel_rfl))
      refine WpOps.keep 124 (Value.int IntKind.i64 (IntKind.wrap IntKind.i64 ((↑(ByteArray.size (rowAt r 0)) : Int) - j2))) (by kernel_rfl) (by kernel_rfl) (by kernel_rfl) ?_ (fun cf => (by kernel_rfl))
      refine WpOps.keep 125 (Value.bool true) (by kernel_rfl) (by kernel_rfl) (by kernel_rfl) ?_ (fun cf => by_fact b2 ((by kernel_rfl)))
      refine WpOps.keep 126 (Value.bool true) (by kernel_rfl) (by kernel_rfl) (by kernel_rfl) ?_ (fun cf => (by kernel_rfl))
      refine WpOps.keep 127 (Value.pointer (some (Addr.mk 2 2 none))) (by kernel_rfl) (by kernel_rfl) (by kernel_rfl) ?_ (fun cf => (by kernel_rfl))
      refine WpOps.keep 128 (Value.int IntKind.i64 i2) (by kernel_rfl) (by kernel_rfl) (by kernel_rfl) ?_ (fun cf => (by kernel_rfl))
      refine WpOps.keep 129 (Value.pointer (some (Addr.mk 0 2 none))) (by kernel_rfl) (by kernel_rfl) (by kernel_rfl) ?_ (fun cf => (by kernel_rfl))
      refine WpOps.keep 130 (Value.int IntKind.i64 i2) (by kernel_rfl) (by kernel_rfl) (by kernel_rfl) ?_ (fun cf => (by kernel_rfl))
      refine WpOps.keep 131 (Value.bool true) (by kernel_rfl) (by kernel_rfl) (by kernel_rfl) ?_ (fun cf => by_fact b3 ((by kernel_rfl)))
      refine WpOps.keep 132 (Value.bool true) (by kernel_rfl) (by kernel_rfl) (by kernel_rfl) ?_ (fun cf => (by kernel_rfl))
      refine WpOps.keep 133 (Value.bool true) (by kernel_rfl) (by kernel_rfl) (by kernel_rfl) ?_ (fun cf => (by kernel_rfl))
      refine WpOps.keep 134 (Value.pointer (some (Addr.mk 2 3 none))) (by kernel_rfl) (by kernel_rfl) (by kernel_rfl) ?_ (fun cf => (by kernel_rfl))
      refine WpOps.keep 135 (Value.int IntKind.i64 j2) (by kernel_rfl) (by kernel_rfl) (by kernel_rfl) ?_ (fun cf => (by kernel_rfl))
      refine WpOps.keep 136 (Value.pointer (some (Addr.mk 0 3 none))) (by kernel_rfl) (by kernel_rfl) (by kernel_rfl) ?_ (fun cf => (by kernel_rfl))
      refine WpOps.keep 137 (Value.int IntKind.i64 j2) (by kernel_rfl) (by kernel_rfl) (by kernel_rfl) ?_ (fun cf => (by kernel_rfl))
      refine WpOps.keep 138 (Value.bool true) (by kernel_rfl) (by kernel_rfl) (by kernel_rfl) ?_ (fun cf => by_fact b4 ((by kernel_rfl)))
      refine WpOps.keep 139 (Value.bool true) (by kernel_rfl) (by kernel_rfl) (by kernel_rfl) ?_ (fun cf => (by kernel_rfl))
      refine WpOps.keep 140 (Value.bool true) (by kernel_rfl) (by kernel_rfl) (by kernel_rfl) ?_ (fun cf => (by kernel_rfl))
      refine WpOps.framed 141 18 [] (by kernel_rfl) (by kernel_rfl) (by kernel_rfl) (by kernel_rfl) (by kernel_rfl) (fun cf => (by kernel_rfl)) ?_
      refine WpFun.of (c3) ?_
      refine WpOps.keep 142 (Value.bool true) (by kernel_rfl) (by kernel_rfl) (by kernel_rfl) ?_ (fun cf => (by kernel_rfl))
      refine WpOps.keep 4 (Value.bool true) (by kernel_rfl) (by kernel_rfl) (by kernel_rfl) ?_ (fun cf => (by kernel_rfl))
      refine WpOps.nil ?_
      refine thenK_at ?_
      refine Wp.ret ?_
      refine blockK_ret ?_
      refine thenK_ret ?_
      refine endK_retn [Value.bool true] (Value.bool true) (by kernel_rfl) (by kernel_rfl) ?_
      rfl
    have q2 := bne_f h2
    by_cases h6 : op = 6
    · subst h6
      obtain ⟨b1, rfl, rfl⟩ := a6 rfl
      have hb : (0 ≤ row ∧ row ≤ 40) ∧ (0 ≤ col ∧ col ≤ 80) := by unfold Fits at hf; omega
      have hb2 : row * col ≤ 40 * 80 := Int.mul_le_mul hb.1.2 hb.2.2 hb.2.1 (by omega)
      have b2 : decide ((N : Int) ≤ IntKind.i64.wrap (row * col)) = true := by rw [wr _ (Int.mul_nonneg hb.1.1 hb.2.1) (by omega)]; exact decide_eq_true b1
      have b3 : (i2 == i2) = true := beq_self_eq_true _
      have b4 : (j2 == j2) = true := beq_self_eq_true _
      refine Wp.exit ?_
      refine thenK_exit ?_
      refine thenK_exit ?_
      refine blockK_hit ?_
      refine thenK_at ?_
      refine Wp.seq ?_
      refine Wp.seq ?_
      refine Wp.text ?_
      refine WpOps.keep 94 (Value.pointer (some (Addr.mk 1 0 none))) (by kernel_rfl) (by kernel_rfl) (by kernel_rfl) ?_ (fun cf => (by kernel_rfl))
      refine WpOps.keep 95 (Value.int IntKind.i64 6) (by kernel_rfl) (by kernel_rfl) (by kernel_rfl) ?_ (fun cf => (by kernel_rfl))
      refine WpOps.nil ?_
      refine thenK_at ?_
      refine Wp.block ?_
      refine Wp.seq ?_
      refine Wp.seq ?_
      refine Wp.text ?_
      refine WpOps.keep 97 (Value.bool false) (by kernel_rfl) (by kernel_rfl) (by kernel_rfl) ?_ (fun cf => (by kernel_rfl))
      refine WpOps.keep 96 (Value.bool false) (by kernel_rfl) (by kernel_rfl) (by kernel_rfl) ?_ (fun cf => (by kernel_rfl))
      refine WpOps.nil ?_
      refine thenK_at ?_
      refine Wp.off (by kernel_rfl) ?_
      refine Wp.text ?_
      refine WpOps.keep 98 (Value.bool false) (by kernel_rfl) (by kernel_rfl) (by kernel_rfl) ?_ (fun cf => (by kernel_rfl))
      refine WpOps.keep 96 (Value.bool false) (by kernel_rfl) (by kernel_rfl) (by kernel_rfl) ?_ (fun cf => (by kernel_rfl))
      refine WpOps.nil ?_
      refine thenK_at ?_
      refine Wp.off (by kernel_rfl) ?_
      refine Wp.seq ?_
      refine Wp.text ?_
      refine WpOps.keep 105 (Value.bool false) (by kernel_rfl) (by kernel_rfl) (by kernel_rfl) ?_ (fun cf => (by kernel_rfl))
      refine WpOps.keep 104 (Value.bool false) (by kernel_rfl) (by kernel_rfl) (by kernel_rfl) ?_ (fun cf => (by kernel_rfl))
      refine WpOps.nil ?_
      refine thenK_at ?_
      refine Wp.off (by kernel_rfl) ?_
      refine Wp.seq ?_
      refine Wp.text ?_
      refine WpOps.keep 115 (Value.bool false) (by kernel_rfl) (by kernel_rfl) (by kernel_rfl) ?_ (fun cf => (by kernel_rfl))
      refine WpOps.keep 114 (Value.bool false) (by kernel_rfl) (by kernel_rfl) (by kernel_rfl) ?_ (fun cf => (by kernel_rfl))
      refine WpOps.nil ?_
      refine thenK_at ?_
      refine Wp.off (by kernel_rfl) ?_
      refine Wp.seq ?_
      refine Wp.text ?_
      refine WpOps.keep 144 (Value.bool true) (by kernel_rfl) (by kernel_rfl) (by kernel_rfl) ?_ (fun cf => (by kernel_rfl))
      refine WpOps.keep 143 (Value.bool true) (by kernel_rfl) (by kernel_rfl) (by kernel_rfl) ?_ (fun cf => (by kernel_rfl))
      refine WpOps.nil ?_
      refine thenK_at ?_
      refine Wp.on (by kernel_rfl) ?_
      refine Wp.seq ?_
      refine Wp.text ?_
      refine WpOps.keep 145 (Value.int IntKind.i64 (↑N : Int)) (by kernel_rfl) (by kernel_rfl) (by kernel_rfl) ?_ (fun cf => (by kernel_rfl))
      refine WpOps.keep 146 (Value.pointer (some (Addr.mk 1 1 none))) (by kernel_rfl) (by kernel_rfl) (by kernel_rfl) ?_ (fun cf => (by kernel_rfl))
      refine WpOps.keep 147 (Value.int IntKind.i64 row) (by kernel_rfl) (by kernel_rfl) (by kernel_rfl) ?_ (fun cf => (by kernel_rfl))
      refine WpOps.keep 148 (Value.pointer (some (Addr.mk 1 2 none))) (by kernel_rfl) (by kernel_rfl) (by kernel_rfl) ?_ (fun cf => (by kernel_rfl))
      refine WpOps.keep 149 (Value.int IntKind.i64 col) (by kernel_rfl) (by kernel_rfl) (by kernel_rfl) ?_ (fun cf => (by kernel_rfl))
      refine WpOps.keep 150 (Value.int IntKind.i64 (IntKind.wrap IntKind.i64 (row * col))) (by kernel_rfl) (by kernel_rfl) (by kernel_rfl) ?_ (fun cf => (by kernel_rfl))
      refine WpOps.keep 151 (Value.bool true) (by kernel_rfl) (by kernel_rfl) (by kernel_rfl) ?_ (fun cf => by_fact b2 ((by kernel_rfl)))
      refine WpOps.keep 152 (Value.bool true) (by kernel_rfl) (by kernel_rfl) (by kernel_rfl) ?_ (fun cf => (by kernel_rfl))
      refine WpOps.keep 153 (Value.pointer (some (Addr.mk 2 2 none))) (by kernel_rfl) (by kernel_rfl) (by kernel_rfl) ?_ (fun cf => (by kernel_rfl))
      refine WpOps.keep 154 (Value.int IntKind.i64 i2) (by kernel_rfl) (by kernel_rfl) (by kernel_rfl) ?_ (fun cf => (by kernel_rfl))
      refine WpOps.keep 155 (Value.pointer (some (Addr.mk 0 2 none))) (by kernel_rfl) (by kernel_rfl) (by kernel_rfl) ?_ (fun cf => (by kernel_rfl))
      refine WpOps.keep 156 (Value.int IntKind.i64 i2) (by kernel_rfl) (by kernel_rfl) (by kernel_rfl) ?_ (fun cf => (by kernel_rfl))
      refine WpOps.keep 157 (Value.bool true) (by kernel_rfl) (by kernel_rfl) (by kernel_rfl) ?_ (fun cf => by_fact b3 ((by kernel_rfl)))
      refine WpOps.keep 158 (Value.bool true) (by kernel_rfl) (by kernel_rfl) (by kernel_rfl) ?_ (fun cf => (by kernel_rfl))
      refine WpOps.keep 159 (Value.bool true) (by kernel_rfl) (by kernel_rfl) (by kernel_rfl) ?_ (fun cf => (by kernel_rfl))
      refine WpOps.keep 160 (Value.pointer (some (Addr.mk 2 3 none))) (by kernel_rfl) (by kernel_rfl) (by kernel_rfl) ?_ (fun cf => (by kernel_rfl))
      refine WpOps.keep 161 (Value.int IntKind.i64 j2) (by kernel_rfl) (by kernel_rfl) (by kernel_rfl) ?_ (fun cf => (by kernel_rfl))
      refine WpOps.keep 162 (Value.pointer (some (Addr.mk 0 3 none))) (by kernel_rfl) (by kernel_rfl) (by kernel_rfl) ?_ (fun cf => (by kernel_rfl))
      refine WpOps.keep 163 (Value.int IntKind.i64 j2) (by kernel_rfl) (by kernel_rfl) (by kernel_rfl) ?_ (fun cf => (by kernel_rfl))
      refine WpOps.keep 164 (Value.bool true) (by kernel_rfl) (by kernel_rfl) (by kernel_rfl) ?_ (fun cf => by_fact b4 ((by kernel_rfl)))
      refine WpOps.keep 165 (Value.bool true) (by kernel_rfl) (by kernel_rfl) (by kernel_rfl) ?_ (fun cf => (by kernel_rfl))
      refine WpOps.keep 166 (Value.bool true) (by kernel_rfl) (by kernel_rfl) (by kernel_rfl) ?_ (fun cf => (by kernel_rfl))
      refine WpOps.framed 167 18 [] (by kernel_rfl) (by kernel_rfl) (by kernel_rfl) (by kernel_rfl) (by kernel_rfl) (fun cf => (by kernel_rfl)) ?_
      refine WpFun.of (c3) ?_
      refine WpOps.keep 168 (Value.bool true) (by kernel_rfl) (by kernel_rfl) (by kernel_rfl) ?_ (fun cf => (by kernel_rfl))
      refine WpOps.keep 4 (Value.bool true) (by kernel_rfl) (by kernel_rfl) (by kernel_rfl) ?_ (fun cf => (by kernel_rfl))
      refine WpOps.nil ?_
      refine thenK_at ?_
      refine Wp.ret ?_
      refine blockK_ret ?_
      refine thenK_ret ?_
      refine endK_retn [Value.bool true] (Value.bool true) (by kernel_rfl) (by kernel_rfl) ?_
      rfl
    have q6 := bne_f h6
    refine Wp.exit ?_
    refine thenK_exit ?_
    refine thenK_exit ?_
    refine blockK_hit ?_
    refine thenK_at ?_
    refine Wp.seq ?_
    refine Wp.seq ?_
    refine Wp.text ?_
    refine WpOps.keep 94 (Value.pointer (some (Addr.mk 1 0 none))) (by kernel_rfl) (by kernel_rfl) (by kernel_rfl) ?_ (fun cf => (by kernel_rfl))
    refine WpOps.keep 95 (Value.int IntKind.i64 op) (by kernel_rfl) (by kernel_rfl) (by kernel_rfl) ?_ (fun cf => (by kernel_rfl))
    refine WpOps.nil ?_
    refine thenK_at ?_
    refine Wp.block ?_
    refine Wp.seq ?_
    refine Wp.seq ?_
    refine Wp.text ?_
    refine WpOps.keep 97 (Value.bool false) (by kernel_rfl) (by kernel_rfl) (by kernel_rfl) ?_ (fun cf => by_fact q0 ((by kernel_rfl)))
    refine WpOps.keep 96 (Value.bool false) (by kernel_rfl) (by kernel_rfl) (by kernel_rfl) ?_ (fun cf => (by kernel_rfl))
    refine WpOps.nil ?_
    refine thenK_at ?_
    refine Wp.off (by kernel_rfl) ?_
    refine Wp.text ?_
    refine WpOps.keep 98 (Value.bool false) (by kernel_rfl) (by kernel_rfl) (by kernel_rfl) ?_ (fun cf => by_fact q4 ((by kernel_rfl)))
    refine WpOps.keep 96 (Value.bool false) (by kernel_rfl) (by kernel_rfl) (by kernel_rfl) ?_ (fun cf => (by kernel_rfl))
    refine WpOps.nil ?_
    refine thenK_at ?_
    refine Wp.off (by kernel_rfl) ?_
    refine Wp.seq ?_
    refine Wp.text ?_
    refine WpOps.keep 105 (Value.bool false) (by kernel_rfl) (by kernel_rfl) (by kernel_rfl) ?_ (fun cf => by_fact q1 ((by kernel_rfl)))
    refine WpOps.keep 104 (Value.bool false) (by kernel_rfl) (by kernel_rfl) (by kernel_rfl) ?_ (fun cf => (by kernel_rfl))
    refine WpOps.nil ?_
    refine thenK_at ?_
    refine Wp.off (by kernel_rfl) ?_
    refine Wp.seq ?_
    refine Wp.text ?_
    refine WpOps.keep 115 (Value.bool false) (by kernel_rfl) (by kernel_rfl) (by kernel_rfl) ?_ (fun cf => by_fact q2 ((by kernel_rfl)))
    refine WpOps.keep 114 (Value.bool false) (by kernel_rfl) (by kernel_rfl) (by kernel_rfl) ?_ (fun cf => (by kernel_rfl))
    refine WpOps.nil ?_
    refine thenK_at ?_
    refine Wp.off (by kernel_rfl) ?_
    refine Wp.seq ?_
    refine Wp.text ?_
    refine WpOps.keep 144 (Value.bool false) (by kernel_rfl) (by kernel_rfl) (by kernel_rfl) ?_ (fun cf => by_fact q6 ((by kernel_rfl)))
    refine WpOps.keep 143 (Value.bool false) (by kernel_rfl) (by kernel_rfl) (by kernel_rfl) ?_ (fun cf => (by kernel_rfl))
    refine WpOps.nil ?_
    refine thenK_at ?_
    refine Wp.off (by kernel_rfl) ?_
    refine Wp.skip ?_
    refine blockK_norm ?_
    refine thenK_at ?_
    refine Wp.seq ?_
    refine Wp.text ?_
    refine WpOps.framed 169 18 [] (by kernel_rfl) (by kernel_rfl) (by kernel_rfl) (by kernel_rfl) (by kernel_rfl) (fun cf => (by kernel_rfl)) ?_
    refine WpFun.of (c3) ?_
    refine WpOps.keep 4 (Value.bool true) (by kernel_rfl) (by kernel_rfl) (by kernel_rfl) ?_ (fun cf => (by kernel_rfl))
    refine WpOps.nil ?_
    refine thenK_at ?_
    refine Wp.ret ?_
    refine endK_retn [Value.bool true] (Value.bool true) (by kernel_rfl) (by kernel_rfl) ?_
    rfl
theorem dif_of {r m : List ByteArray} {R C : Nat} {f g : Nat → Nat → UInt8} {a c : Nat} (ha : a < R) (hc : c < C) (h : dif r m (mkR R C f) (mkR R C g) a c = true) : f a c ≠ cellF r a c ∨ g a c ≠ cellF m a c := by
  unfold dif at h
  rw [mkR_at ha hc, mkR_at ha hc] at h
  by_cases q : f a c = cellF r a c
  · right
    intro q2
    rw [q, q2] at h
    simp [cellF] at h
  · exact .inl q
theorem ends_ok {r m : List ByteArray} {i j op row col n : Int} {t : ByteArray} (h : ApOk r m i j op row col n t) :
    Ends (cnt (dif r m (mkR r.length (rowAt r 0).size (apD r m i j op row col n t).f) (mkR r.length (rowAt r 0).size (apD r m i j op row col n t).g)) (rowAt r 0).size r.length) (rowAt r 0).size op row col t j (apD r m i j op row col n t).i (apD r m i j op row col n t).j i := by
  obtain ⟨⟨⟨g1, g2, g3, g4, g5⟩, _⟩, hf⟩ := h
  unfold Fits at hf
  unfold apD
  obtain ⟨a, rfl⟩ : ∃ a : Nat, i = a := ⟨i.toNat, by omega⟩
  obtain ⟨b, rfl⟩ : ∃ b : Nat, j = b := ⟨j.toNat, by omega⟩
  simp only [Int.toNat_natCast]
  unfold apF
  refine ⟨fun h0 => ?_, fun h1 => ?_, fun h2 => ?_, fun h6 => ?_⟩
  · have hz : ∀ {f g : Nat → Nat → UInt8}, f = cellF r → g = cellF m → cnt (dif r m (mkR r.length (rowAt r 0).size f) (mkR r.length (rowAt r 0).size g)) (rowAt r 0).size r.length = 0 := fun {f g} e1 e2 => by
      have := cnt_lin (h := dif r m (mkR r.length (rowAt r 0).size f) (mkR r.length (rowAt r 0).size g)) (R := r.length) (C := (rowAt r 0).size) (p0 := 0) (len := 0) (fun x y hx hy hd => by
        rcases dif_of hx hy hd with q | q
        · rw [e1] at q; exact absurd rfl q
        · rw [e2] at q; exact absurd rfl q) r.length (Nat.le_refl _)
      omega
    rcases h0 with rfl | rfl <;> exact hz rfl rfl
  · subst h1
    have := cnt_lin (h := dif r m (mkR r.length (rowAt r 0).size (tF (rowAt r 0).size (a * (rowAt r 0).size + b) t (cellF r))) (mkR r.length (rowAt r 0).size (tF (rowAt r 0).size (a * (rowAt r 0).size + b) (fillS (UInt8.ofNat (48 + n.toNat)) t.size) (cellF m)))) (R := r.length) (C := (rowAt r 0).size) (p0 := a * (rowAt r 0).size + b) (len := t.size) (fun x y hx hy hd => by
        by_cases q : a * (rowAt r 0).size + b ≤ x * (rowAt r 0).size + y ∧ x * (rowAt r 0).size + y < a * (rowAt r 0).size + b + t.size
        · exact q
        · rcases dif_of hx hy hd with q2 | q2
          · unfold tF at q2; rw [if_neg q] at q2; exact absurd rfl q2
          · unfold tF at q2; rw [fillS_size, if_neg q] at q2; exact absurd rfl q2) r.length (Nat.le_refl _)
    exact Nat.le_trans this (Nat.min_le_right _ _)
  · subst h2
    have := cnt_lin (h := dif r m (mkR r.length (rowAt r 0).size (putF (cellF r) a b (fillS 32 ((rowAt r 0).size - b)))) (mkR r.length (rowAt r 0).size (putF (cellF m) a b (fillS 48 ((rowAt r 0).size - b))))) (R := r.length) (C := (rowAt r 0).size) (p0 := a * (rowAt r 0).size + b) (len := (rowAt r 0).size - b) (fun x y hx hy hd => by
        have q : x = a ∧ b ≤ y := by
          rcases dif_of hx hy hd with q2 | q2
          · unfold putF at q2
            split at q2
            · rename_i q; exact ⟨q.1, q.2.1⟩
            · exact absurd rfl q2
          · unfold putF at q2
            split at q2
            · rename_i q; exact ⟨q.1, q.2.1⟩
            · exact absurd rfl q2
        obtain ⟨rfl, q⟩ := q
        omega) r.length (Nat.le_refl _)
    refine ⟨?_, rfl, rfl⟩
    have h3 := Nat.le_trans this (Nat.min_le_right _ _)
    show ((cnt (dif r m (mkR r.length (rowAt r 0).size (putF (cellF r) a b (fillS 32 ((rowAt r 0).size - b)))) (mkR r.length (rowAt r 0).size (putF (cellF m) a b (fillS 48 ((rowAt r 0).size - b))))) (rowAt r 0).size r.length : Nat) : Int) ≤ _
    omega
  · subst h6
    have := cnt_rect (h := dif r m (mkR r.length (rowAt r 0).size (fiF a b row.toNat col.toNat (UInt8.ofNat n.toNat) (cellF r))) (mkR r.length (rowAt r 0).size (fiF a b row.toNat col.toNat 48 (cellF m)))) (R := r.length) (C := (rowAt r 0).size) (i0 := a) (j0 := b) (row := row.toNat) (col := col.toNat) (fun x y hx hy hd => by
        rcases dif_of hx hy hd with q2 | q2
        · unfold fiF at q2
          split at q2
          · assumption
          · exact absurd rfl q2
        · unfold fiF at q2
          split at q2
          · assumption
          · exact absurd rfl q2) r.length (Nat.le_refl _)
    refine ⟨?_, rfl, rfl⟩
    have h3 : cnt (dif r m (mkR r.length (rowAt r 0).size (fiF a b row.toNat col.toNat (UInt8.ofNat n.toNat) (cellF r))) (mkR r.length (rowAt r 0).size (fiF a b row.toNat col.toNat 48 (cellF m)))) (rowAt r 0).size r.length ≤ row.toNat * col.toNat := Nat.le_trans this (Nat.mul_le_mul_right _ (Nat.min_le_right _ _))
    have h4 : ((row.toNat * col.toNat : Nat) : Int) = row * col := by rw [Int.natCast_mul, Int.toNat_of_nonneg (by omega), Int.toNat_of_nonneg (by omega)]
    show ((cnt (dif r m (mkR r.length (rowAt r 0).size (fiF a b row.toNat col.toNat (UInt8.ofNat n.toNat) (cellF r))) (mkR r.length (rowAt r 0).size (fiF a b row.toNat col.toNat 48 (cellF m)))) (rowAt r 0).size r.length : Nat) : Int) ≤ _
    omega
theorem law4 (x y : Nat) (r m : List ByteArray) (i j op row col n : Int) (t : ByteArray) (hx : x = 2 → r = []) (hy : y = 2 → m = []) (hr : ∀ k, (rowAt r k).size ≤ 140737488351232) (hm : ∀ k, (rowAt m k).size ≤ 140737488351232) (ht : t.size ≤ 140737488351232) :
    Fun E 4 [dv x y r m i j, uv op row col n t] (.bool true) := by
  have hA := Apply9 x y r m i j op row col n t hx hy hr hm ht
  by_cases h : ApOk r m i j op row col n t
  · have e : ApV r m i j op row col n t = _ := if_pos h
    rw [e] at hA
    have hl : 1 ≤ r.length := h.1.1.1.1
    exact law4_ok x y r m _ _ i j _ _ op row col n t hA h.1 (ap_good h) h.2 mkR_len (mkR_size (by omega)) (ends_ok h)
  · have e : ApV r m i j op row col n t = _ := if_neg h
    rw [e] at hA
    replace hA : Fun E 9 [dv x y r m i j, uv op row col n t] (.tuple #[.agg #[FS 9 0 2 #[], FS 9 0 2 #[], .int .i64 0, .int .i64 0], .int .i64 1]) := hA
    refine Fun.of f4 rfl (of_decide_eq_true (by kernel_rfl)) rfl ?_
    have c3 := sane18
    unfold dv uv strs at hA ⊢
    refine Wp.seq ?_
    refine Wp.text ?_
    refine WpOps.made 2 (Value.pointer (some (Addr.mk 0 0 none))) (Blk.mk 24 true [Value.iface 9 (Value.iface (List.length r) (Value.iface x (Value.agg (List.toArray (List.map Value.string r))))), Value.iface 9 (Value.iface (List.length m) (Value.iface y (Value.agg (List.toArray (List.map Value.string m))))), Value.int IntKind.i64 i, Value.int IntKind.i64 j]) (by kernel_rfl) (by kernel_rfl) (by kernel_rfl) ?_ (fun cf => (by kernel_rfl))
    refine WpOps.made 3 (Value.pointer (some (Addr.mk 1 0 none))) (Blk.mk 26 true [Value.int IntKind.i64 op, Value.int IntKind.i64 row, Value.int IntKind.i64 col, Value.int IntKind.i64 n, Value.string t]) (by kernel_rfl) (by kernel_rfl) (by kernel_rfl) ?_ (fun cf => (by kernel_rfl))
    refine WpOps.keep 4 (Value.bool false) (by kernel_rfl) (by kernel_rfl) (by kernel_rfl) ?_ (fun cf => (by kernel_rfl))
    refine WpOps.nil ?_
    refine thenK_at ?_
    refine Wp.seq ?_
    refine Wp.text ?_
    refine WpOps.keep 11 (Value.agg #[Value.iface 9 (Value.iface (List.length r) (Value.iface x (Value.agg (List.toArray (List.map Value.string r))))), Value.iface 9 (Value.iface (List.length m) (Value.iface y (Value.agg (List.toArray (List.map Value.string m))))), Value.int IntKind.i64 i, Value.int IntKind.i64 j]) (by kernel_rfl) (by kernel_rfl) (by kernel_rfl) ?_ (fun cf => (by kernel_rfl))
    refine WpOps.keep 12 (Value.agg #[Value.int IntKind.i64 op, Value.int IntKind.i64 row, Value.int IntKind.i64 col, Value.int IntKind.i64 n, Value.string t]) (by kernel_rfl) (by kernel_rfl) (by kernel_rfl) ?_ (fun cf => (by kernel_rfl))
    refine WpOps.framed 13 9 [Value.agg #[Value.iface 9 (Value.iface (List.length r) (Value.iface x (Value.agg (List.toArray (List.map Value.string r))))), Value.iface 9 (Value.iface (List.length m) (Value.iface y (Value.agg (List.toArray (List.map Value.string m))))), Value.int IntKind.i64 i, Value.int IntKind.i64 j], Value.agg #[Value.int IntKind.i64 op, Value.int IntKind.i64 row, Value.int IntKind.i64 col, Value.int IntKind.i64 n, Value.string t]] (by kernel_rfl) (by kernel_rfl) (by kernel_rfl) (by kernel_rfl) (by kernel_rfl) (fun cf => (by kernel_rfl)) ?_
    refine WpFun.of (hA) ?_
    refine WpOps.keep 10 (Value.tuple #[Value.agg #[Value.iface 9 (Value.iface 0 (Value.iface 2 (Value.agg #[]))), Value.iface 9 (Value.iface 0 (Value.iface 2 (Value.agg #[]))), Value.int IntKind.i64 0, Value.int IntKind.i64 0], Value.int IntKind.i64 1]) (by kernel_rfl) (by kernel_rfl) (by kernel_rfl) ?_ (fun cf => (by kernel_rfl))
    refine WpOps.keep 14 (Value.agg #[Value.iface 9 (Value.iface 0 (Value.iface 2 (Value.agg #[]))), Value.iface 9 (Value.iface 0 (Value.iface 2 (Value.agg #[]))), Value.int IntKind.i64 0, Value.int IntKind.i64 0]) (by kernel_rfl) (by kernel_rfl) (by kernel_rfl) ?_ (fun cf => (by kernel_rfl))
    refine WpOps.keep 15 (Value.int IntKind.i64 1) (by kernel_rfl) (by kernel_rfl) (by kernel_rfl) ?_ (fun cf => (by kernel_rfl))
    refine WpOps.made 5 (Value.pointer (some (Addr.mk 2 0 none))) (Blk.mk 24 true [Value.slice none 0 0, Value.slice none 0 0, Value.int IntKind.i64 0, Value.int IntKind.i64 0]) (by kernel_rfl) (by kernel_rfl) (by kernel_rfl) ?_ (fun cf => (by kernel_rfl))
    refine WpOps.laid (Value.tuple #[]) (2) (Blk.mk 24 true [Value.iface 9 (Value.iface 0 (Value.iface 2 (Value.agg #[]))), Value.iface 9 (Value.iface 0 (Value.iface 2 (Value.agg #[]))), Value.int IntKind.i64 0, Value.int IntKind.i64 0]) (by kernel_rfl) (by kernel_rfl) (by kernel_rfl) ?_ (fun cf => (by kernel_rfl))
    refine WpOps.keep 6 (Value.int IntKind.i64 1) (by kernel_rfl) (by kernel_rfl) (by kernel_rfl) ?_ (fun cf => (by kernel_rfl))
    refine WpOps.nil ?_
    refine thenK_at ?_
    refine Wp.seq ?_
    refine Wp.seq ?_
    refine Wp.text ?_
    refine WpOps.keep 16 (Value.int IntKind.i64 1) (by kernel_rfl) (by kernel_rfl) (by kernel_rfl) ?_ (fun cf => (by kernel_rfl))
    refine WpOps.keep 17 (Value.bool true) (by kernel_rfl) (by kernel_rfl) (by kernel_rfl) ?_ (fun cf => (by kernel_rfl))
    refine WpOps.nil ?_
    refine thenK_at ?_
    refine Wp.on (by kernel_rfl) ?_
    refine Wp.seq ?_
    refine Wp.text ?_
    refine WpOps.framed 18 18 [] (by kernel_rfl) (by kernel_rfl) (by kernel_rfl) (by kernel_rfl) (by kernel_rfl) (fun cf => (by kernel_rfl)) ?_
    refine WpFun.of (c3) ?_
    refine WpOps.keep 4 (Value.bool true) (by kernel_rfl) (by kernel_rfl) (by kernel_rfl) ?_ (fun cf => (by kernel_rfl))
    refine WpOps.nil ?_
    refine thenK_at ?_
    refine Wp.ret ?_
    refine thenK_ret ?_
    refine endK_retn [Value.bool true] (Value.bool true) (by kernel_rfl) (by kernel_rfl) ?_
    rfl
end Go.Proofs.Ytlejgfeoffhjoaa.D
