/- Least tables are found so; the laws VectorBest and VectorHeals. -/
import Derived.Test.YtfjkanjmggbofaaFwLem
import Derived.Test.YtfjkanjmggbofaaFwCons
import Derived.Test.YtfjkanjmggbofaaP12
import Derived.Test.YtfjkanjmggbofaaV12p
namespace Go.Proofs.Ytfjkanjmggbofaa.D
open Go.Fw Go.RowKit

theorem pathL_at (f : Tb) (to st : Nat) {s k : Nat} (h : k ≤ s) : (pathL f to st s).toArray.toList[(k : Int).toNat * 1]? = some (.int .i64 (nd f to st k)) := by
  rw [Int.toNat_natCast, Nat.mul_one, List.toList_toArray]
  simp [pathL, show k < s + 1 by omega]
theorem f38 : E.funcs 38 = some Try.f38 := by kernel_rfl
set_option maxHeartbeats 8000000 in
theorem least38 (n x : Nat) (ls : List Lk) (f : Tb) (d : Mx) (hn : n ≤ 20) (hy : ls.length * 24 ≤ 140737488351232) (D : Dist n (cF ls) d) (L : Least n (cF ls) d f)
    (b1 : Fun E 23 [netV n x ls] (.tuple #[matF 61 3 n (matC n d), .int .i64 0])) (l1 : Fun E 31 [netV n x ls, tabM 45 47 n f] (.tuple #[.int .i64 0, .int .i64 0]))
    (p1 : ∀ i j : Nat, i < n → j < n → Fun E 28 [netV n x ls, tabM 45 47 n f, .int .i64 i, .int .i64 j] (.tuple #[pathF f j i (stopP n (cF ls) f j i), .bool (nd f j i (stopP n (cF ls) f j i) == j), .int .i64 0])) : Fun E 38 [netV n x ls, tabM 45 47 n f] (.bool true) := by
  have t14 := to14 n x ls hy
  have c52 : ∀ a b : Nat, Fun E 52 [netV n 0 ls, .int .i64 a, .int .i64 b] (.int .i64 (cF ls a b)) := fun a b => cost52 n 0 ls a b (by omega)
  have hpc := pc_range (f := f) D.cr
  refine Fun.of f38 rfl (of_decide_eq_true (by kernel_rfl)) rfl ?_
  rw [tabM_eq] at *
  unfold netV lks matF at *
  have d0 : ((n : Int) != (n : Int)) = false := by simp
  refine Wp.seq (Wp.text ?_)
  refine md 2 (.pointer (some ⟨0, 0, none⟩)) (Blk.mk 24 true [Value.int .i64 (↑n : Int), Value.iface 48 (Value.iface (List.length ls) (Value.iface x (Value.agg (List.toArray (lcs ls)))))]) ?_
  refine kp 4 (.bool false) ?_
  refine WpOps.nil (thenK_at (Wp.seq (Wp.text ?_)))
  refine kp 17 (.agg #[Value.int .i64 (↑n : Int), Value.iface 48 (Value.iface (List.length ls) (Value.iface x (Value.agg (List.toArray (lcs ls)))))]) ?_
  refine fr 18 23 [Value.agg #[Value.int .i64 (↑n : Int), Value.iface 48 (Value.iface (List.length ls) (Value.iface x (Value.agg (List.toArray (lcs ls)))))]] ?_
  refine WpFun.of (b1) ?_
  refine kp 16 (.tuple #[FS 61 n 0 (List.toArray (List.map (fun r => FS 3 n 0 (List.toArray r)) (matC n d))), Value.int .i64 0]) ?_
  refine kp 19 (.iface 61 (Value.iface n (Value.iface 0 (Value.agg (List.toArray (List.map (fun r => FS 3 n 0 (List.toArray r)) (matC n d))))))) ?_
  refine kp 20 (.int IntKind.i64 0) ?_
  refine kp 5 (.iface 61 (Value.iface n (Value.iface 0 (Value.agg (List.toArray (List.map (fun r => FS 3 n 0 (List.toArray r)) (matC n d))))))) ?_
  refine kp 6 (.int IntKind.i64 0) ?_
  refine WpOps.nil (thenK_at (Wp.seq (Wp.text ?_)))
  refine kp 22 (.agg #[Value.int .i64 (↑n : Int), Value.iface 48 (Value.iface (List.length ls) (Value.iface x (Value.agg (List.toArray (lcs ls)))))]) ?_
  refine kp 23 (.iface 45 (Value.iface n (Value.iface 0 (Value.agg (List.toArray (List.map (fun r => FS 47 n 0 (List.toArray r)) (rowsM n f))))))) ?_
  refine fr 24 31 [Value.agg #[Value.int .i64 (↑n : Int), Value.iface 48 (Value.iface (List.length ls) (Value.iface x (Value.agg (List.toArray (lcs ls)))))], Value.iface 45 (Value.iface n (Value.iface 0 (Value.agg (List.toArray (List.map (fun r => FS 47 n 0 (List.toArray r)) (rowsM n f))))))] ?_
  refine WpFun.of (l1) ?_
  refine kp 21 (.tuple #[Value.int .i64 0, Value.int .i64 0]) ?_
  refine kp 25 (.int IntKind.i64 0) ?_
  refine kp 26 (.int IntKind.i64 0) ?_
  refine kp 7 (.int IntKind.i64 0) ?_
  refine kp 8 (.int IntKind.i64 0) ?_
  refine WpOps.nil (thenK_at (Wp.seq (Wp.seq (Wp.text ?_))))
  refine kp 27 (.int IntKind.i64 0) ?_
  refine kp 28 (.bool false) ?_
  refine kp 29 (.bool false) ?_
  refine kp 30 (.int IntKind.i64 0) ?_
  refine kp 31 (.bool false) ?_
  refine kp 32 (.bool false) ?_
  refine kp 33 (.bool false) ?_
  refine kp 34 (.int IntKind.i64 0) ?_
  refine kp 35 (.bool false) ?_
  refine kp 36 (.bool false) ?_
  refine kp 37 (.bool false) ?_
  refine kp 38 (.iface 61 (Value.iface n (Value.iface 0 (Value.agg (List.toArray (List.map (fun r => FS 3 n 0 (List.toArray r)) (matC n d))))))) ?_
  refine kp 39 (.int IntKind.i64 (↑n : Int)) ?_
  refine kp 40 (.pointer (some ⟨0, 0, none⟩)) ?_
  refine kp 41 (.int IntKind.i64 (↑n : Int)) ?_
  refine kp 42 (.bool false) ?_ (hop := fun _ => by_fact d0)
  refine kp 43 (.bool false) ?_
  refine kp 44 (.bool false) ?_
  refine kp 45 (.iface 45 (Value.iface n (Value.iface 0 (Value.agg (List.toArray (List.map (fun r => FS 47 n 0 (List.toArray r)) (rowsM n f))))))) ?_
  refine kp 46 (.int IntKind.i64 (↑n : Int)) ?_
  refine kp 47 (.pointer (some ⟨0, 0, none⟩)) ?_
  refine kp 48 (.int IntKind.i64 (↑n : Int)) ?_
  refine kp 49 (.bool false) ?_ (hop := fun _ => by_fact d0)
  refine kp 50 (.bool false) ?_
  refine WpOps.nil (thenK_at (off' (Wp.skip (thenK_at (Wp.seq (Wp.seq (Wp.text ?_)))))))
  refine kp 9 (.int IntKind.i64 0) ?_
  refine WpOps.nil (thenK_at (Wp.block ?_))
  refine Wp.loop (G := Nat) (fun i => layj [(1, matF 45 47 n (rowsM n f)), (2, .pointer (some ⟨0, 0, none⟩)), (5, matF 61 3 n (matC n d)), (9, .int .i64 i)]) (fun _ => heapOf [nv n x ls]) (fun i => n - i) (fun i => i ≤ n) 0
    (View.of [0] [nv n x ls] _ (by decide) rfl ⟨⟨[.int .i64 n, lks x ls], by kernel_rfl, by kernel_rfl, by kernel_rfl⟩, trivial⟩ ⟨⟨by kernel_rfl, rfl⟩, ⟨by kernel_rfl, rfl⟩, ⟨by kernel_rfl, rfl⟩, ⟨by kernel_rfl, rfl⟩, trivial⟩) (Nat.zero_le _) ?_
  intro i hi
  unfold nv lks matF
  by_cases hlt : i < n
  · have d1 : decide ((i : Int) < n) = true := decide_eq_true (by omega)
    refine Wp.seq (Wp.seq (Wp.text ?_))
    refine kp 51 (.int IntKind.i64 (↑i : Int)) ?_
    refine kp 52 (.pointer (some ⟨0, 0, none⟩)) ?_
    refine kp 53 (.int IntKind.i64 (↑n : Int)) ?_
    refine kp 54 (.bool true) ?_ (hop := fun _ => by_fact d1)
    refine WpOps.nil (thenK_at (on' (Wp.skip (thenK_at (Wp.seq (Wp.block (Wp.seq (Wp.text ?_))))))))
    refine kp 10 (.int IntKind.i64 0) ?_
    refine WpOps.nil (thenK_at (Wp.block ?_))
    refine Wp.loop (G := Nat) (fun j => layj [(1, matF 45 47 n (rowsM n f)), (2, .pointer (some ⟨0, 0, none⟩)), (5, matF 61 3 n (matC n d)), (9, .int .i64 i), (10, .int .i64 j)]) (fun _ => heapOf [nv n x ls]) (fun j => n - j) (fun j => j ≤ n) 0
      (View.of [0] [nv n x ls] _ (by decide) rfl ⟨⟨[.int .i64 n, lks x ls], by kernel_rfl, by kernel_rfl, by kernel_rfl⟩, trivial⟩ ⟨⟨by kernel_rfl, rfl⟩, ⟨by kernel_rfl, rfl⟩, ⟨by kernel_rfl, rfl⟩, ⟨by kernel_rfl, rfl⟩, ⟨by kernel_rfl, rfl⟩, trivial⟩) (Nat.zero_le _) ?_
    intro j hj
    unfold nv lks matF
    by_cases hlt2 : j < n
    · have d2 : decide ((j : Int) < n) = true := decide_eq_true (by omega)
      have g1 : 0 ≤ (i : Int) ∧ (i : Int) < n := by omega
      have g2 : 0 ≤ (j : Int) ∧ (j : Int) < n := by omega
      have u1 := matF_at 47 n (rowsM n f) (rowsM_at (f := f) hlt)
      obtain ⟨u2, _⟩ := rowM_at f i hlt2
      rw [L.cost D i j hlt hlt2] at u2
      have u3 := matF_at 3 n (matC n d) (matC_at (c := d) hlt)
      have u4 := matC_cell (c := d) (i := i) hlt2
      have e1 : (d i j != d i j) = false := by simp
      have hb := D.bd i j
      have c3 := p1 i j hlt hlt2
      clear p1
      by_cases h16 : d i j < 16
      · have d16 : decide (d i j < 16) = true := decide_eq_true h16
        obtain ⟨hs, hend, hcost⟩ := path_near D L hlt hlt2 h16
        generalize stopP n (cF ls) f j i = s at c3 hs hend hcost
        rw [hend, beq_self_eq_true] at c3
        unfold pathF at c3
        have e5 : (((s + 1 : Nat) : Int) == 0) = false := beq_eq_false_iff_ne.2 (by omega)
        refine Wp.seq (Wp.seq (Wp.text ?_))
        refine kp 57 (.int IntKind.i64 (↑j : Int)) ?_
        refine kp 58 (.pointer (some ⟨0, 0, none⟩)) ?_
        refine kp 59 (.int IntKind.i64 (↑n : Int)) ?_
        refine kp 60 (.bool true) ?_ (hop := fun _ => by_fact d2)
        refine WpOps.nil (thenK_at (on' (Wp.skip (thenK_at (Wp.seq (Wp.block (Wp.seq (Wp.seq ?_))))))))
        refine Wp.region (by kernel_rfl) ?_
        refine kp 63 (.iface 45 (Value.iface n (Value.iface 0 (Value.agg (List.toArray (List.map (fun r => FS 47 n 0 (List.toArray r)) (rowsM n f))))))) ?_
        refine kp 64 (.int IntKind.i64 (↑i : Int)) ?_
        refine kp 65 (.iface 45 (Value.iface (Int.toNat (↑i : Int) * 1) (Value.agg (List.toArray (List.map (fun r => FS 47 n 0 (List.toArray r)) (rowsM n f)))))) ?_ (hop := fun _ => o_indexI (e := 45) (size := 1) (a := (↑i : Int)) g1)
        refine kp 66 (.iface 47 (Value.iface n (Value.iface 0 (Value.agg (List.toArray (rcs (List.map (f i) (List.range n)))))))) ?_ (hop := fun _ => o_loadI1 (Int.toNat (↑i : Int) * 1) u1)
        refine kp 67 (.int IntKind.i64 (↑n : Int)) ?_
        refine kp 68 (.pointer (some ⟨0, 0, none⟩)) ?_
        refine kp 69 (.int IntKind.i64 (↑n : Int)) ?_
        refine kp 70 (.bool false) ?_ (hop := fun _ => by_fact d0)
        refine kp 71 (.bool false) ?_
        refine kp 72 (.iface 61 (Value.iface n (Value.iface 0 (Value.agg (List.toArray (List.map (fun r => FS 3 n 0 (List.toArray r)) (matC n d))))))) ?_
        refine kp 73 (.int IntKind.i64 (↑i : Int)) ?_
        refine kp 74 (.iface 61 (Value.iface (Int.toNat (↑i : Int) * 1) (Value.agg (List.toArray (List.map (fun r => FS 3 n 0 (List.toArray r)) (matC n d)))))) ?_ (hop := fun _ => o_indexI (e := 61) (size := 1) (a := (↑i : Int)) g1)
        refine kp 75 (.iface 3 (Value.iface n (Value.iface 0 (Value.agg (List.toArray (List.map (fun j => Value.int .i64 (d i j)) (List.range n))))))) ?_ (hop := fun _ => o_loadI1 (Int.toNat (↑i : Int) * 1) u3)
        refine kp 76 (.int IntKind.i64 (↑n : Int)) ?_
        refine kp 77 (.pointer (some ⟨0, 0, none⟩)) ?_
        refine kp 78 (.int IntKind.i64 (↑n : Int)) ?_
        refine kp 79 (.bool false) ?_ (hop := fun _ => by_fact d0)
        refine kp 80 (.bool false) ?_
        refine kp 81 (.bool false) ?_
        refine kp 82 (.iface 45 (Value.iface n (Value.iface 0 (Value.agg (List.toArray (List.map (fun r => FS 47 n 0 (List.toArray r)) (rowsM n f))))))) ?_
        refine kp 83 (.int IntKind.i64 (↑i : Int)) ?_
        refine kp 84 (.iface 45 (Value.iface (Int.toNat (↑i : Int) * 1) (Value.agg (List.toArray (List.map (fun r => FS 47 n 0 (List.toArray r)) (rowsM n f)))))) ?_ (hop := fun _ => o_indexI (e := 45) (size := 1) (a := (↑i : Int)) g1)
        refine kp 85 (.iface 47 (Value.iface n (Value.iface 0 (Value.agg (List.toArray (rcs (List.map (f i) (List.range n)))))))) ?_ (hop := fun _ => o_loadI1 (Int.toNat (↑i : Int) * 1) u1)
        refine kp 86 (.int IntKind.i64 (↑j : Int)) ?_
        refine kp 87 (.iface 47 (Value.iface (Int.toNat (↑j : Int) * 2) (Value.agg (List.toArray (rcs (List.map (f i) (List.range n))))))) ?_ (hop := fun _ => o_indexI (e := 47) (size := 2) (a := (↑j : Int)) g2)
        refine kp 88 (.iface 47 (Value.iface (Int.toNat (↑j : Int) * 2 + 0) (Value.agg (List.toArray (rcs (List.map (f i) (List.range n))))))) ?_
        refine kp 89 (.int IntKind.i64 (d i j)) ?_ (hop := fun _ => o_loadI1 (Int.toNat (↑j : Int) * 2 + 0) u2)
        refine kp 90 (.iface 61 (Value.iface n (Value.iface 0 (Value.agg (List.toArray (List.map (fun r => FS 3 n 0 (List.toArray r)) (matC n d))))))) ?_
        refine kp 91 (.int IntKind.i64 (↑i : Int)) ?_
        refine kp 92 (.iface 61 (Value.iface (Int.toNat (↑i : Int) * 1) (Value.agg (List.toArray (List.map (fun r => FS 3 n 0 (List.toArray r)) (matC n d)))))) ?_ (hop := fun _ => o_indexI (e := 61) (size := 1) (a := (↑i : Int)) g1)
        refine kp 93 (.iface 3 (Value.iface n (Value.iface 0 (Value.agg (List.toArray (List.map (fun j => Value.int .i64 (d i j)) (List.range n))))))) ?_ (hop := fun _ => o_loadI1 (Int.toNat (↑i : Int) * 1) u3)
        refine kp 94 (.int IntKind.i64 (↑j : Int)) ?_
        refine kp 95 (.iface 3 (Value.iface (Int.toNat (↑j : Int) * 1) (Value.agg (List.toArray (List.map (fun j => Value.int .i64 (d i j)) (List.range n)))))) ?_ (hop := fun _ => o_indexI (e := 3) (size := 1) (a := (↑j : Int)) g2)
        refine kp 96 (.int IntKind.i64 (d i j)) ?_ (hop := fun _ => o_loadI1 (Int.toNat (↑j : Int) * 1) u4)
        refine kp 97 (.bool false) ?_ (hop := fun _ => by_fact e1)
        refine kp 98 (.bool false) ?_
        refine WpOps.nil (thenK_at (off' (Wp.skip (thenK_at (Wp.seq (Wp.text ?_))))))
        refine kp 100 (.agg #[Value.int .i64 (↑n : Int), Value.iface 48 (Value.iface (List.length ls) (Value.iface x (Value.agg (List.toArray (lcs ls)))))]) ?_
        refine kp 101 (.iface 45 (Value.iface n (Value.iface 0 (Value.agg (List.toArray (List.map (fun r => FS 47 n 0 (List.toArray r)) (rowsM n f))))))) ?_
        refine kp 102 (.int IntKind.i64 (↑i : Int)) ?_
        refine kp 103 (.int IntKind.i64 (↑j : Int)) ?_
        refine fr 104 28 [Value.agg #[Value.int .i64 (↑n : Int), Value.iface 48 (Value.iface (List.length ls) (Value.iface x (Value.agg (List.toArray (lcs ls)))))], Value.iface 45 (Value.iface n (Value.iface 0 (Value.agg (List.toArray (List.map (fun r => FS 47 n 0 (List.toArray r)) (rowsM n f)))))), Value.int .i64 (↑i : Int), Value.int .i64 (↑j : Int)] ?_
        refine WpFun.of (c3) ?_
        refine kp 99 (.tuple #[FS 3 (s + 1) 0 (List.toArray (pathL f j i s)), Value.bool true, Value.int .i64 0]) ?_
        refine kp 105 (.iface 3 (Value.iface (s + 1) (Value.iface 0 (Value.agg (List.toArray (pathL f j i s)))))) ?_
        refine kp 106 (.bool true) ?_
        refine kp 107 (.int IntKind.i64 0) ?_
        refine kp 11 (.iface 3 (Value.iface (s + 1) (Value.iface 0 (Value.agg (List.toArray (pathL f j i s)))))) ?_
        refine kp 12 (.bool true) ?_
        refine kp 13 (.int IntKind.i64 0) ?_
        refine WpOps.nil (thenK_at (Wp.seq (Wp.seq (Wp.text ?_))))
        refine kp 108 (.int IntKind.i64 0) ?_
        refine kp 109 (.bool false) ?_
        refine kp 110 (.bool false) ?_
        refine kp 111 (.bool true) ?_
        refine kp 112 (.iface 61 (Value.iface n (Value.iface 0 (Value.agg (List.toArray (List.map (fun r => FS 3 n 0 (List.toArray r)) (matC n d))))))) ?_
        refine kp 113 (.int IntKind.i64 (↑i : Int)) ?_
        refine kp 114 (.iface 61 (Value.iface (Int.toNat (↑i : Int) * 1) (Value.agg (List.toArray (List.map (fun r => FS 3 n 0 (List.toArray r)) (matC n d)))))) ?_ (hop := fun _ => o_indexI (e := 61) (size := 1) (a := (↑i : Int)) g1)
        refine kp 115 (.iface 3 (Value.iface n (Value.iface 0 (Value.agg (List.toArray (List.map (fun j => Value.int .i64 (d i j)) (List.range n))))))) ?_ (hop := fun _ => o_loadI1 (Int.toNat (↑i : Int) * 1) u3)
        refine kp 116 (.int IntKind.i64 (↑j : Int)) ?_
        refine kp 117 (.iface 3 (Value.iface (Int.toNat (↑j : Int) * 1) (Value.agg (List.toArray (List.map (fun j => Value.int .i64 (d i j)) (List.range n)))))) ?_ (hop := fun _ => o_indexI (e := 3) (size := 1) (a := (↑j : Int)) g2)
        refine kp 118 (.int IntKind.i64 (d i j)) ?_ (hop := fun _ => o_loadI1 (Int.toNat (↑j : Int) * 1) u4)
        refine kp 119 (.bool true) ?_ (hop := fun _ => by_fact d16)
        refine kp 120 (.bool false) ?_
        refine kp 121 (.bool false) ?_
        refine kp 122 (.bool false) ?_
        refine kp 123 (.iface 3 (Value.iface (s + 1) (Value.iface 0 (Value.agg (List.toArray (pathL f j i s)))))) ?_
        refine kp 124 (.int IntKind.i64 (↑(s + 1) : Int)) ?_
        refine kp 125 (.bool ((↑(s + 1) : Int) == 0)) ?_
        refine kp 126 (.bool ((↑(s + 1) : Int) == 0)) ?_
        refine WpOps.nil (thenK_at (off' (Wp.skip (thenK_at (Wp.seq (Wp.text ?_))))))
        refine kp 14 (.int IntKind.i64 0) ?_
        refine WpOps.nil (thenK_at (Wp.seq (Wp.seq (Wp.text ?_))))
        refine kp 15 (.int IntKind.i64 0) ?_
        refine WpOps.nil (thenK_at (Wp.block ?_))
        refine Wp.loop (G := Nat) (fun k => layj [(1, matF 45 47 n (rowsM n f)), (2, .pointer (some ⟨0, 0, none⟩)), (5, matF 61 3 n (matC n d)), (9, .int .i64 i), (10, .int .i64 j), (11, FS 3 (s + 1) 0 (pathL f j i s).toArray), (12, .bool true), (14, .int .i64 (pc (cF ls) f j i k)), (15, .int .i64 k)]) (fun _ => heapOf [nv n x ls]) (fun k => s - k) (fun k => k ≤ s) 0
          (View.of [0] [nv n x ls] _ (by decide) rfl ⟨⟨[.int .i64 n, lks x ls], by kernel_rfl, by kernel_rfl, by kernel_rfl⟩, trivial⟩ ⟨⟨by kernel_rfl, rfl⟩, ⟨by kernel_rfl, rfl⟩, ⟨by kernel_rfl, rfl⟩, ⟨by kernel_rfl, rfl⟩, ⟨by kernel_rfl, rfl⟩, ⟨by kernel_rfl, rfl⟩, ⟨by kernel_rfl, rfl⟩, ⟨by kernel_rfl, rfl⟩, ⟨by kernel_rfl, rfl⟩, trivial⟩) (Nat.zero_le _) ?_
        intro k hk
        unfold nv lks matF
        have hkp := hpc j i k
        have ew : IntKind.i64.wrap ((k : Int) + 1) = ((k + 1 : Nat) : Int) := by rw [wr _ (by omega) (by omega)]; omega
        by_cases hlt3 : k < s
        · have d3 : decide (IntKind.i64.wrap ((k : Int) + 1) < ((s + 1 : Nat) : Int)) = true := decide_eq_true (by rw [ew]; omega)
          have g3 : 0 ≤ (k : Int) ∧ (k : Int) < ((s + 1 : Nat) : Int) := by omega
          have g4 : 0 ≤ IntKind.i64.wrap ((k : Int) + 1) ∧ IntKind.i64.wrap ((k : Int) + 1) < ((s + 1 : Nat) : Int) := by rw [ew]; omega
          have u5 := pathL_at f j i (s := s) (k := k) (by omega)
          have u6 : (pathL f j i s).toArray.toList[(IntKind.i64.wrap ((k : Int) + 1)).toNat * 1]? = some (.int .i64 (nd f j i (k + 1))) := by
            rw [ew]
            exact pathL_at f j i (by omega)
          have c6 := c52 (nd f j i k) (nd f j i (k + 1))
          have hkp2 := hpc j i (k + 1)
          have hsum : pc (cF ls) f j i (k + 1) = pc (cF ls) f j i k + cF ls (nd f j i k) (nd f j i (k + 1)) := rfl
          clear c52
          refine Wp.seq (Wp.seq (Wp.text ?_))
          refine kp 127 (.bool true) ?_
          refine kp 128 (.bool true) ?_
          refine kp 129 (.int IntKind.i64 (↑k : Int)) ?_
          refine kp 130 (.int IntKind.i64 (IntKind.wrap .i64 ((↑k : Int) + 1))) ?_
          refine kp 131 (.iface 3 (Value.iface (s + 1) (Value.iface 0 (Value.agg (List.toArray (pathL f j i s)))))) ?_
          refine kp 132 (.int IntKind.i64 (↑(s + 1) : Int)) ?_
          refine kp 133 (.bool true) ?_ (hop := fun _ => by_fact d3)
          refine kp 134 (.bool true) ?_
          refine WpOps.nil (thenK_at (on' (Wp.skip (thenK_at (Wp.seq (Wp.block ?_))))))
          refine Wp.region (by kernel_rfl) ?_
          refine kp 137 (.int IntKind.i64 (pc (cF ls) f j i k)) ?_
          refine kp 138 (.agg #[Value.int .i64 (↑n : Int), Value.iface 48 (Value.iface (List.length ls) (Value.iface x (Value.agg (List.toArray (lcs ls)))))]) ?_
          refine fr 139 14 [Value.agg #[Value.int .i64 (↑n : Int), Value.iface 48 (Value.iface (List.length ls) (Value.iface x (Value.agg (List.toArray (lcs ls)))))]] ?_
          refine WpFun.of (t14) ?_
          refine kp 140 (.iface 3 (Value.iface (s + 1) (Value.iface 0 (Value.agg (List.toArray (pathL f j i s)))))) ?_
          refine kp 141 (.int IntKind.i64 (↑k : Int)) ?_
          refine kp 142 (.iface 3 (Value.iface (Int.toNat (↑k : Int) * 1) (Value.agg (List.toArray (pathL f j i s))))) ?_ (hop := fun _ => o_indexI (e := 3) (size := 1) (a := (↑k : Int)) g3)
          refine kp 143 (.int IntKind.i64 (↑(nd f j i k) : Int)) ?_ (hop := fun _ => o_loadI1 (Int.toNat (↑k : Int) * 1) u5)
          refine kp 144 (.iface 3 (Value.iface (s + 1) (Value.iface 0 (Value.agg (List.toArray (pathL f j i s)))))) ?_
          refine kp 145 (.int IntKind.i64 (↑k : Int)) ?_
          refine kp 146 (.int IntKind.i64 (IntKind.wrap .i64 ((↑k : Int) + 1))) ?_
          refine kp 147 (.iface 3 (Value.iface (Int.toNat (IntKind.wrap .i64 ((↑k : Int) + 1)) * 1) (Value.agg (List.toArray (pathL f j i s))))) ?_ (hop := fun _ => o_indexI (e := 3) (size := 1) (a := IntKind.wrap IntKind.i64 ((↑k : Int) + 1)) g4)
          refine kp 148 (.int IntKind.i64 (↑(nd f j i (k + 1)) : Int)) ?_ (hop := fun _ => o_loadI1 (Int.toNat (IntKind.wrap IntKind.i64 ((↑k : Int) + 1)) * 1) u6)
          refine fr 149 52 [Value.agg #[Value.int .i64 (↑n : Int), FS 48 (List.length ls) 0 (List.toArray (lcs ls))], Value.int .i64 (↑(nd f j i k) : Int), Value.int .i64 (↑(nd f j i (k + 1)) : Int)] ?_
          refine WpFun.of (c6) ?_
          refine kp 150 (.int IntKind.i64 (IntKind.wrap .i64 (pc (cF ls) f j i k + cF ls (nd f j i k) (nd f j i (k + 1))))) ?_
          refine kp 14 (.int IntKind.i64 (IntKind.wrap .i64 (pc (cF ls) f j i k + cF ls (nd f j i k) (nd f j i (k + 1))))) ?_
          refine WpOps.nil (blockK_norm (thenK_at (Wp.text ?_)))
          refine kp 135 (.int IntKind.i64 (↑k : Int)) ?_
          refine kp 136 (.int IntKind.i64 (IntKind.wrap .i64 ((↑k : Int) + 1))) ?_
          refine kp 15 (.int IntKind.i64 (IntKind.wrap .i64 ((↑k : Int) + 1))) ?_
          refine WpOps.nil (thenK_at ?_)
          exact ⟨k + 1, by omega, by omega, View.of [0] [nv n x ls] _ (by decide) rfl ⟨⟨[.int .i64 n, lks x ls], by kernel_rfl, by kernel_rfl, by kernel_rfl⟩, trivial⟩ ⟨⟨by kernel_rfl, rfl⟩, ⟨by kernel_rfl, rfl⟩, ⟨by kernel_rfl, rfl⟩, ⟨by kernel_rfl, rfl⟩, ⟨by kernel_rfl, rfl⟩, ⟨by kernel_rfl, rfl⟩, ⟨by kernel_rfl, rfl⟩, ⟨congrArg (Value.int .i64) ((wr _ (by omega) (by omega)).trans hsum.symm), rfl⟩, ⟨congrArg (Value.int .i64) (wr _ (by omega) (by omega)), rfl⟩, trivial⟩⟩
        · obtain rfl : s = k := by omega
          have d3 : decide (IntKind.i64.wrap ((s : Int) + 1) < ((s + 1 : Nat) : Int)) = false := decide_eq_false (by rw [ew]; omega)
          rw [hcost]
          refine Wp.seq (Wp.seq (Wp.text ?_))
          refine kp 127 (.bool true) ?_
          refine kp 128 (.bool true) ?_
          refine kp 129 (.int IntKind.i64 (↑s : Int)) ?_
          refine kp 130 (.int IntKind.i64 (IntKind.wrap .i64 ((↑s : Int) + 1))) ?_
          refine kp 131 (.iface 3 (Value.iface (s + 1) (Value.iface 0 (Value.agg (List.toArray (pathL f j i s)))))) ?_
          refine kp 132 (.int IntKind.i64 (↑(s + 1) : Int)) ?_
          refine kp 133 (.bool false) ?_ (hop := fun _ => by_fact d3)
          refine kp 134 (.bool false) ?_
          refine WpOps.nil (thenK_at (off' (Wp.exit (thenK_exit (thenK_exit (blockK_hit (thenK_at (Wp.seq (Wp.text ?_)))))))))
          refine kp 151 (.bool true) ?_
          refine kp 152 (.bool true) ?_
          refine kp 153 (.int IntKind.i64 (d i j)) ?_
          refine kp 154 (.iface 61 (Value.iface n (Value.iface 0 (Value.agg (List.toArray (List.map (fun r => FS 3 n 0 (List.toArray r)) (matC n d))))))) ?_
          refine kp 155 (.int IntKind.i64 (↑i : Int)) ?_
          refine kp 156 (.iface 61 (Value.iface (Int.toNat (↑i : Int) * 1) (Value.agg (List.toArray (List.map (fun r => FS 3 n 0 (List.toArray r)) (matC n d)))))) ?_ (hop := fun _ => o_indexI (e := 61) (size := 1) (a := (↑i : Int)) g1)
          refine kp 157 (.iface 3 (Value.iface n (Value.iface 0 (Value.agg (List.toArray (List.map (fun j => Value.int .i64 (d i j)) (List.range n))))))) ?_ (hop := fun _ => o_loadI1 (Int.toNat (↑i : Int) * 1) u3)
          refine kp 158 (.int IntKind.i64 (↑j : Int)) ?_
          refine kp 159 (.iface 3 (Value.iface (Int.toNat (↑j : Int) * 1) (Value.agg (List.toArray (List.map (fun j => Value.int .i64 (d i j)) (List.range n)))))) ?_ (hop := fun _ => o_indexI (e := 3) (size := 1) (a := (↑j : Int)) g2)
          refine kp 160 (.int IntKind.i64 (d i j)) ?_ (hop := fun _ => o_loadI1 (Int.toNat (↑j : Int) * 1) u4)
          refine kp 161 (.bool false) ?_ (hop := fun _ => by_fact e1)
          refine kp 162 (.bool false) ?_
          refine WpOps.nil (thenK_at (off' (Wp.skip (blockK_norm (thenK_at (Wp.text ?_))))))
          refine kp 61 (.int IntKind.i64 (↑j : Int)) ?_
          refine kp 62 (.int IntKind.i64 (IntKind.wrap .i64 ((↑j : Int) + 1))) ?_
          refine kp 10 (.int IntKind.i64 (IntKind.wrap .i64 ((↑j : Int) + 1))) ?_
          refine WpOps.nil (thenK_at ?_)
          exact ⟨j + 1, by omega, by omega, View.of [0] [nv n x ls] _ (by decide) rfl ⟨⟨[.int .i64 n, lks x ls], by kernel_rfl, by kernel_rfl, by kernel_rfl⟩, trivial⟩ ⟨⟨by kernel_rfl, rfl⟩, ⟨by kernel_rfl, rfl⟩, ⟨by kernel_rfl, rfl⟩, ⟨by kernel_rfl, rfl⟩, ⟨congrArg (Value.int .i64) (wr _ (by omega) (by omega)), rfl⟩, trivial⟩⟩
      · have d16 : decide (d i j < 16) = false := decide_eq_false h16
        have hij : ¬ i = j := fun e => by
          subst e
          rw [D.diag i hlt] at h16
          omega
        have hs := path_far L hlt hlt2 hij (by omega)
        have hne : (nd f j i 0 == j) = false := by
          show (i == j) = false
          simpa using hij
        rw [hs, hne] at c3
        unfold pathF at c3
        have e5 : (((0 + 1 : Nat) : Int) == 0) = false := rfl
        refine Wp.seq (Wp.seq (Wp.text ?_))
        refine kp 57 (.int IntKind.i64 (↑j : Int)) ?_
        refine kp 58 (.pointer (some ⟨0, 0, none⟩)) ?_
        refine kp 59 (.int IntKind.i64 (↑n : Int)) ?_
        refine kp 60 (.bool true) ?_ (hop := fun _ => by_fact d2)
        refine WpOps.nil (thenK_at (on' (Wp.skip (thenK_at (Wp.seq (Wp.block (Wp.seq (Wp.seq ?_))))))))
        refine Wp.region (by kernel_rfl) ?_
        refine kp 63 (.iface 45 (Value.iface n (Value.iface 0 (Value.agg (List.toArray (List.map (fun r => FS 47 n 0 (List.toArray r)) (rowsM n f))))))) ?_
        refine kp 64 (.int IntKind.i64 (↑i : Int)) ?_
        refine kp 65 (.iface 45 (Value.iface (Int.toNat (↑i : Int) * 1) (Value.agg (List.toArray (List.map (fun r => FS 47 n 0 (List.toArray r)) (rowsM n f)))))) ?_ (hop := fun _ => o_indexI (e := 45) (size := 1) (a := (↑i : Int)) g1)
        refine kp 66 (.iface 47 (Value.iface n (Value.iface 0 (Value.agg (List.toArray (rcs (List.map (f i) (List.range n)))))))) ?_ (hop := fun _ => o_loadI1 (Int.toNat (↑i : Int) * 1) u1)
        refine kp 67 (.int IntKind.i64 (↑n : Int)) ?_
        refine kp 68 (.pointer (some ⟨0, 0, none⟩)) ?_
        refine kp 69 (.int IntKind.i64 (↑n : Int)) ?_
        refine kp 70 (.bool false) ?_ (hop := fun _ => by_fact d0)
        refine kp 71 (.bool false) ?_
        refine kp 72 (.iface 61 (Value.iface n (Value.iface 0 (Value.agg (List.toArray (List.map (fun r => FS 3 n 0 (List.toArray r)) (matC n d))))))) ?_
        refine kp 73 (.int IntKind.i64 (↑i : Int)) ?_
        refine kp 74 (.iface 61 (Value.iface (Int.toNat (↑i : Int) * 1) (Value.agg (List.toArray (List.map (fun r => FS 3 n 0 (List.toArray r)) (matC n d)))))) ?_ (hop := fun _ => o_indexI (e := 61) (size := 1) (a := (↑i : Int)) g1)
        refine kp 75 (.iface 3 (Value.iface n (Value.iface 0 (Value.agg (List.toArray (List.map (fun j => Value.int .i64 (d i j)) (List.range n))))))) ?_ (hop := fun _ => o_loadI1 (Int.toNat (↑i : Int) * 1) u3)
        refine kp 76 (.int IntKind.i64 (↑n : Int)) ?_
        refine kp 77 (.pointer (some ⟨0, 0, none⟩)) ?_
        refine kp 78 (.int IntKind.i64 (↑n : Int)) ?_
        refine kp 79 (.bool false) ?_ (hop := fun _ => by_fact d0)
        refine kp 80 (.bool false) ?_
        refine kp 81 (.bool false) ?_
        refine kp 82 (.iface 45 (Value.iface n (Value.iface 0 (Value.agg (List.toArray (List.map (fun r => FS 47 n 0 (List.toArray r)) (rowsM n f))))))) ?_
        refine kp 83 (.int IntKind.i64 (↑i : Int)) ?_
        refine kp 84 (.iface 45 (Value.iface (Int.toNat (↑i : Int) * 1) (Value.agg (List.toArray (List.map (fun r => FS 47 n 0 (List.toArray r)) (rowsM n f)))))) ?_ (hop := fun _ => o_indexI (e := 45) (size := 1) (a := (↑i : Int)) g1)
        refine kp 85 (.iface 47 (Value.iface n (Value.iface 0 (Value.agg (List.toArray (rcs (List.map (f i) (List.range n)))))))) ?_ (hop := fun _ => o_loadI1 (Int.toNat (↑i : Int) * 1) u1)
        refine kp 86 (.int IntKind.i64 (↑j : Int)) ?_
        refine kp 87 (.iface 47 (Value.iface (Int.toNat (↑j : Int) * 2) (Value.agg (List.toArray (rcs (List.map (f i) (List.range n))))))) ?_ (hop := fun _ => o_indexI (e := 47) (size := 2) (a := (↑j : Int)) g2)
        refine kp 88 (.iface 47 (Value.iface (Int.toNat (↑j : Int) * 2 + 0) (Value.agg (List.toArray (rcs (List.map (f i) (List.range n))))))) ?_
        refine kp 89 (.int IntKind.i64 (d i j)) ?_ (hop := fun _ => o_loadI1 (Int.toNat (↑j : Int) * 2 + 0) u2)
        refine kp 90 (.iface 61 (Value.iface n (Value.iface 0 (Value.agg (List.toArray (List.map (fun r => FS 3 n 0 (List.toArray r)) (matC n d))))))) ?_
        refine kp 91 (.int IntKind.i64 (↑i : Int)) ?_
        refine kp 92 (.iface 61 (Value.iface (Int.toNat (↑i : Int) * 1) (Value.agg (List.toArray (List.map (fun r => FS 3 n 0 (List.toArray r)) (matC n d)))))) ?_ (hop := fun _ => o_indexI (e := 61) (size := 1) (a := (↑i : Int)) g1)
        refine kp 93 (.iface 3 (Value.iface n (Value.iface 0 (Value.agg (List.toArray (List.map (fun j => Value.int .i64 (d i j)) (List.range n))))))) ?_ (hop := fun _ => o_loadI1 (Int.toNat (↑i : Int) * 1) u3)
        refine kp 94 (.int IntKind.i64 (↑j : Int)) ?_
        refine kp 95 (.iface 3 (Value.iface (Int.toNat (↑j : Int) * 1) (Value.agg (List.toArray (List.map (fun j => Value.int .i64 (d i j)) (List.range n)))))) ?_ (hop := fun _ => o_indexI (e := 3) (size := 1) (a := (↑j : Int)) g2)
        refine kp 96 (.int IntKind.i64 (d i j)) ?_ (hop := fun _ => o_loadI1 (Int.toNat (↑j : Int) * 1) u4)
        refine kp 97 (.bool false) ?_ (hop := fun _ => by_fact e1)
        refine kp 98 (.bool false) ?_
        refine WpOps.nil (thenK_at (off' (Wp.skip (thenK_at (Wp.seq (Wp.text ?_))))))
        refine kp 100 (.agg #[Value.int .i64 (↑n : Int), Value.iface 48 (Value.iface (List.length ls) (Value.iface x (Value.agg (List.toArray (lcs ls)))))]) ?_
        refine kp 101 (.iface 45 (Value.iface n (Value.iface 0 (Value.agg (List.toArray (List.map (fun r => FS 47 n 0 (List.toArray r)) (rowsM n f))))))) ?_
        refine kp 102 (.int IntKind.i64 (↑i : Int)) ?_
        refine kp 103 (.int IntKind.i64 (↑j : Int)) ?_
        refine fr 104 28 [Value.agg #[Value.int .i64 (↑n : Int), Value.iface 48 (Value.iface (List.length ls) (Value.iface x (Value.agg (List.toArray (lcs ls)))))], Value.iface 45 (Value.iface n (Value.iface 0 (Value.agg (List.toArray (List.map (fun r => FS 47 n 0 (List.toArray r)) (rowsM n f)))))), Value.int .i64 (↑i : Int), Value.int .i64 (↑j : Int)] ?_
        refine WpFun.of (c3) ?_
        refine kp 99 (.tuple #[FS 3 1 0 (List.toArray (pathL f j i 0)), Value.bool false, Value.int .i64 0]) ?_
        refine kp 105 (.iface 3 (Value.iface 1 (Value.iface 0 (Value.agg (List.toArray (pathL f j i 0)))))) ?_
        refine kp 106 (.bool false) ?_
        refine kp 107 (.int IntKind.i64 0) ?_
        refine kp 11 (.iface 3 (Value.iface 1 (Value.iface 0 (Value.agg (List.toArray (pathL f j i 0)))))) ?_
        refine kp 12 (.bool false) ?_
        refine kp 13 (.int IntKind.i64 0) ?_
        refine WpOps.nil (thenK_at (Wp.seq (Wp.seq (Wp.text ?_))))
        refine kp 108 (.int IntKind.i64 0) ?_
        refine kp 109 (.bool false) ?_
        refine kp 110 (.bool false) ?_
        refine kp 111 (.bool false) ?_
        refine kp 112 (.iface 61 (Value.iface n (Value.iface 0 (Value.agg (List.toArray (List.map (fun r => FS 3 n 0 (List.toArray r)) (matC n d))))))) ?_
        refine kp 113 (.int IntKind.i64 (↑i : Int)) ?_
        refine kp 114 (.iface 61 (Value.iface (Int.toNat (↑i : Int) * 1) (Value.agg (List.toArray (List.map (fun r => FS 3 n 0 (List.toArray r)) (matC n d)))))) ?_ (hop := fun _ => o_indexI (e := 61) (size := 1) (a := (↑i : Int)) g1)
        refine kp 115 (.iface 3 (Value.iface n (Value.iface 0 (Value.agg (List.toArray (List.map (fun j => Value.int .i64 (d i j)) (List.range n))))))) ?_ (hop := fun _ => o_loadI1 (Int.toNat (↑i : Int) * 1) u3)
        refine kp 116 (.int IntKind.i64 (↑j : Int)) ?_
        refine kp 117 (.iface 3 (Value.iface (Int.toNat (↑j : Int) * 1) (Value.agg (List.toArray (List.map (fun j => Value.int .i64 (d i j)) (List.range n)))))) ?_ (hop := fun _ => o_indexI (e := 3) (size := 1) (a := (↑j : Int)) g2)
        refine kp 118 (.int IntKind.i64 (d i j)) ?_ (hop := fun _ => o_loadI1 (Int.toNat (↑j : Int) * 1) u4)
        refine kp 119 (.bool false) ?_ (hop := fun _ => by_fact d16)
        refine kp 120 (.bool false) ?_
        refine kp 121 (.bool false) ?_
        refine kp 122 (.bool false) ?_
        refine kp 123 (.iface 3 (Value.iface 1 (Value.iface 0 (Value.agg (List.toArray (pathL f j i 0)))))) ?_
        refine kp 124 (.int IntKind.i64 (↑1 : Int)) ?_
        refine kp 125 (.bool false) ?_
        refine kp 126 (.bool false) ?_
        refine WpOps.nil (thenK_at (off' (Wp.skip (thenK_at (Wp.seq (Wp.text ?_))))))
        refine kp 14 (.int IntKind.i64 0) ?_
        refine WpOps.nil (thenK_at (Wp.seq (Wp.seq (Wp.text ?_))))
        refine kp 15 (.int IntKind.i64 0) ?_
        refine WpOps.nil (thenK_at (Wp.block ?_))
        refine Wp.loop (G := Nat) (fun _ => layj [(1, matF 45 47 n (rowsM n f)), (2, .pointer (some ⟨0, 0, none⟩)), (5, matF 61 3 n (matC n d)), (9, .int .i64 i), (10, .int .i64 j), (11, FS 3 (0 + 1) 0 (pathL f j i 0).toArray), (12, .bool false), (14, .int .i64 0), (15, .int .i64 0)]) (fun _ => heapOf [nv n x ls]) (fun _ => 0) (fun _ => True) 0
          (View.of [0] [nv n x ls] _ (by decide) rfl ⟨⟨[.int .i64 n, lks x ls], by kernel_rfl, by kernel_rfl, by kernel_rfl⟩, trivial⟩ ⟨⟨by kernel_rfl, rfl⟩, ⟨by kernel_rfl, rfl⟩, ⟨by kernel_rfl, rfl⟩, ⟨by kernel_rfl, rfl⟩, ⟨by kernel_rfl, rfl⟩, ⟨by kernel_rfl, rfl⟩, ⟨by kernel_rfl, rfl⟩, ⟨by kernel_rfl, rfl⟩, ⟨by kernel_rfl, rfl⟩, trivial⟩) trivial ?_
        intro _ _
        unfold nv lks matF
        refine Wp.seq (Wp.seq (Wp.text ?_))
        refine kp 127 (.bool false) ?_
        refine kp 128 (.bool false) ?_
        refine um 129 ?_
        refine um 130 ?_
        refine um 131 ?_
        refine um 132 ?_
        refine um 133 ?_
        refine kp 134 (.bool false) ?_
        refine WpOps.nil (thenK_at (off' (Wp.exit (thenK_exit (thenK_exit (blockK_hit (thenK_at (Wp.seq (Wp.text ?_)))))))))
        refine kp 151 (.bool false) ?_
        refine kp 152 (.bool false) ?_
        refine um 153 ?_
        refine um 154 ?_
        refine um 155 ?_
        refine um 156 ?_
        refine um 157 ?_
        refine um 158 ?_
        refine um 159 ?_
        refine um 160 ?_
        refine um 161 ?_
        refine kp 162 (.bool false) ?_
        refine WpOps.nil (thenK_at (off' (Wp.skip (blockK_norm (thenK_at (Wp.text ?_))))))
        refine kp 61 (.int IntKind.i64 (↑j : Int)) ?_
        refine kp 62 (.int IntKind.i64 (IntKind.wrap .i64 ((↑j : Int) + 1))) ?_
        refine kp 10 (.int IntKind.i64 (IntKind.wrap .i64 ((↑j : Int) + 1))) ?_
        refine WpOps.nil (thenK_at ?_)
        exact ⟨j + 1, by omega, by omega, View.of [0] [nv n x ls] _ (by decide) rfl ⟨⟨[.int .i64 n, lks x ls], by kernel_rfl, by kernel_rfl, by kernel_rfl⟩, trivial⟩ ⟨⟨by kernel_rfl, rfl⟩, ⟨by kernel_rfl, rfl⟩, ⟨by kernel_rfl, rfl⟩, ⟨by kernel_rfl, rfl⟩, ⟨congrArg (Value.int .i64) (wr _ (by omega) (by omega)), rfl⟩, trivial⟩⟩
    · obtain rfl : n = j := by omega
      have d2 : decide ((n : Int) < n) = false := decide_eq_false (by omega)
      refine Wp.seq (Wp.seq (Wp.text ?_))
      refine kp 57 (.int IntKind.i64 (↑n : Int)) ?_
      refine kp 58 (.pointer (some ⟨0, 0, none⟩)) ?_
      refine kp 59 (.int IntKind.i64 (↑n : Int)) ?_
      refine kp 60 (.bool false) ?_ (hop := fun _ => by_fact d2)
      refine WpOps.nil (thenK_at (off' (Wp.exit (thenK_exit (thenK_exit (blockK_hit (blockK_norm (thenK_at (Wp.text ?_)))))))))
      refine kp 55 (.int IntKind.i64 (↑i : Int)) ?_
      refine kp 56 (.int IntKind.i64 (IntKind.wrap .i64 ((↑i : Int) + 1))) ?_
      refine kp 9 (.int IntKind.i64 (IntKind.wrap .i64 ((↑i : Int) + 1))) ?_
      refine WpOps.nil (thenK_at ?_)
      exact ⟨i + 1, by omega, by omega, View.of [0] [nv n x ls] _ (by decide) rfl ⟨⟨[.int .i64 n, lks x ls], by kernel_rfl, by kernel_rfl, by kernel_rfl⟩, trivial⟩ ⟨⟨by kernel_rfl, rfl⟩, ⟨by kernel_rfl, rfl⟩, ⟨by kernel_rfl, rfl⟩, ⟨congrArg (Value.int .i64) (wr _ (by omega) (by omega)), rfl⟩, trivial⟩⟩
  · obtain rfl : n = i := by omega
    have d1 : decide ((n : Int) < n) = false := decide_eq_false (by omega)
    refine Wp.seq (Wp.seq (Wp.text ?_))
    refine kp 51 (.int IntKind.i64 (↑n : Int)) ?_
    refine kp 52 (.pointer (some ⟨0, 0, none⟩)) ?_
    refine kp 53 (.int IntKind.i64 (↑n : Int)) ?_
    refine kp 54 (.bool false) ?_ (hop := fun _ => by_fact d1)
    refine WpOps.nil (thenK_at (off' (Wp.exit (thenK_exit (thenK_exit (blockK_hit (thenK_at (Wp.seq (Wp.text ?_)))))))))
    refine kp 4 (.bool true) ?_
    refine WpOps.nil (thenK_at (Wp.ret ?_))
    refine endK_retn [Value.bool true] (Value.bool true) (by kernel_rfl) (by kernel_rfl) ?_
    rfl
/-- .. all together. -/
theorem least_fun (n x : Nat) (ls : List Lk) (f : Tb) (g : Good n ls) (hv : valid n ls = true) (hy : ls.length * 24 ≤ 140737488351232) (L : Least n (cF ls) (rall n (d0 (cF ls)) n) f) : Fun E 38 [netV n x ls, tabM 45 47 n f] (.bool true) := by
  have D := dist_of (N := n) g.range g.diag
  have gt := L.good D
  have v1 := valid25 n x ls (by omega)
  rw [hv] at v1
  have hN := g.hN
  have t1 : Fun E 40 [netV n x ls, tabM 45 47 n f] (.bool true) := by
    have := tables40 n x ls 0 (matT n f) (valid25 n x ls (by omega)) (by simp [matT]; omega) (fun p hp => by
      obtain ⟨i, _, rfl⟩ := List.mem_map.1 hp
      simp
      omega)
    rw [tabOk_matT hv gt.ok] at this
    exact this
  have p0 : ∀ i j : Nat, i < n → j < n → _ := fun i j hi hj => path54 n x ls f i j g (by omega) gt hi hj
  have l1 := loops31_ok n x ls f (cF ls) g.hN t1 p0
  rw [cntAll_zero D L] at l1
  exact least38 n x ls f _ g.hN.2 hy D L (best23 n x ls g (by omega) v1) l1 (fun i j hi hj => path28_ok n x ls f i j hi hj t1 (p0 i j hi hj))
end Go.Proofs.Ytfjkanjmggbofaa.D
