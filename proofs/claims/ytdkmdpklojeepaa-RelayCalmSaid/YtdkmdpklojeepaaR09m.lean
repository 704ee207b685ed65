/- The law RelayCalm: the walk. -/
import Derived.Test.YtdkmdpklojeepaaFwLem
import Derived.Test.YtdkmdpklojeepaaFwHole
import Derived.Test.YtdkmdpklojeepaaR09k
import Derived.Test.YtdkmdpklojeepaaF09i
namespace Go.Proofs.Ytdkmdpklojeepaa.D
open Go.Fw Go.RowKit

/-- A medium's memory, before the first tick. -/
def memC (k : Int) (L : List Ft) (N i : Nat) : Heap := if i = 0 then heapOf [mB k L ((0 : Nat) : Int) ((0 : Nat) : Int) (.slice none 0 0), ⟨3, true, lefts N []⟩] else heapOf [mB k L ((0 : Nat) : Int) i (.slice (some ⟨1, 0, none⟩) (Xc k L i).length (Xc k L i).length), rowB (Xc k L i), ⟨3, true, lefts N (Xc k L i)⟩]
theorem memC_0 {k : Int} {L : List Ft} {N : Nat} : memC k L N 0 = heapOf [mB k L ((0 : Nat) : Int) ((0 : Nat) : Int) (.slice none 0 0), ⟨3, true, lefts N []⟩] := if_pos rfl
theorem memC_s {k : Int} {L : List Ft} {N i : Nat} (h : i ≠ 0) : memC k L N i = heapOf [mB k L ((0 : Nat) : Int) i (.slice (some ⟨1, 0, none⟩) (Xc k L i).length (Xc k L i).length), rowB (Xc k L i), ⟨3, true, lefts N (Xc k L i)⟩] := if_neg h
/-- Where the row of what is still to come lies. -/
def leftP (N i : Nat) : Value := if i = 0 then .slice (some ⟨1, 0, none⟩) N N else .slice (some ⟨2, 0, none⟩) N N
theorem zeros_left (n : Nat) : zeros [.int .i64 0] ((n : Int)).toNat = lefts n [] := by
  rw [lefts_nil, Int.toNat_natCast]
  induction n with
  | zero => rfl
  | succ n ih => rw [List.replicate_succ, ← ih]; rfl
theorem h3 : E.funcs 3 = some Try.f3 := by kernel_rfl
theorem law3a (ki : Int) (x : Nat) (l : List Int) (u : Int) (hl : ∀ n ∈ l, I64 n) (hz : l.length ≤ 300) : Fun E 3 [.int .i64 ki, sl x l, .int .i64 u] (.bool true) := by
  refine Fun.of h3 rfl (of_decide_eq_true (by kernel_rfl)) rfl ?_
  have c1 := mod9 u 60 (by decide) (by decide)
  have c1b := mod9 ki 2 (by decide) (by decide)
  obtain ⟨m1, m2⟩ := modN_in u 60 (by decide)
  obtain ⟨m3, m4⟩ := modN_in ki 2 (by decide)
  obtain ⟨N, hN⟩ : ∃ N : Nat, modN u 60 = N := ⟨(modN u 60).toNat, by omega⟩
  obtain ⟨k, hk⟩ : ∃ k, modN ki 2 = k := ⟨_, rfl⟩
  rw [hN] at c1 m2
  rw [hk] at c1b m3 m4
  have hk2 : k = 0 ∨ k = 1 := by omega
  have c2 := mild11 x l hl (by omega)
  obtain ⟨y, hy⟩ := outF_fts 46 true l
  rw [hy] at c2
  have hok := ftsOf_ok true l
  have hmi := mildly l
  have hLl := ftsOf_len true l
  have c3 := new10 k y (ftsOf true l) hk2 (by omega) hok
  have d1 : decide ((l.length : Int) > 300) = false := decide_eq_false (by omega)
  unfold sl at c2 ⊢
  unfold mB at c3
  clear hy hLl
  have hLn : (ftsOf true l).length ≤ 200 := by rw [ftsOf_len]; omega
  have c4 := mild12 x l hl (by omega)
  obtain ⟨y2, hy2⟩ := outF_fts 36 true l
  rw [hy2] at c4
  unfold sl at c4
  clear hy2
  generalize ftsOf true l = L at *
  have hcok := cok k L hk2 hmi hok
  have gm : 0 ≤ (N : Int) ∧ (N : Int) = N ∧ ((8 : Nat) : Int) * N ≤ 281474976710656 ∧ (N : Int) ≤ 9223372036854775807 := by omega
  refine Wp.seq (Wp.text (kp 6 (.bool false) (WpOps.nil (thenK_at (Wp.seq (Wp.seq (Wp.text (kp 17 (.iface 3 (Value.iface (List.length l) (Value.iface x (Value.agg (List.toArray (List.map (fun n => Value.int .i64 n) l)))))) (kp 18 (.int .i64 (List.length l)) (kp 19 (.bool false) (WpOps.nil (thenK_at (off' (Wp.skip (thenK_at (Wp.seq (Wp.text (kp 21 (.int .i64 u) (fr 22 9 [Value.int .i64 u, Value.int .i64 60] (WpFun.of (c1) (kp 7 (.int .i64 N) (WpOps.nil (thenK_at (Wp.seq (Wp.text (kp 24 (.int .i64 ki) (fr 25 9 [Value.int .i64 ki, Value.int .i64 2] (WpFun.of (c1b) (kp 26 (.iface 3 (Value.iface (List.length l) (Value.iface x (Value.agg (List.toArray (List.map (fun n => Value.int .i64 n) l)))))) (fr 27 11 [Value.iface 3 (Value.iface (List.length l) (Value.iface x (Value.agg (List.toArray (List.map (fun n => Value.int .i64 n) l)))))] (WpFun.of (c2) (cl 28 10 [Value.int .i64 k, Value.iface 46 (Value.iface (List.length L) (Value.iface y (Value.agg (List.toArray (fts L)))))] ?_)))))))))))))))))))))) (hop := fun _ => by_fact d1)))))))))))
  refine WpCall.lent [] (c3) (by decide) trivial (by kernel_rfl) (Value.tuple #[Value.pointer (some (Addr.mk (List.getD [0] 0 0) 0 none)), Value.int .i64 0]) ([Blk.mk 66 true [Value.int .i64 k, Value.iface 46 (Value.iface (List.length L) (Value.iface 0 (Value.agg (List.toArray (fts L))))), Value.int .i64 0, Value.int .i64 0, Value.slice none 0 0]]) (.cons (by kernel_rfl) .nil) (by kernel_rfl) (Heap.alloc Heap.none (Blk.mk 66 true [Value.int .i64 k, Value.iface 46 (Value.iface (List.length L) (Value.iface 0 (Value.agg (List.toArray (fts L))))), Value.int .i64 0, Value.int .i64 0, Value.slice none 0 0])) (by kernel_rfl) ?_
  refine kp 23 (.tuple #[Value.pointer (some (Addr.mk (List.getD [0] 0 0) 0 none)), Value.int .i64 0]) (kp 29 (.pointer (some ⟨0, 0, none⟩)) (kp 30 (.int .i64 0) (kp 8 (.pointer (some ⟨0, 0, none⟩)) (kp 9 (.int .i64 0) (WpOps.nil (thenK_at (Wp.seq (Wp.seq (Wp.text (kp 31 (.int .i64 0) (kp 32 (.bool false) (WpOps.nil (thenK_at (off' (Wp.skip (thenK_at (Wp.seq (Wp.text (kp 33 (.iface 3 (Value.iface (List.length l) (Value.iface x (Value.agg (List.toArray (List.map (fun n => Value.int .i64 n) l)))))) (fr 34 12 [Value.iface 3 (Value.iface (List.length l) (Value.iface x (Value.agg (List.toArray (List.map (fun n => Value.int .i64 n) l)))))] (WpFun.of (c4) (kp 10 (.iface 36 (Value.iface (List.length L) (Value.iface y2 (Value.agg (List.toArray (fts L)))))) (WpOps.nil (thenK_at (Wp.seq (Wp.text (kp 35 (.int .i64 N) (md 36 (.slice (some ⟨1, 0, none⟩) (Int.toNat (↑N : Int)) (Int.toNat (↑N : Int))) (Blk.mk 3 true (zeros [Value.int .i64 0] (Int.toNat (↑N : Int)))) (kp 11 (.slice (some ⟨1, 0, none⟩) (Int.toNat (↑N : Int)) (Int.toNat (↑N : Int))) (WpOps.nil (thenK_at (Wp.seq (Wp.seq (Wp.text (kp 12 (.int .i64 0) (WpOps.nil (thenK_at (Wp.block ?_)))))))))) (hop := fun _ => o_makeSlice (e := 3) gm)))))))))))))))))))))))))))))
  refine Wp.loop (G := Nat) (fun i => layj [(6, .bool false), (7, .int .i64 N), (8, .pointer (some ⟨0, 0, none⟩)), (10, FS 36 L.length y2 (fts L).toArray), (11, leftP N i), (12, .int .i64 i)]) (memC k L N) (fun i => N - i) (fun i => i ≤ N) 0
    (by rw [memC_0]; exact View.of [0, 1] [mB k L ((0 : Nat) : Int) ((0 : Nat) : Int) (.slice none 0 0), ⟨3, true, lefts N []⟩] _ (by decide) rfl ⟨⟨_, by kernel_rfl, CellsOk.eq rfl rfl⟩, ⟨zeros [.int .i64 0] ((N : Int)).toNat, by kernel_rfl, CellsOk.eq (zeros_left N) (lefts_flat _ _)⟩, trivial⟩ ⟨⟨by kernel_rfl, rfl⟩, ⟨by kernel_rfl, rfl⟩, ⟨by kernel_rfl, rfl⟩, ⟨by kernel_rfl, rfl⟩, ⟨by kernel_rfl, rfl⟩, ⟨by kernel_rfl, rfl⟩, trivial⟩) (Nat.zero_le _) ?_
  intro i hi
  by_cases hc : i < N
  · have d2 : decide ((i : Int) < (N : Int)) = true := decide_eq_true (by omega)
    have ck := hcok i (by omega)
    obtain ⟨o1, o2, o3, o4, o5⟩ := fate_ok hok i
    obtain ⟨p1, p2⟩ := cnt_put hmi hok (by omega : i < 60) ck
    have hne := Xc_nil hmi hok (by omega : i < 60) ck
    have hlo := (hmi i).1
    have wi : IntKind.i64.wrap ((i : Int) + 1) = ((i + 1 : Nat) : Int) := by rw [wr _ (by omega) (by omega)]; omega
    have hu : (⟨#[UInt8.ofNat (IntKind.u8.wrap (i : Int)).toNat]⟩ : ByteArray) = un1 i := by
      rw [show IntKind.u8.wrap (i : Int) = (i : Int) by show (i : Int) % 256 = _; omega, Int.toNat_natCast]
      rfl
    have g1 : 0 ≤ (i : Int) ∧ (i : Int) < (N : Int) := by omega
    by_cases hi0 : i = 0
    · subst hi0
      have cs := lent13n k L 0 0 (un1 0) (show 1 ≤ 4000 by decide) hk2 hok (by omega) (by omega) hlo
      have hY : nxt k L 0 0 [] (un1 0) = Xc k L (0 + 1) := rfl
      rw [hY] at cs
      have sl1 := lefts_set (n := N) p2
      rw [p1] at sl1
      have q0 : true = true ∧ 1 ≤ (lefts N []).length := ⟨rfl, by rw [lefts_len]; omega⟩
      have q1 : true = true ∧ 0 + [Value.int .i64 (IntKind.i64.wrap (1 + (fate L 0).co))].length ≤ ((lefts N []).set 0 (.int .i64 1)).length := ⟨rfl, by rw [List.length_set, lefts_len]; show 0 + 1 ≤ N; omega⟩
      rw [memC_0]
      show Wp 0 E _ _ (layj [(6, .bool false), (7, .int .i64 N), (8, .pointer (some ⟨0, 0, none⟩)), (10, FS 36 L.length y2 (fts L).toArray), (11, .slice (some ⟨1, 0, none⟩) N N), (12, .int .i64 (0 : Nat))]) _ _
      refine Wp.seq (Wp.seq (Wp.text (kp 37 (.int .i64 (↑0 : Int)) (kp 38 (.int .i64 N) (kp 39 (.bool true) (WpOps.nil (thenK_at (on' (Wp.skip (thenK_at (Wp.seq (Wp.block (Wp.seq (Wp.seq (Wp.text (kp 42 (.pointer (some ⟨0, 0, none⟩)) (kp 43 (.int .i64 (↑0 : Int)) (kp 44 (.int .u8 (IntKind.wrap .u8 (↑0 : Int))) (md 45 (.slice (some ⟨2, 0, none⟩) 1 1) (Blk.mk 5 true [Value.int .u8 (IntKind.wrap .u8 (↑0 : Int))]) (kp 46 (.string (ByteArray.mk #[UInt8.ofNat 0])) (cl 47 13 [Value.pointer (some ⟨0, 0, none⟩), Value.string (ByteArray.mk #[UInt8.ofNat 0])] ?_)))))))))))))))) (hop := fun _ => by_fact d2))))))
      change WpCall E 13 [.pointer (some ⟨0, 0, none⟩), .string (un1 0)] _ _
      refine WpCall.lentP [0] cs (by decide) ⟨⟨_, by kernel_rfl, ⟨rfl, rfl⟩⟩, trivial⟩ rfl (.int .i64 0) [some (mB k L ((0 : Nat) : Int) (0 + 1 : Nat) (.slice (some ⟨3, 0, none⟩) (Xc k L (0 + 1)).length (Xc k L (0 + 1)).length)), some (rowB (Xc k L (0 + 1)))] (.cons rfl (.cons (congrArg some (unB_flat (tcs_flat _))) .nil)) rfl _ rfl ?_
      by_cases hL : 0 < L.length
      · have d3 : decide (((0 : Nat) : Int) < (L.length : Int)) = true := decide_eq_true (by omega)
        have g3 : 0 ≤ ((0 : Nat) : Int) ∧ ((0 : Nat) : Int) < (L.length : Int) := by omega
        have hf : fate L 0 = L[0] := by unfold fate; rw [List.getD_eq_getElem?_getD, List.getElem?_eq_getElem hL]; rfl
        have hs3 : cellsAt (fts L).toArray.toList ((0 : Nat) * 4) 4 = some (fce L[0]) := fts_cells L 0 hL
        have hs4 : (fts L).toArray.toList[1]? = some (.int .i64 (fate L 0).co) := by rw [hf]; exact cellsAt_one (i := 1) hs3 rfl
        refine kp 48 (.bool false) (WpOps.nil (thenK_at (off' (Wp.skip (thenK_at (Wp.seq (Wp.text (kp 49 (.slice (some ⟨1, 0, none⟩) N N) (kp 50 (.int .i64 (↑0 : Int)) (kp 51 (.pointer (some ⟨1, 0, none⟩)) (cg0 (.tuple #[]) (Heap.set (layR (Heap.alloc (heapOf [mB k L (↑0 : Int) (↑0 : Int) (Value.slice none 0 0), Blk.mk 3 true (lefts N [])]) (Blk.mk 5 true [Value.int .u8 (IntKind.wrap .u8 (↑0 : Int))])) [0] [some (mB k L (↑0 : Int) (↑1 : Int) (Value.slice (some ⟨3, 0, none⟩) (List.length (Xc k L 1)) (List.length (Xc k L 1)))), some (rowB (Xc k L 1))]) 1 (some (Blk.mk 3 true (List.set (lefts N []) 0 (Value.int .i64 1))))) (WpOps.nil (thenK_at (Wp.seq (Wp.text (kp 52 (.int .i64 (↑0 : Int)) (kp 53 (.iface 36 (Value.iface (List.length L) (Value.iface y2 (Value.agg (List.toArray (fts L)))))) (kp 54 (.int .i64 (List.length L)) (kp 55 (.bool true) (WpOps.nil (thenK_at (on' (Wp.text (kp 56 (.slice (some ⟨1, 0, none⟩) N N) (kp 57 (.int .i64 (↑0 : Int)) (kp 58 (.iface 36 (Value.iface (List.length L) (Value.iface y2 (Value.agg (List.toArray (fts L)))))) (kp 59 (.int .i64 (↑0 : Int)) (kp 60 (.iface 36 (Value.iface 0 (Value.agg (List.toArray (fts L))))) (kp 61 (.iface 36 (Value.iface 1 (Value.agg (List.toArray (fts L))))) (kp 62 (.int .i64 (Ft.co (fate L 0))) ?_ (hop := fun _ => o_loadI1 (1) hs4))) (hop := fun _ => o_indexI (e := 36) (size := 4) (a := (↑0 : Int)) g3)))))))))) (hop := fun _ => by_fact d3))))))))) (hop := fun _ => o_store1 (1) (0) q0)) (hop := fun _ => o_indexAddr (a := (↑0 : Int)) (bl := 1) (off := 0) (size := 1) 3 (N) g1)))))))))))
        refine kp 63 (.int .i64 (IntKind.wrap .i64 (1 + Ft.co (fate L 0)))) (kp 64 (.pointer (some ⟨1, 0, none⟩)) (ld (.tuple #[]) (1) (Blk.mk 3 true (List.set (List.set (lefts N []) 0 (Value.int .i64 1)) 0 (Value.int .i64 (IntKind.wrap .i64 (1 + Ft.co (fate L 0)))))) (WpOps.nil (blockK_norm (thenK_at (Wp.text (kp 40 (.int .i64 (↑0 : Int)) (kp 41 (.int .i64 (IntKind.wrap .i64 ((↑0 : Int) + 1))) (kp 12 (.int .i64 (IntKind.wrap .i64 ((↑0 : Int) + 1))) (WpOps.nil (thenK_at ?_))))))))) (hop := fun _ => o_store1 (1) (0) q1)) (hop := fun _ => o_indexAddr (a := (↑0 : Int)) (bl := 1) (off := 0) (size := 1) 3 (N) g1))
        have hst : ((lefts N []).set 0 (.int .i64 1)).set 0 (.int .i64 (IntKind.i64.wrap (1 + (fate L 0).co))) = lefts N (Xc k L (0 + 1)) := by
          rw [List.set_set, show IntKind.i64.wrap (1 + (fate L 0).co) = (((fate L 0).co.toNat + 1 : Nat) : Int) by rw [wr _ (by omega) (by omega)]; omega]; exact sl1
        exact ⟨0 + 1, by omega, by omega, by rw [memC_s (Nat.succ_ne_zero _), show leftP N (0 + 1) = .slice (some ⟨2, 0, none⟩) N N from if_neg (Nat.succ_ne_zero _)]; exact View.of [0, 3, 1] [mB k L ((0 : Nat) : Int) (0 + 1 : Nat) (.slice (some ⟨1, 0, none⟩) (Xc k L (0 + 1)).length (Xc k L (0 + 1)).length), rowB (Xc k L (0 + 1)), ⟨3, true, lefts N (Xc k L (0 + 1))⟩] _ (by decide) rfl ⟨⟨_, by kernel_rfl, ⟨rfl, rfl⟩⟩, ⟨_, by kernel_rfl, CellsOk.eq rfl (tcs_flat _)⟩, ⟨_, by kernel_rfl, CellsOk.eq hst (lefts_flat _ _)⟩, trivial⟩ ⟨⟨by kernel_rfl, rfl⟩, ⟨by kernel_rfl, rfl⟩, ⟨by kernel_rfl, rfl⟩, ⟨by kernel_rfl, rfl⟩, ⟨by kernel_rfl, rfl⟩, ⟨congrArg (Value.int .i64) wi, rfl⟩, trivial⟩⟩
      · have d3 : decide (((0 : Nat) : Int) < (L.length : Int)) = false := decide_eq_false (by omega)
        have hf : (fate L 0).co = 0 := by unfold fate; rw [List.getD_eq_getElem?_getD, List.getElem?_eq_none (by omega)]; rfl
        have sl2 := sl1
        rw [hf] at sl2
        refine kp 48 (.bool false) (WpOps.nil (thenK_at (off' (Wp.skip (thenK_at (Wp.seq (Wp.text (kp 49 (.slice (some ⟨1, 0, none⟩) N N) (kp 50 (.int .i64 (↑0 : Int)) (kp 51 (.pointer (some ⟨1, 0, none⟩)) (cg0 (.tuple #[]) (Heap.set (layR (Heap.alloc (heapOf [mB k L (↑0 : Int) (↑0 : Int) (Value.slice none 0 0), Blk.mk 3 true (lefts N [])]) (Blk.mk 5 true [Value.int .u8 (IntKind.wrap .u8 (↑0 : Int))])) [0] [some (mB k L (↑0 : Int) (↑1 : Int) (Value.slice (some ⟨3, 0, none⟩) (List.length (Xc k L 1)) (List.length (Xc k L 1)))), some (rowB (Xc k L 1))]) 1 (some (Blk.mk 3 true (List.set (lefts N []) 0 (Value.int .i64 1))))) (WpOps.nil (thenK_at (Wp.seq (Wp.text (kp 52 (.int .i64 (↑0 : Int)) (kp 53 (.iface 36 (Value.iface (List.length L) (Value.iface y2 (Value.agg (List.toArray (fts L)))))) (kp 54 (.int .i64 (List.length L)) (kp 55 (.bool false) (WpOps.nil (thenK_at (off' (Wp.skip (blockK_norm (thenK_at (Wp.text (kp 40 (.int .i64 (↑0 : Int)) (kp 41 (.int .i64 (IntKind.wrap .i64 ((↑0 : Int) + 1))) (kp 12 (.int .i64 (IntKind.wrap .i64 ((↑0 : Int) + 1))) (WpOps.nil (thenK_at ?_)))))))))))) (hop := fun _ => by_fact d3))))))))) (hop := fun _ => o_store1 (1) (0) q0)) (hop := fun _ => o_indexAddr (a := (↑0 : Int)) (bl := 1) (off := 0) (size := 1) 3 (N) g1)))))))))))
        have hst : (lefts N []).set 0 (.int .i64 1) = lefts N (Xc k L (0 + 1)) := by
          exact sl2
        exact ⟨0 + 1, by omega, by omega, by rw [memC_s (Nat.succ_ne_zero _), show leftP N (0 + 1) = .slice (some ⟨2, 0, none⟩) N N from if_neg (Nat.succ_ne_zero _)]; exact View.of [0, 3, 1] [mB k L ((0 : Nat) : Int) (0 + 1 : Nat) (.slice (some ⟨1, 0, none⟩) (Xc k L (0 + 1)).length (Xc k L (0 + 1)).length), rowB (Xc k L (0 + 1)), ⟨3, true, lefts N (Xc k L (0 + 1))⟩] _ (by decide) rfl ⟨⟨_, by kernel_rfl, ⟨rfl, rfl⟩⟩, ⟨_, by kernel_rfl, CellsOk.eq rfl (tcs_flat _)⟩, ⟨_, by kernel_rfl, CellsOk.eq hst (lefts_flat _ _)⟩, trivial⟩ ⟨⟨by kernel_rfl, rfl⟩, ⟨by kernel_rfl, rfl⟩, ⟨by kernel_rfl, rfl⟩, ⟨by kernel_rfl, rfl⟩, ⟨by kernel_rfl, rfl⟩, ⟨congrArg (Value.int .i64) wi, rfl⟩, trivial⟩⟩
    · have hin : InT (Xc k L i) := fun z hz => by have := ck.all z hz; omega
      have cs := lent13o k L 0 i [] (Xc k L i) (un1 i) (show 1 ≤ 4000 by decide) hk2 hok (by omega) (by omega) (by have := ck.len; omega) hin hlo
      have hY : nxt k L 0 i (Xc k L i) (un1 i) = Xc k L (i + 1) := rfl
      rw [hY] at cs
      have sl1 := lefts_set (n := N) p2
      rw [p1] at sl1
      have q0 : true = true ∧ 0 + (i : Int).toNat * 1 + 1 ≤ (lefts N (Xc k L i)).length := ⟨rfl, by rw [lefts_len]; omega⟩
      have q1 : true = true ∧ 0 + (i : Int).toNat * 1 + [Value.int .i64 (IntKind.i64.wrap (1 + (fate L i).co))].length ≤ ((lefts N (Xc k L i)).set (0 + (i : Int).toNat * 1) (.int .i64 1)).length := ⟨rfl, by rw [List.length_set, lefts_len]; show 0 + (i : Int).toNat * 1 + 1 ≤ N; omega⟩
      rw [memC_s hi0]
      rw [show leftP N i = .slice (some ⟨2, 0, none⟩) N N from if_neg hi0]
      refine Wp.seq (Wp.seq (Wp.text (kp 37 (.int .i64 i) (kp 38 (.int .i64 N) (kp 39 (.bool true) (WpOps.nil (thenK_at (on' (Wp.skip (thenK_at (Wp.seq (Wp.block (Wp.seq (Wp.seq (Wp.text (kp 42 (.pointer (some ⟨0, 0, none⟩)) (kp 43 (.int .i64 i) (kp 44 (.int .u8 (IntKind.wrap .u8 (↑i : Int))) (md 45 (.slice (some ⟨3, 0, none⟩) 1 1) (Blk.mk 5 true [Value.int .u8 (IntKind.wrap .u8 (↑i : Int))]) (kp 46 (.string (ByteArray.mk #[UInt8.ofNat (Int.toNat (IntKind.wrap .u8 (↑i : Int)))])) (cl 47 13 [Value.pointer (some ⟨0, 0, none⟩), Value.string (ByteArray.mk #[UInt8.ofNat (Int.toNat (IntKind.wrap .u8 (↑i : Int)))])] ?_)))))))))))))))) (hop := fun _ => by_fact d2))))))
      rw [hu]
      refine WpCall.lentP [0, 1] cs (by decide) ⟨⟨_, by kernel_rfl, ⟨rfl, rfl⟩⟩, ⟨_, by kernel_rfl, CellsOk.eq rfl (tcs_flat _)⟩, trivial⟩ rfl (.int .i64 0) [some (mB k L ((0 : Nat) : Int) (i + 1 : Nat) (.slice (some ⟨4, 0, none⟩) (Xc k L (i + 1)).length (Xc k L (i + 1)).length)), none, some (rowB (Xc k L (i + 1)))] (.cons rfl (.cons rfl (.cons (congrArg some (unB_flat (tcs_flat _))) .nil))) rfl _ rfl ?_
      by_cases hL : i < L.length
      · have d3 : decide ((i : Int) < (L.length : Int)) = true := decide_eq_true (by omega)
        have g3 : 0 ≤ (i : Int) ∧ (i : Int) < (L.length : Int) := by omega
        have hf : fate L i = L[i] := by unfold fate; rw [List.getD_eq_getElem?_getD, List.getElem?_eq_getElem hL]; rfl
        have hs3 : cellsAt (fts L).toArray.toList ((i : Nat) * 4) 4 = some (fce L[i]) := fts_cells L i hL
        have hs4 : (fts L).toArray.toList[(i : Int).toNat * 4 + 1]? = some (.int .i64 (fate L i).co) := by rw [hf]; exact cellsAt_one (i := 1) hs3 rfl
        refine kp 48 (.bool false) (WpOps.nil (thenK_at (off' (Wp.skip (thenK_at (Wp.seq (Wp.text (kp 49 (.slice (some ⟨2, 0, none⟩) N N) (kp 50 (.int .i64 i) (kp 51 (.pointer (some (Addr.mk 2 (0 + Int.toNat (↑i : Int) * 1) none))) (ld (.tuple #[]) (2) (Blk.mk 3 true (List.set (lefts N (Xc k L i)) (0 + Int.toNat (↑i : Int) * 1) (Value.int .i64 1))) (WpOps.nil (thenK_at (Wp.seq (Wp.text (kp 52 (.int .i64 i) (kp 53 (.iface 36 (Value.iface (List.length L) (Value.iface y2 (Value.agg (List.toArray (fts L)))))) (kp 54 (.int .i64 (List.length L)) (kp 55 (.bool true) (WpOps.nil (thenK_at (on' (Wp.text (kp 56 (.slice (some ⟨2, 0, none⟩) N N) (kp 57 (.int .i64 i) (kp 58 (.iface 36 (Value.iface (List.length L) (Value.iface y2 (Value.agg (List.toArray (fts L)))))) (kp 59 (.int .i64 i) (kp 60 (.iface 36 (Value.iface (Int.toNat (↑i : Int) * 4) (Value.agg (List.toArray (fts L))))) (kp 61 (.iface 36 (Value.iface (Int.toNat (↑i : Int) * 4 + 1) (Value.agg (List.toArray (fts L))))) (kp 62 (.int .i64 (Ft.co (fate L i))) (kp 63 (.int .i64 (IntKind.wrap .i64 (1 + Ft.co (fate L i)))) (kp 64 (.pointer (some (Addr.mk 2 (0 + Int.toNat (↑i : Int) * 1) none))) ?_ (hop := fun _ => o_indexAddr (a := (↑i : Int)) (bl := 2) (off := 0) (size := 1) 3 (N) g1))) (hop := fun _ => o_loadI1 (Int.toNat (↑i : Int) * 4 + 1) hs4))) (hop := fun _ => o_indexI (e := 36) (size := 4) (a := (↑i : Int)) g3)))))))))) (hop := fun _ => by_fact d3))))))))) (hop := fun _ => o_store1 (2) (0 + Int.toNat (↑i : Int) * 1) q0)) (hop := fun _ => o_indexAddr (a := (↑i : Int)) (bl := 2) (off := 0) (size := 1) 3 (N) g1)))))))))))
        refine ld (.tuple #[]) (2) (Blk.mk 3 true (List.set (List.set (lefts N (Xc k L i)) (0 + Int.toNat (↑i : Int) * 1) (Value.int .i64 1)) (0 + Int.toNat (↑i : Int) * 1) (Value.int .i64 (IntKind.wrap .i64 (1 + Ft.co (fate L i)))))) (WpOps.nil (blockK_norm (thenK_at (Wp.text (kp 40 (.int .i64 i) (kp 41 (.int .i64 (IntKind.wrap .i64 ((↑i : Int) + 1))) (kp 12 (.int .i64 (IntKind.wrap .i64 ((↑i : Int) + 1))) (WpOps.nil (thenK_at ?_))))))))) (hop := fun _ => o_store1 (2) (0 + Int.toNat (↑i : Int) * 1) q1)
        have hst : ((lefts N (Xc k L i)).set (0 + (i : Int).toNat * 1) (.int .i64 1)).set (0 + (i : Int).toNat * 1) (.int .i64 (IntKind.i64.wrap (1 + (fate L i).co))) = lefts N (Xc k L (i + 1)) := by
          rw [show 0 + (i : Int).toNat * 1 = i by omega]; rw [List.set_set, show IntKind.i64.wrap (1 + (fate L i).co) = (((fate L i).co.toNat + 1 : Nat) : Int) by rw [wr _ (by omega) (by omega)]; omega]; exact sl1
        exact ⟨i + 1, by omega, by omega, by rw [memC_s (Nat.succ_ne_zero _), show leftP N (i + 1) = .slice (some ⟨2, 0, none⟩) N N from if_neg (Nat.succ_ne_zero _)]; exact View.of [0, 4, 2] [mB k L ((0 : Nat) : Int) (i + 1 : Nat) (.slice (some ⟨1, 0, none⟩) (Xc k L (i + 1)).length (Xc k L (i + 1)).length), rowB (Xc k L (i + 1)), ⟨3, true, lefts N (Xc k L (i + 1))⟩] _ (by decide) rfl ⟨⟨_, by kernel_rfl, ⟨rfl, rfl⟩⟩, ⟨_, by kernel_rfl, CellsOk.eq rfl (tcs_flat _)⟩, ⟨_, by kernel_rfl, CellsOk.eq hst (lefts_flat _ _)⟩, trivial⟩ ⟨⟨by kernel_rfl, rfl⟩, ⟨by kernel_rfl, rfl⟩, ⟨by kernel_rfl, rfl⟩, ⟨by kernel_rfl, rfl⟩, ⟨by kernel_rfl, rfl⟩, ⟨congrArg (Value.int .i64) wi, rfl⟩, trivial⟩⟩
      · have d3 : decide ((i : Int) < (L.length : Int)) = false := decide_eq_false (by omega)
        have hf : (fate L i).co = 0 := by unfold fate; rw [List.getD_eq_getElem?_getD, List.getElem?_eq_none (by omega)]; rfl
        have sl2 := sl1
        rw [hf] at sl2
        refine kp 48 (.bool false) (WpOps.nil (thenK_at (off' (Wp.skip (thenK_at (Wp.seq (Wp.text (kp 49 (.slice (some ⟨2, 0, none⟩) N N) (kp 50 (.int .i64 i) (kp 51 (.pointer (some (Addr.mk 2 (0 + Int.toNat (↑i : Int) * 1) none))) (ld (.tuple #[]) (2) (Blk.mk 3 true (List.set (lefts N (Xc k L i)) (0 + Int.toNat (↑i : Int) * 1) (Value.int .i64 1))) (WpOps.nil (thenK_at (Wp.seq (Wp.text (kp 52 (.int .i64 i) (kp 53 (.iface 36 (Value.iface (List.length L) (Value.iface y2 (Value.agg (List.toArray (fts L)))))) (kp 54 (.int .i64 (List.length L)) (kp 55 (.bool false) (WpOps.nil (thenK_at (off' (Wp.skip (blockK_norm (thenK_at (Wp.text (kp 40 (.int .i64 i) (kp 41 (.int .i64 (IntKind.wrap .i64 ((↑i : Int) + 1))) (kp 12 (.int .i64 (IntKind.wrap .i64 ((↑i : Int) + 1))) (WpOps.nil (thenK_at ?_)))))))))))) (hop := fun _ => by_fact d3))))))))) (hop := fun _ => o_store1 (2) (0 + Int.toNat (↑i : Int) * 1) q0)) (hop := fun _ => o_indexAddr (a := (↑i : Int)) (bl := 2) (off := 0) (size := 1) 3 (N) g1)))))))))))
        have hst : (lefts N (Xc k L i)).set (0 + (i : Int).toNat * 1) (.int .i64 1) = lefts N (Xc k L (i + 1)) := by
          rw [show 0 + (i : Int).toNat * 1 = i by omega]; exact sl2
        exact ⟨i + 1, by omega, by omega, by rw [memC_s (Nat.succ_ne_zero _), show leftP N (i + 1) = .slice (some ⟨2, 0, none⟩) N N from if_neg (Nat.succ_ne_zero _)]; exact View.of [0, 4, 2] [mB k L ((0 : Nat) : Int) (i + 1 : Nat) (.slice (some ⟨1, 0, none⟩) (Xc k L (i + 1)).length (Xc k L (i + 1)).length), rowB (Xc k L (i + 1)), ⟨3, true, lefts N (Xc k L (i + 1))⟩] _ (by decide) rfl ⟨⟨_, by kernel_rfl, ⟨rfl, rfl⟩⟩, ⟨_, by kernel_rfl, CellsOk.eq rfl (tcs_flat _)⟩, ⟨_, by kernel_rfl, CellsOk.eq hst (lefts_flat _ _)⟩, trivial⟩ ⟨⟨by kernel_rfl, rfl⟩, ⟨by kernel_rfl, rfl⟩, ⟨by kernel_rfl, rfl⟩, ⟨by kernel_rfl, rfl⟩, ⟨by kernel_rfl, rfl⟩, ⟨congrArg (Value.int .i64) wi, rfl⟩, trivial⟩⟩
  · have d2 : decide ((i : Int) < (N : Int)) = false := decide_eq_false (by omega)
    obtain rfl : i = N := by omega
    have ck := hcok i (by omega)
    have c8 := sane8
    clear gm c1 c1b c2 c3 c4
    by_cases hi0 : i = 0
    · subst hi0
      rw [memC_0]
      show Wp 0 E _ _ (layj [(6, .bool false), (7, .int .i64 (0 : Nat)), (8, .pointer (some ⟨0, 0, none⟩)), (10, FS 36 L.length y2 (fts L).toArray), (11, .slice (some ⟨1, 0, none⟩) 0 0), (12, .int .i64 (0 : Nat))]) _ _
      refine Wp.seq (Wp.seq (Wp.text (kp 37 (.int .i64 (↑0 : Int)) (kp 38 (.int .i64 (↑0 : Int)) (kp 39 (.bool false) (WpOps.nil (thenK_at (off' (Wp.exit (thenK_exit (thenK_exit (blockK_hit (thenK_at (Wp.seq (Wp.seq (Wp.text (kp 13 (.int .i64 0) (WpOps.nil (thenK_at (Wp.block ?_))))))))))))))))))))
      refine Wp.loop (G := Nat) (fun T => layj [(6, .bool false), (7, .int .i64 (0 : Nat)), (8, .pointer (some ⟨0, 0, none⟩)), (11, .slice (some ⟨1, 0, none⟩) 0 0), (13, .int .i64 T)]) (fun T => heapOf [mB k L T ((0 : Nat) : Int) (.slice none 0 0), ⟨3, true, []⟩]) (fun T => 25 - T) (fun T => T ≤ 25) 0
        (View.of [0, 1] [mB k L ((0 : Nat) : Int) ((0 : Nat) : Int) (.slice none 0 0), ⟨3, true, []⟩] _ (by decide) rfl ⟨⟨_, by kernel_rfl, CellsOk.eq rfl rfl⟩, ⟨_, by kernel_rfl, CellsOk.eq rfl rfl⟩, trivial⟩ ⟨⟨by kernel_rfl, rfl⟩, ⟨by kernel_rfl, rfl⟩, ⟨by kernel_rfl, rfl⟩, ⟨by kernel_rfl, rfl⟩, ⟨by kernel_rfl, rfl⟩, trivial⟩) (Nat.zero_le _) ?_
      intro T hT
      by_cases hc : T < 25
      · have d3 : decide ((T : Int) < 25) = true := decide_eq_true (by omega)
        have wT : IntKind.i64.wrap ((T : Int) + 1) = ((T + 1 : Nat) : Int) := by rw [wr _ (by omega) (by omega)]; omega
        have ct := tick14e k L T ((0 : Nat) : Int) (by omega)
        unfold mB at ct ⊢
        refine Wp.seq (Wp.seq (Wp.text (kp 65 (.int .i64 T) (kp 66 (.bool true) (WpOps.nil (thenK_at (on' (Wp.skip (thenK_at (Wp.seq (Wp.block (Wp.seq (Wp.text (kp 69 (.pointer (some ⟨0, 0, none⟩)) (cl 70 14 [Value.pointer (some ⟨0, 0, none⟩)] ?_))))))))))) (hop := fun _ => by_fact d3)))))
        refine WpCall.lent [0] (ct) (by decide) ⟨⟨[Value.int .i64 k, Value.iface 46 (Value.iface (List.length L) (Value.iface 0 (Value.agg (List.toArray (fts L))))), Value.int .i64 T, Value.int .i64 (↑0 : Int), Value.slice none 0 0], (by kernel_rfl), (by kernel_rfl), (by kernel_rfl)⟩, trivial⟩ (by kernel_rfl) (Value.slice none 0 0) ([Blk.mk 66 true [Value.int .i64 k, Value.iface 46 (Value.iface (List.length L) (Value.iface 0 (Value.agg (List.toArray (fts L))))), Value.int .i64 (↑(T + 1) : Int), Value.int .i64 (↑0 : Int), Value.slice none 0 0]]) (.cons (by kernel_rfl) .nil) (by kernel_rfl) (Heap.set (heapOf [Blk.mk 66 true [Value.int .i64 k, FS 46 (List.length L) 0 (List.toArray (fts L)), Value.int .i64 T, Value.int .i64 (↑0 : Int), Value.slice none 0 0], Blk.mk 3 true []]) 0 (some (Blk.mk 66 true [Value.int .i64 k, Value.iface 46 (Value.iface (List.length L) (Value.iface 0 (Value.agg (List.toArray (fts L))))), Value.int .i64 (↑(T + 1) : Int), Value.int .i64 (↑0 : Int), Value.slice none 0 0]))) (by kernel_rfl) ?_
        refine kp 14 (.slice none 0 0) (WpOps.nil (thenK_at (Wp.seq (Wp.text (kp 15 (.int .i64 0) (WpOps.nil (thenK_at (Wp.block ?_))))))))
        refine Wp.unroll (WpL.step ?_)
        refine Wp.seq (Wp.seq (Wp.text (kp 71 (.int .i64 0) (kp 72 (.slice none 0 0) (kp 73 (.int .i64 (↑0 : Int)) (kp 74 (.bool false) (WpOps.nil (thenK_at (off' (Wp.exit (thenK_exit (thenK_exit (blockK_hit (blockK_norm (thenK_at (Wp.text (kp 67 (.int .i64 T) (kp 68 (.int .i64 (IntKind.wrap .i64 ((↑T : Int) + 1))) (kp 13 (.int .i64 (IntKind.wrap .i64 ((↑T : Int) + 1))) (WpOps.nil (thenK_at ?_)))))))))))))))))))))
        exact ⟨T + 1, by omega, by omega, View.of [0, 1] [mB k L (T + 1 : Nat) ((0 : Nat) : Int) (.slice none 0 0), ⟨3, true, []⟩] _ (by decide) rfl ⟨⟨_, by kernel_rfl, CellsOk.eq rfl rfl⟩, ⟨_, by kernel_rfl, CellsOk.eq rfl rfl⟩, trivial⟩ ⟨⟨by kernel_rfl, rfl⟩, ⟨by kernel_rfl, rfl⟩, ⟨by kernel_rfl, rfl⟩, ⟨by kernel_rfl, rfl⟩, ⟨congrArg (Value.int .i64) wT, rfl⟩, trivial⟩⟩
      · have d3 : decide ((T : Int) < 25) = false := decide_eq_false (by omega)
        unfold mB
        refine Wp.seq (Wp.seq (Wp.text (kp 65 (.int .i64 T) (kp 66 (.bool false) (WpOps.nil (thenK_at (off' (Wp.exit (thenK_exit (thenK_exit (blockK_hit (thenK_at (Wp.seq (Wp.seq (Wp.text (kp 16 (.int .i64 0) (WpOps.nil (thenK_at (Wp.block ?_))))))))))))))) (hop := fun _ => by_fact d3)))))
        refine Wp.unroll (WpL.step ?_)
        refine Wp.seq (Wp.seq (Wp.text (kp 109 (.int .i64 0) (kp 110 (.int .i64 (↑0 : Int)) (kp 111 (.bool false) (WpOps.nil (thenK_at (off' (Wp.exit (thenK_exit (thenK_exit (blockK_hit (thenK_at (Wp.seq (Wp.text (fr 119 8 [] (WpFun.of (c8) (kp 6 (.bool true) (WpOps.nil (thenK_at (Wp.ret (endK_retn [Value.bool true] (Value.bool true) (by kernel_rfl) (by kernel_rfl) ?_))))))))))))))))))))))
        rfl
    · rw [memC_s hi0, show leftP i i = .slice (some ⟨2, 0, none⟩) i i from if_neg hi0]
      refine Wp.seq (Wp.seq (Wp.text (kp 37 (.int .i64 i) (kp 38 (.int .i64 i) (kp 39 (.bool false) (WpOps.nil (thenK_at (off' (Wp.exit (thenK_exit (thenK_exit (blockK_hit (thenK_at (Wp.seq (Wp.seq (Wp.text (kp 13 (.int .i64 0) (WpOps.nil (thenK_at (Wp.block ?_))))))))))))))) (hop := fun _ => by_fact d2))))))
      have hXl := ck.len
      have hXa := ck.all
      generalize Xc k L i = X0 at *
      refine Wp.loop (G := Nat × List Tr × List Tr) (fun g => layj [(6, .bool false), (7, .int .i64 i), (8, .pointer (some ⟨0, 0, none⟩)), (11, .slice (some ⟨2, 0, none⟩) i i), (13, .int .i64 g.1)]) (fun g => heapOf [mB k L (g.1 : Nat) i (.slice (some ⟨1, g.2.1.length * 2, none⟩) g.2.2.length g.2.2.length), rowB (g.2.1 ++ g.2.2), ⟨3, true, lefts i g.2.2⟩]) (fun g => 25 - g.1) (fun g => g.1 ≤ 25 ∧ In i g.2.2 ∧ g.2.2.length ≤ 240 ∧ ∀ z ∈ g.2.2.head?, ¬ z.1 ≤ (g.1 : Int)) (0, [], X0)
        (View.of [0, 1, 2] [mB k L ((0 : Nat) : Int) i (.slice (some ⟨1, 0, none⟩) X0.length X0.length), rowB X0, ⟨3, true, lefts i X0⟩] _ (by decide) rfl ⟨⟨_, by kernel_rfl, ⟨rfl, rfl⟩⟩, ⟨_, by kernel_rfl, CellsOk.eq rfl (tcs_flat _)⟩, ⟨_, by kernel_rfl, CellsOk.eq rfl (lefts_flat _ _)⟩, trivial⟩ ⟨⟨by kernel_rfl, rfl⟩, ⟨by kernel_rfl, rfl⟩, ⟨by kernel_rfl, rfl⟩, ⟨by kernel_rfl, rfl⟩, ⟨by kernel_rfl, rfl⟩, trivial⟩) ⟨Nat.zero_le _, hXa, by dsimp only; omega, fun z hz => by have := hXa z (List.mem_of_mem_head? hz); dsimp only; omega⟩ ?_
      clear hXl hXa ck hcok
      clear X0
      rintro ⟨T, p, X⟩ ⟨hT, hin, hln, hhd⟩
      dsimp only at hT hin hln hhd ⊢
      by_cases hc : T < 25
      · have d3 : decide ((T : Int) < 25) = true := decide_eq_true (by omega)
        have wT : IntKind.i64.wrap ((T : Int) + 1) = ((T + 1 : Nat) : Int) := by rw [wr _ (by omega) (by omega)]; omega
        have ct := tick14 k L T i p X (by omega) (by omega) (fun z hz => by have := hin z hz; omega)
        obtain ⟨A, hA⟩ : ∃ A, due (T + 1 : Nat) (ssort X) = A := ⟨_, rfl⟩
        obtain ⟨B, hB⟩ : ∃ B, rest (T + 1 : Nat) (ssort X) = B := ⟨_, rfl⟩
        have hhd2 := rest_head hB
        have hS : ssort X = A ++ B := by rw [← hA, ← hB]; exact (due_rest _ _).symm
        obtain ⟨t1, t2, t3, t4⟩ := tick_parts hA hB hin
        rw [hA, hB, hS] at ct
        have hlX : lefts i X = lefts i (A ++ B) := lefts_eq t1
        rw [hlX]
        clear hA hB hS hlX
        have hfl : (rowB (p ++ X)).cells.all flat = true := tcs_flat _
        have hfl2 : (rowB (p ++ (A ++ B))).cells.all flat = true := tcs_flat _
        unfold mB at ct ⊢
        by_cases hA0 : A = []
        · subst hA0
          rw [show outU ([] : List Tr) = .slice none 0 0 from rfl] at ct
          refine Wp.seq (Wp.seq (Wp.text (kp 65 (.int .i64 T) (kp 66 (.bool true) (WpOps.nil (thenK_at (on' (Wp.skip (thenK_at (Wp.seq (Wp.block (Wp.seq (Wp.text (kp 69 (.pointer (some ⟨0, 0, none⟩)) (cl 70 14 [Value.pointer (some ⟨0, 0, none⟩)] ?_))))))))))) (hop := fun _ => by_fact d3)))))
          refine WpCall.lent [0, 1] (ct) (by decide) ⟨⟨[Value.int .i64 k, Value.iface 46 (Value.iface (List.length L) (Value.iface 0 (Value.agg (List.toArray (fts L))))), Value.int .i64 T, Value.int .i64 i, Value.slice (some (Addr.mk 1 (List.length p * 2) none)) (List.length X) (List.length X)], (by kernel_rfl), (by kernel_rfl), (by kernel_rfl)⟩, ⟨⟨_, (by kernel_rfl), CellsOk.eq rfl (by assumption)⟩, trivial⟩⟩ (by kernel_rfl) (Value.slice none 0 0) ([Blk.mk 66 true [Value.int .i64 k, Value.iface 46 (Value.iface (List.length L) (Value.iface 0 (Value.agg (List.toArray (fts L))))), Value.int .i64 (↑(T + 1) : Int), Value.int .i64 i, Value.slice (some (Addr.mk (List.getD [0, 1] 1 0) (List.length (p ++ []) * 2) none)) (List.length B) (List.length B)], Blk.mk 73 true (tcs (p ++ ([] ++ B)))]) (.cons (by kernel_rfl) (.cons (unB_flat (by assumption)) .nil)) (by kernel_rfl) (Heap.set (Heap.set (heapOf [Blk.mk 66 true [Value.int .i64 k, FS 46 (List.length L) 0 (List.toArray (fts L)), Value.int .i64 T, Value.int .i64 i, Value.slice (some (Addr.mk 1 (List.length p * 2) none)) (List.length X) (List.length X)], rowB (p ++ X), Blk.mk 3 true (lefts i ([] ++ B))]) 0 (some (Blk.mk 66 true [Value.int .i64 k, Value.iface 46 (Value.iface (List.length L) (Value.iface 0 (Value.agg (List.toArray (fts L))))), Value.int .i64 (↑(T + 1) : Int), Value.int .i64 i, Value.slice (some (Addr.mk 1 (List.length (p ++ []) * 2) none)) (List.length B) (List.length B)]))) 1 (some (Blk.mk 73 true (tcs (p ++ ([] ++ B)))))) (by kernel_rfl) ?_
          refine kp 14 (.slice none 0 0) (WpOps.nil (thenK_at (Wp.seq (Wp.text (kp 15 (.int .i64 0) (WpOps.nil (thenK_at (Wp.block ?_))))))))
          refine Wp.unroll (WpL.step ?_)
          refine Wp.seq (Wp.seq (Wp.text (kp 71 (.int .i64 0) (kp 72 (.slice none 0 0) (kp 73 (.int .i64 (↑0 : Int)) (kp 74 (.bool false) (WpOps.nil (thenK_at (off' (Wp.exit (thenK_exit (thenK_exit (blockK_hit (blockK_norm (thenK_at (Wp.text (kp 67 (.int .i64 T) (kp 68 (.int .i64 (IntKind.wrap .i64 ((↑T : Int) + 1))) (kp 13 (.int .i64 (IntKind.wrap .i64 ((↑T : Int) + 1))) (WpOps.nil (thenK_at ?_)))))))))))))))))))))
          exact ⟨(T + 1, p ++ ([] : List Tr), B), by dsimp only; omega, ⟨by dsimp only; omega, t3, by dsimp only at *; simp only [List.length_nil] at t4; omega, hhd2⟩, View.of [0, 1, 2] [mB k L (T + 1 : Nat) i (.slice (some ⟨1, (p ++ ([] : List Tr)).length * 2, none⟩) B.length B.length), rowB (p ++ ([] : List Tr) ++ B), ⟨3, true, lefts i B⟩] _ (by decide) rfl ⟨⟨_, by kernel_rfl, ⟨rfl, rfl⟩⟩, ⟨tcs (p ++ ([] ++ B)), by kernel_rfl, CellsOk.eq (by simp [rowB]) (tcs_flat _)⟩, ⟨lefts i ([] ++ B), by kernel_rfl, CellsOk.eq rfl (lefts_flat _ _)⟩, trivial⟩ ⟨⟨by kernel_rfl, rfl⟩, ⟨by kernel_rfl, rfl⟩, ⟨by kernel_rfl, rfl⟩, ⟨by kernel_rfl, rfl⟩, ⟨congrArg (Value.int .i64) wT, rfl⟩, trivial⟩⟩
        · rw [show outU A = FS 9 A.length 0 (uns A).toArray from if_neg hA0] at ct
          refine Wp.seq (Wp.seq (Wp.text (kp 65 (.int .i64 T) (kp 66 (.bool true) (WpOps.nil (thenK_at (on' (Wp.skip (thenK_at (Wp.seq (Wp.block (Wp.seq (Wp.text (kp 69 (.pointer (some ⟨0, 0, none⟩)) (cl 70 14 [Value.pointer (some ⟨0, 0, none⟩)] ?_))))))))))) (hop := fun _ => by_fact d3)))))
          refine WpCall.lent [0, 1] (ct) (by decide) ⟨⟨[Value.int .i64 k, Value.iface 46 (Value.iface (List.length L) (Value.iface 0 (Value.agg (List.toArray (fts L))))), Value.int .i64 T, Value.int .i64 i, Value.slice (some (Addr.mk 1 (List.length p * 2) none)) (List.length X) (List.length X)], (by kernel_rfl), (by kernel_rfl), (by kernel_rfl)⟩, ⟨⟨_, (by kernel_rfl), CellsOk.eq rfl (by assumption)⟩, trivial⟩⟩ (by kernel_rfl) (Value.iface 9 (Value.iface (List.length A) (Value.iface 0 (Value.agg (List.toArray (uns A)))))) ([Blk.mk 66 true [Value.int .i64 k, Value.iface 46 (Value.iface (List.length L) (Value.iface 0 (Value.agg (List.toArray (fts L))))), Value.int .i64 (↑(T + 1) : Int), Value.int .i64 i, Value.slice (some (Addr.mk (List.getD [0, 1] 1 0) (List.length (p ++ A) * 2) none)) (List.length B) (List.length B)], Blk.mk 73 true (tcs (p ++ (A ++ B)))]) (.cons (by kernel_rfl) (.cons (unB_flat (by assumption)) .nil)) (by kernel_rfl) (Heap.set (Heap.set (heapOf [Blk.mk 66 true [Value.int .i64 k, FS 46 (List.length L) 0 (List.toArray (fts L)), Value.int .i64 T, Value.int .i64 i, Value.slice (some (Addr.mk 1 (List.length p * 2) none)) (List.length X) (List.length X)], rowB (p ++ X), Blk.mk 3 true (lefts i (A ++ B))]) 0 (some (Blk.mk 66 true [Value.int .i64 k, Value.iface 46 (Value.iface (List.length L) (Value.iface 0 (Value.agg (List.toArray (fts L))))), Value.int .i64 (↑(T + 1) : Int), Value.int .i64 i, Value.slice (some (Addr.mk 1 (List.length (p ++ A) * 2) none)) (List.length B) (List.length B)]))) 1 (some (Blk.mk 73 true (tcs (p ++ (A ++ B)))))) (by kernel_rfl) ?_
          refine kp 14 (.iface 9 (Value.iface (List.length A) (Value.iface 0 (Value.agg (List.toArray (uns A)))))) (WpOps.nil (thenK_at (Wp.seq (Wp.text (kp 15 (.int .i64 0) (WpOps.nil (thenK_at (Wp.block ?_))))))))
          refine Wp.loop (G := Nat) (fun j => layj [(6, .bool false), (7, .int .i64 i), (8, .pointer (some ⟨0, 0, none⟩)), (11, .slice (some ⟨2, 0, none⟩) i i), (13, .int .i64 T), (14, FS 9 A.length 0 (uns A).toArray), (15, .int .i64 j)]) (fun j => heapOf [mB k L (T + 1 : Nat) i (.slice (some ⟨1, (p ++ A).length * 2, none⟩) B.length B.length), rowB (p ++ (A ++ B)), ⟨3, true, lefts i (A.drop j ++ B)⟩]) (fun j => A.length - j) (fun j => j ≤ A.length) 0
            (View.of [0, 1, 2] [mB k L (T + 1 : Nat) i (.slice (some ⟨1, (p ++ A).length * 2, none⟩) B.length B.length), rowB (p ++ (A ++ B)), ⟨3, true, lefts i (A.drop 0 ++ B)⟩] _ (by decide) rfl ⟨⟨_, by kernel_rfl, ⟨rfl, rfl⟩⟩, ⟨_, by kernel_rfl, CellsOk.eq rfl (tcs_flat _)⟩, ⟨_, by kernel_rfl, CellsOk.eq rfl (lefts_flat _ _)⟩, trivial⟩ ⟨⟨by kernel_rfl, rfl⟩, ⟨by kernel_rfl, rfl⟩, ⟨by kernel_rfl, rfl⟩, ⟨by kernel_rfl, rfl⟩, ⟨by kernel_rfl, rfl⟩, ⟨by kernel_rfl, rfl⟩, ⟨by kernel_rfl, rfl⟩, trivial⟩) (Nat.zero_le _) ?_
          intro j hj
          by_cases hjl : j < A.length
          · have d4 : decide ((j : Int) < (A.length : Int)) = true := decide_eq_true (by omega)
            have g1 : 0 ≤ (j : Int) ∧ (j : Int) < (A.length : Int) := by omega
            have wj : IntKind.i64.wrap ((j : Int) + 1) = ((j + 1 : Nat) : Int) := by rw [wr _ (by omega) (by omega)]; omega
            obtain ⟨z, hz⟩ : ∃ z, A[j] = z := ⟨_, rfl⟩
            have hzin := t2 z (by rw [← hz]; exact List.getElem_mem hjl)
            have hdr : A.drop j = z :: A.drop (j + 1) := by rw [← hz]; exact List.drop_eq_getElem_cons hjl
            have hg : (uns A).toArray.toList[(j : Int).toNat * 1]? = some (.string z.2) := by
              rw [Int.toNat_natCast, Nat.mul_one, List.toList_toArray, uns, List.getElem?_map, List.getElem?_eq_getElem hjl, hz]
              rfl
            obtain ⟨zt, v⟩ := z
            obtain ⟨z1, z2, _, _⟩ := hzin
            obtain ⟨q, hq⟩ : ∃ q, lab (zt, v) = q := ⟨_, rfl⟩
            have hcq : cnt q (A.drop j ++ B) = cnt q (A.drop (j + 1) ++ B) + 1 := by
              rw [hdr]
              show List.countP _ ((zt, v) :: (A.drop (j + 1) ++ B)) = _
              rw [List.countP_cons_of_pos (by simpa using hq)]
              rfl
            have hco : ∀ w, w ≠ q → cnt w (A.drop (j + 1) ++ B) = cnt w (A.drop j ++ B) := fun w hw => by
              rw [hdr]
              show _ = List.countP _ ((zt, v) :: (A.drop (j + 1) ++ B))
              rw [List.countP_cons_of_neg (by simp only [decide_eq_true_eq]; rw [hq]; exact fun e => hw e.symm)]
              rfl
            have sl1 := lefts_set (n := i) hco
            rw [hq] at z2
            dsimp only at z1 hg
            have hqv : (byteAt v 0).toNat = q := hq
            have g2 : ((v.size : Int) != 1) = false := by rw [z1]; rfl
            have g3 : (0 : Int) ≤ 0 ∧ (0 : Int) < (v.size : Int) := by rw [z1]; decide
            have g4 : v[(0 : Int).toNat]? = some (byteAt v 0) := byte_get v 0 (by omega)
            have g5 : 0 ≤ ((byteAt v 0).toNat : Int) ∧ ((byteAt v 0).toNat : Int) < (i : Int) := by omega
            have g6 : (lefts i (A.drop j ++ B))[0 + ((byteAt v 0).toNat : Int).toNat * 1]? = some (.int .i64 (cnt q (A.drop j ++ B) : Nat)) := by
              rw [show 0 + ((byteAt v 0).toNat : Int).toNat * 1 = q by omega]
              exact lefts_at z2
            have hcl : cnt q (A.drop j ++ B) ≤ 240 := by
              have h1 : cnt q (A.drop j ++ B) ≤ (A.drop j ++ B).length := List.countP_le_length
              rw [List.length_append, List.length_drop] at h1
              omega
            have g7 : decide (IntKind.i64.wrap ((byteAt v 0).toNat : Int) ≥ (i : Int)) = false := decide_eq_false (by rw [wr _ (by omega) (by omega)]; omega)
            have q0 : true = true ∧ 0 + ((byteAt v 0).toNat : Int).toNat * 1 + [Value.int .i64 (IntKind.i64.wrap ((cnt q (A.drop j ++ B) : Nat) - 1))].length ≤ (lefts i (A.drop j ++ B)).length := ⟨rfl, by rw [lefts_len]; show 0 + ((byteAt v 0).toNat : Int).toNat * 1 + 1 ≤ i; omega⟩
            refine Wp.seq (Wp.seq (Wp.text (kp 71 (.int .i64 j) (kp 72 (.iface 9 (Value.iface (List.length A) (Value.iface 0 (Value.agg (List.toArray (uns A)))))) (kp 73 (.int .i64 (List.length A)) (kp 74 (.bool true) (WpOps.nil (thenK_at (on' (Wp.skip (thenK_at (Wp.seq (Wp.block (Wp.seq (Wp.seq (Wp.text (kp 77 (.iface 9 (Value.iface (List.length A) (Value.iface 0 (Value.agg (List.toArray (uns A)))))) (kp 78 (.int .i64 j) (kp 79 (.iface 9 (Value.iface (Int.toNat (↑j : Int) * 1) (Value.agg (List.toArray (uns A))))) (kp 80 (.string v) (kp 81 (.int .i64 (ByteArray.size v)) (kp 82 (.bool false) (kp 83 (.bool false) (kp 84 (.iface 9 (Value.iface (List.length A) (Value.iface 0 (Value.agg (List.toArray (uns A)))))) (kp 85 (.int .i64 j) (kp 86 (.iface 9 (Value.iface (Int.toNat (↑j : Int) * 1) (Value.agg (List.toArray (uns A))))) (kp 87 (.string v) (kp 88 (.int .u8 (↑(UInt8.toNat (byteAt v 0)) : Int)) (kp 89 (.int .i64 (IntKind.wrap .i64 (↑(UInt8.toNat (byteAt v 0)) : Int))) (kp 90 (.int .i64 i) (kp 91 (.bool false) (kp 92 (.bool false) (WpOps.nil (thenK_at (off' (Wp.skip (thenK_at ?_)))))) (hop := fun _ => by_fact g7)))) (hop := fun _ => o_indexStr (of_decide_eq_true (by kernel_rfl)) g4)) (hop := fun _ => o_loadI1 (Int.toNat (↑j : Int) * 1) hg)) (hop := fun _ => o_indexI (e := 9) (size := 1) (a := (↑j : Int)) g1))))) (hop := fun _ => by_fact g2))) (hop := fun _ => o_loadI1 (Int.toNat (↑j : Int) * 1) hg)) (hop := fun _ => o_indexI (e := 9) (size := 1) (a := (↑j : Int)) g1)))))))))))))) (hop := fun _ => by_fact d4)))))))
            refine Wp.region (by kernel_rfl) (kp 93 (.slice (some ⟨2, 0, none⟩) i i) (kp 94 (.iface 9 (Value.iface (List.length A) (Value.iface 0 (Value.agg (List.toArray (uns A)))))) (kp 95 (.int .i64 j) (kp 96 (.iface 9 (Value.iface (Int.toNat (↑j : Int) * 1) (Value.agg (List.toArray (uns A))))) (kp 97 (.string v) (kp 98 (.int .u8 (↑(UInt8.toNat (byteAt v 0)) : Int)) (kp 99 (.slice (some ⟨2, 0, none⟩) i i) (kp 100 (.iface 9 (Value.iface (List.length A) (Value.iface 0 (Value.agg (List.toArray (uns A)))))) (kp 101 (.int .i64 j) (kp 102 (.iface 9 (Value.iface (Int.toNat (↑j : Int) * 1) (Value.agg (List.toArray (uns A))))) (kp 103 (.string v) (kp 104 (.int .u8 (↑(UInt8.toNat (byteAt v 0)) : Int)) (kp 105 (.pointer (some (Addr.mk 2 (0 + Int.toNat (↑(UInt8.toNat (byteAt v 0)) : Int) * 1) none))) (kp 106 (.int .i64 (cnt q (List.drop j A ++ B))) (kp 107 (.int .i64 (IntKind.wrap .i64 ((↑(cnt q (List.drop j A ++ B)) : Int) - 1))) ?_) (hop := fun _ => o_load1 (2) (0 + Int.toNat (↑(UInt8.toNat (byteAt v 0)) : Int) * 1) g6)) (hop := fun _ => o_indexAddr (a := (↑(UInt8.toNat (byteAt v 0)) : Int)) (bl := 2) (off := 0) (size := 1) 3 (i) g5)) (hop := fun _ => o_indexStr (of_decide_eq_true (by kernel_rfl)) g4)) (hop := fun _ => o_loadI1 (Int.toNat (↑j : Int) * 1) hg)) (hop := fun _ => o_indexI (e := 9) (size := 1) (a := (↑j : Int)) g1))))) (hop := fun _ => o_indexStr (of_decide_eq_true (by kernel_rfl)) g4)) (hop := fun _ => o_loadI1 (Int.toNat (↑j : Int) * 1) hg)) (hop := fun _ => o_indexI (e := 9) (size := 1) (a := (↑j : Int)) g1)))))
            refine kp 108 (.pointer (some (Addr.mk 2 (0 + Int.toNat (↑(UInt8.toNat (byteAt v 0)) : Int) * 1) none))) (ld (.tuple #[]) (2) (Blk.mk 3 true (List.set (lefts i (List.drop j A ++ B)) (0 + Int.toNat (↑(UInt8.toNat (byteAt v 0)) : Int) * 1) (Value.int .i64 (IntKind.wrap .i64 ((↑(cnt q (List.drop j A ++ B)) : Int) - 1))))) (WpOps.nil (blockK_norm (thenK_at (Wp.text (kp 75 (.int .i64 j) (kp 76 (.int .i64 (IntKind.wrap .i64 ((↑j : Int) + 1))) (kp 15 (.int .i64 (IntKind.wrap .i64 ((↑j : Int) + 1))) (WpOps.nil (thenK_at ?_))))))))) (hop := fun _ => o_store1 (2) (0 + Int.toNat (↑(UInt8.toNat (byteAt v 0)) : Int) * 1) q0)) (hop := fun _ => o_indexAddr (a := (↑(UInt8.toNat (byteAt v 0)) : Int)) (bl := 2) (off := 0) (size := 1) 3 (i) g5)
            have hst : (lefts i (A.drop j ++ B)).set (0 + ((byteAt v 0).toNat : Int).toNat * 1) (.int .i64 (IntKind.i64.wrap ((cnt q (A.drop j ++ B) : Nat) - 1))) = lefts i (A.drop (j + 1) ++ B) := by
              rw [show 0 + ((byteAt v 0).toNat : Int).toNat * 1 = q by omega, wr _ (by omega) (by omega), hcq, ← sl1]
              congr 2
              omega
            exact ⟨j + 1, by omega, by omega, View.of [0, 1, 2] [mB k L (T + 1 : Nat) i (.slice (some ⟨1, (p ++ A).length * 2, none⟩) B.length B.length), rowB (p ++ (A ++ B)), ⟨3, true, lefts i (A.drop (j + 1) ++ B)⟩] _ (by decide) rfl ⟨⟨_, by kernel_rfl, ⟨rfl, rfl⟩⟩, ⟨_, by kernel_rfl, CellsOk.eq rfl (tcs_flat _)⟩, ⟨_, by kernel_rfl, CellsOk.eq hst (lefts_flat _ _)⟩, trivial⟩ ⟨⟨by kernel_rfl, rfl⟩, ⟨by kernel_rfl, rfl⟩, ⟨by kernel_rfl, rfl⟩, ⟨by kernel_rfl, rfl⟩, ⟨by kernel_rfl, rfl⟩, ⟨by kernel_rfl, rfl⟩, ⟨congrArg (Value.int .i64) wj, rfl⟩, trivial⟩⟩
          · have d4 : decide ((j : Int) < (A.length : Int)) = false := decide_eq_false (by omega)
            obtain rfl : j = A.length := by omega
            rw [List.drop_length]
            refine Wp.seq (Wp.seq (Wp.text (kp 71 (.int .i64 (List.length A)) (kp 72 (.iface 9 (Value.iface (List.length A) (Value.iface 0 (Value.agg (List.toArray (uns A)))))) (kp 73 (.int .i64 (List.length A)) (kp 74 (.bool false) (WpOps.nil (thenK_at (off' (Wp.exit (thenK_exit (thenK_exit (blockK_hit (blockK_norm (thenK_at (Wp.text (kp 67 (.int .i64 T) (kp 68 (.int .i64 (IntKind.wrap .i64 ((↑T : Int) + 1))) (kp 13 (.int .i64 (IntKind.wrap .i64 ((↑T : Int) + 1))) (WpOps.nil (thenK_at ?_))))))))))))))) (hop := fun _ => by_fact d4)))))))
            exact ⟨(T + 1, p ++ A, B), by dsimp only; omega, ⟨by dsimp only; omega, t3, by dsimp only; omega, hhd2⟩, View.of [0, 1, 2] [mB k L (T + 1 : Nat) i (.slice (some ⟨1, (p ++ A).length * 2, none⟩) B.length B.length), rowB (p ++ A ++ B), ⟨3, true, lefts i B⟩] _ (by decide) rfl ⟨⟨_, by kernel_rfl, ⟨rfl, rfl⟩⟩, ⟨tcs (p ++ (A ++ B)), by kernel_rfl, CellsOk.eq (by simp [rowB]) (tcs_flat _)⟩, ⟨lefts i ([] ++ B), by kernel_rfl, CellsOk.eq rfl (lefts_flat _ _)⟩, trivial⟩ ⟨⟨by kernel_rfl, rfl⟩, ⟨by kernel_rfl, rfl⟩, ⟨by kernel_rfl, rfl⟩, ⟨by kernel_rfl, rfl⟩, ⟨congrArg (Value.int .i64) wT, rfl⟩, trivial⟩⟩
      · have d3 : decide ((T : Int) < 25) = false := decide_eq_false (by omega)
        obtain rfl : T = 25 := by omega
        have hX : X = [] := by
          cases X with
          | nil => rfl
          | cons z r =>
            have h1 := hhd z rfl
            have h2 := hin z (List.mem_cons_self ..)
            omega
        subst hX
        unfold mB
        refine Wp.seq (Wp.seq (Wp.text (kp 65 (.int .i64 (↑25 : Int)) (kp 66 (.bool false) (WpOps.nil (thenK_at (off' (Wp.exit (thenK_exit (thenK_exit (blockK_hit (thenK_at (Wp.seq (Wp.seq (Wp.text (kp 16 (.int .i64 0) (WpOps.nil (thenK_at (Wp.block ?_)))))))))))))))))))
        refine Wp.loop (G := Nat) (fun j => layj [(6, .bool false), (7, .int .i64 i), (11, .slice (some ⟨0, 0, none⟩) i i), (16, .int .i64 j)]) (fun _ => heapOf [⟨3, true, lefts i []⟩]) (fun j => i - j) (fun j => j ≤ i) 0
          (View.of [2] [⟨3, true, lefts i []⟩] _ (by decide) rfl ⟨⟨_, by kernel_rfl, CellsOk.eq rfl (lefts_flat _ _)⟩, trivial⟩ ⟨⟨by kernel_rfl, rfl⟩, ⟨by kernel_rfl, rfl⟩, ⟨by kernel_rfl, rfl⟩, ⟨by kernel_rfl, rfl⟩, trivial⟩) (Nat.zero_le _) ?_
        intro j hj
        by_cases hc : j < i
        · have d4 : decide ((j : Int) < (i : Int)) = true := decide_eq_true (by omega)
          have g1 : 0 ≤ (j : Int) ∧ (j : Int) < (i : Int) := by omega
          have g6 : (lefts i [])[0 + (j : Int).toNat * 1]? = some (.int .i64 0) := by
            rw [show 0 + (j : Int).toNat * 1 = j by omega]
            exact lefts_at hc
          have wj : IntKind.i64.wrap ((j : Int) + 1) = ((j + 1 : Nat) : Int) := by rw [wr _ (by omega) (by omega)]; omega
          refine Wp.seq (Wp.seq (Wp.text (kp 109 (.int .i64 j) (kp 110 (.int .i64 i) (kp 111 (.bool true) (WpOps.nil (thenK_at (on' (Wp.skip (thenK_at (Wp.seq (Wp.block (Wp.seq (Wp.text (kp 114 (.slice (some ⟨0, 0, none⟩) i i) (kp 115 (.int .i64 j) (kp 116 (.pointer (some (Addr.mk 0 (0 + Int.toNat (↑j : Int) * 1) none))) (kp 117 (.int .i64 0) (kp 118 (.bool false) (WpOps.nil (thenK_at (off' (Wp.skip (blockK_norm (thenK_at (Wp.text (kp 112 (.int .i64 j) (kp 113 (.int .i64 (IntKind.wrap .i64 ((↑j : Int) + 1))) (kp 16 (.int .i64 (IntKind.wrap .i64 ((↑j : Int) + 1))) (WpOps.nil (thenK_at ?_))))))))))))) (hop := fun _ => o_load1 (0) (0 + Int.toNat (↑j : Int) * 1) g6)) (hop := fun _ => o_indexAddr (a := (↑j : Int)) (bl := 0) (off := 0) (size := 1) 3 (i) g1))))))))))))) (hop := fun _ => by_fact d4))))))
          exact ⟨j + 1, by omega, by omega, View.of [0] [⟨3, true, lefts i []⟩] _ (by decide) rfl ⟨⟨_, by kernel_rfl, CellsOk.eq rfl (lefts_flat _ _)⟩, trivial⟩ ⟨⟨by kernel_rfl, rfl⟩, ⟨by kernel_rfl, rfl⟩, ⟨by kernel_rfl, rfl⟩, ⟨congrArg (Value.int .i64) wj, rfl⟩, trivial⟩⟩
        · have d4 : decide ((j : Int) < (i : Int)) = false := decide_eq_false (by omega)
          refine Wp.seq (Wp.seq (Wp.text (kp 109 (.int .i64 j) (kp 110 (.int .i64 i) (kp 111 (.bool false) (WpOps.nil (thenK_at (off' (Wp.exit (thenK_exit (thenK_exit (blockK_hit (thenK_at (Wp.seq (Wp.text (fr 119 8 [] (WpFun.of (c8) (kp 6 (.bool true) (WpOps.nil (thenK_at (Wp.ret (endK_retn [Value.bool true] (Value.bool true) (by kernel_rfl) (by kernel_rfl) ?_))))))))))))))))) (hop := fun _ => by_fact d4))))))
          rfl
theorem law3 (ki : Int) (x : Nat) (l : List Int) (u : Int) (hl : ∀ n ∈ l, I64 n) (hz : l.length ≤ 17592186044416) : Fun E 3 [.int .i64 ki, sl x l, .int .i64 u] (.bool true) := by
  by_cases hb : l.length ≤ 300
  · exact law3a ki x l u hl hb
  refine Fun.of h3 rfl (of_decide_eq_true (by kernel_rfl)) rfl ?_
  have c0 := sane8
  have d0 : decide ((l.length : Int) > 300) = true := decide_eq_true (by omega)
  unfold sl
  refine Wp.seq (Wp.text (kp 6 (.bool false) (WpOps.nil (thenK_at (Wp.seq (Wp.seq (Wp.text (kp 17 (.iface 3 (Value.iface (List.length l) (Value.iface x (Value.agg (List.toArray (List.map (fun n => Value.int .i64 n) l)))))) (kp 18 (.int .i64 (List.length l)) (kp 19 (.bool true) (WpOps.nil (thenK_at (on' (Wp.seq (Wp.text (fr 20 8 [] (WpFun.of (c0) (kp 6 (.bool true) (WpOps.nil (thenK_at (Wp.ret (thenK_ret (endK_retn [Value.bool true] (Value.bool true) (by kernel_rfl) (by kernel_rfl) ?_))))))))))))) (hop := fun _ => by_fact d0)))))))))))
  rfl
end Go.Proofs.Ytdkmdpklojeepaa.D
