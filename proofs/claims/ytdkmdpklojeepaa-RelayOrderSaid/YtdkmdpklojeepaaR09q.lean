/- The law RelayOrder: the walk. -/
import Derived.Test.YtdkmdpklojeepaaFwLem
import Derived.Test.YtdkmdpklojeepaaFwHole
import Derived.Test.YtdkmdpklojeepaaR09ef
import Derived.Test.YtdkmdpklojeepaaF09i
namespace Go.Proofs.Ytdkmdpklojeepaa.D
open Go.Fw Go.RowKit

theorem h4 : E.funcs 4 = some Try.f4 := by kernel_rfl
/-- A wire's memory, before the first tick. -/
def memW (L : List Ft) (i : Nat) : Heap := if Xl L i = [] then heapOf [mB 0 L 0 i (.slice none 0 0)] else heapOf [mB 0 L 0 i (.slice (some ⟨1, 0, none⟩) (Xl L i).length (Xl L i).length), rowB (Xl L i)]
theorem memW_nil {L : List Ft} {i : Nat} (h : Xl L i = []) : memW L i = heapOf [mB 0 L ((0 : Nat) : Int) i (.slice none 0 0)] := if_pos h
theorem memW_own {L : List Ft} {i : Nat} (h : ¬ Xl L i = []) : memW L i = heapOf [mB 0 L ((0 : Nat) : Int) i (.slice (some ⟨1, 0, none⟩) (Xl L i).length (Xl L i).length), rowB (Xl L i)] := if_neg h
theorem run_cons {n : Nat} {L : List Ft} {la : Int} {ti : Nat} {k r : Nat} {a : Int} {Z : List Lb} {s : Int × Nat} (h : run n L (la, ti) ((k, r, a) :: Z) = some s) : ((k : Int) = la ∧ r = ti ∨ la < k ∧ r = 0) ∧ k < n ∧ (fate L k).lo = false ∧ (r : Int) ≤ (fate L k).co ∧ run n L (k, r + 1) Z = some s := by
  have h : (stp n L (la, ti) (k, r, a)).bind (fun s => run n L s Z) = some s := h
  unfold stp at h
  split at h
  · rename_i hc
    exact ⟨hc.1, hc.2.1, hc.2.2.1, hc.2.2.2, h⟩
  · cases h
theorem unit_first {f : Ft} {k : Nat} {v : ByteArray} (h : unit' f (un k) = v) (hk : k < 60) : v.size = 3 ∧ ∃ e, (byteAt v 0).toNat = 10 + 2 * k + e ∧ e ≤ 1 := by
  subst h
  unfold unit'
  have h0 : (byteAt (un k) 0).toNat = 10 + 2 * k := by
    show (UInt8.ofNat (10 + 2 * k)).toNat = _
    rw [UInt8.toNat_ofNat']
    omega
  split
  · have e : spu (un k) f.sp = spo (un k) (modN f.sp 3).toNat := rfl
    rw [e]
    obtain ⟨m1, m2⟩ := modN_in f.sp 3 (by decide)
    generalize hm : (modN f.sp 3).toNat = m
    have hm3 : m < 3 := by omega
    have hs : (un k).size = 3 := rfl
    refine ⟨by rw [spo_size _ _ (by omega)]; rfl, ?_⟩
    have hl := spo_list (un k) m (by omega)
    have hb : byteAt (spo (un k) m) 0 = ((un k).data.toList.set m (nb ((un k).data.toList.getD m 0))).getD 0 0 := by
      rw [← hl]
      rfl
    rw [hb]
    have h3 : m = 0 ∨ m = 1 ∨ m = 2 := by omega
    rcases h3 with rfl | rfl | rfl
    · refine ⟨1, ?_, Nat.le_refl _⟩
      show (nb (UInt8.ofNat (10 + 2 * k))).toNat = _
      unfold nb
      have h0' : (UInt8.ofNat (10 + 2 * k)).toNat = 10 + 2 * k := h0
      rw [h0', Int.tmod_eq_emod_of_nonneg (by omega), show ((10 + 2 * k : Nat) : Int) % 255 = ((10 + 2 * k : Nat) : Int) by omega, show IntKind.u8.wrap (((10 + 2 * k : Nat) : Int) + 1) = ((10 + 2 * k + 1 : Nat) : Int) by show (((10 + 2 * k : Nat) : Int) + 1) % 256 = _; omega, Int.toNat_natCast, UInt8.toNat_ofNat']
      omega
    · exact ⟨0, h0, Nat.zero_le _⟩
    · exact ⟨0, h0, Nat.zero_le _⟩
  · exact ⟨rfl, 0, h0, Nat.zero_le _⟩
theorem law4a (x : Nat) (l : List Int) (u : Int) (hl : ∀ n ∈ l, I64 n) (hz : l.length ≤ 300) : Fun E 4 [sl x l, .int .i64 u] (.bool true) := by
  refine Fun.of h4 rfl (of_decide_eq_true (by kernel_rfl)) rfl ?_
  have c1 := mod9 u 60 (by decide) (by decide)
  obtain ⟨m1, m2⟩ := modN_in u 60 (by decide)
  obtain ⟨N, hN⟩ : ∃ N : Nat, modN u 60 = N := ⟨(modN u 60).toNat, by omega⟩
  rw [hN] at c1 m2
  have c2 := of15 x l hl (by omega)
  obtain ⟨y, hy⟩ := outF_fts 46 false l
  rw [hy] at c2
  have hok := ftsOf_ok false l
  have hLl := ftsOf_len false l
  have c3 := new10 0 y (ftsOf false l) (.inl rfl) (by omega) hok
  have d1 : decide ((l.length : Int) > 300) = false := decide_eq_false (by omega)
  unfold sl at c2 ⊢
  unfold mB at c3
  clear hy hLl
  have hLn : (ftsOf false l).length ≤ 200 := by rw [ftsOf_len]; omega
  have c4 := of16 x l hl (by omega)
  obtain ⟨y2, hy2⟩ := outF_fts 36 false l
  rw [hy2] at c4
  unfold sl at c4
  clear hy2
  generalize ftsOf false l = L at *
  have hzok := zok N L hok (by omega)
  refine Wp.seq (Wp.text ?_)
  refine kp 4 (.bool false) ?_
  refine WpOps.nil (thenK_at (Wp.seq (Wp.seq (Wp.text ?_))))
  refine kp 19 (.iface 3 (Value.iface (List.length l) (Value.iface x (Value.agg (List.toArray (List.map (fun n => Value.int .i64 n) l)))))) ?_
  refine kp 20 (.int IntKind.i64 (↑(List.length l) : Int)) ?_
  refine kp 21 (.bool false) ?_ (hop := fun _ => by_fact d1)
  refine WpOps.nil (thenK_at (off' (Wp.skip (thenK_at (Wp.seq (Wp.text ?_))))))
  refine kp 23 (.int IntKind.i64 u) ?_
  refine fr 24 9 [Value.int .i64 u, Value.int .i64 60] ?_
  refine WpFun.of (c1) ?_
  refine kp 5 (.int IntKind.i64 (↑N : Int)) ?_
  refine WpOps.nil (thenK_at (Wp.seq (Wp.text ?_)))
  refine kp 26 (.iface 3 (Value.iface (List.length l) (Value.iface x (Value.agg (List.toArray (List.map (fun n => Value.int .i64 n) l)))))) ?_
  refine fr 27 15 [Value.iface 3 (Value.iface (List.length l) (Value.iface x (Value.agg (List.toArray (List.map (fun n => Value.int .i64 n) l)))))] ?_
  refine WpFun.of (c2) ?_
  refine cl 28 10 [Value.int .i64 0, Value.iface 46 (Value.iface (List.length L) (Value.iface y (Value.agg (List.toArray (fts L)))))] ?_
  refine WpCall.lent [] (c3) (by decide) trivial (by kernel_rfl) (Value.tuple #[Value.pointer (some (Addr.mk (List.getD [0] 0 0) 0 none)), Value.int IntKind.i64 0]) ([Blk.mk 66 true [Value.int IntKind.i64 0, Value.iface 46 (Value.iface (List.length L) (Value.iface 0 (Value.agg (List.toArray (fts L))))), Value.int IntKind.i64 0, Value.int IntKind.i64 0, Value.slice none 0 0]]) (.cons (by kernel_rfl) .nil) (by kernel_rfl) (Heap.alloc Heap.none (Blk.mk 66 true [Value.int IntKind.i64 0, Value.iface 46 (Value.iface (List.length L) (Value.iface 0 (Value.agg (List.toArray (fts L))))), Value.int IntKind.i64 0, Value.int IntKind.i64 0, Value.slice none 0 0])) (by kernel_rfl) ?_
  refine kp 25 (.tuple #[Value.pointer (some (Addr.mk (List.getD [0] 0 0) 0 none)), Value.int .i64 0]) ?_
  refine kp 29 (.pointer (some ⟨0, 0, none⟩)) ?_
  refine kp 30 (.int IntKind.i64 0) ?_
  refine kp 6 (.pointer (some ⟨0, 0, none⟩)) ?_
  refine kp 7 (.int IntKind.i64 0) ?_
  refine WpOps.nil (thenK_at (Wp.seq (Wp.seq (Wp.text ?_))))
  refine kp 31 (.int IntKind.i64 0) ?_
  refine kp 32 (.bool false) ?_
  refine WpOps.nil (thenK_at (off' (Wp.skip (thenK_at (Wp.seq (Wp.seq (Wp.text ?_)))))))
  refine kp 8 (.int IntKind.i64 0) ?_
  refine WpOps.nil (thenK_at (Wp.block ?_))
  refine Wp.loop (G := Nat) (fun i => layj [(0, FS 3 l.length x (l.map fun n => Value.int .i64 n).toArray), (4, .bool false), (5, .int .i64 N), (6, .pointer (some ⟨0, 0, none⟩)), (8, .int .i64 i)]) (memW L) (fun i => N - i) (fun i => i ≤ N) 0
    (by rw [memW_nil rfl]; exact View.of [0] [mB 0 L ((0 : Nat) : Int) ((0 : Nat) : Int) (.slice none 0 0)] _ (by decide) rfl ⟨⟨_, by kernel_rfl, CellsOk.eq rfl rfl⟩, trivial⟩ ⟨⟨by kernel_rfl, rfl⟩, ⟨by kernel_rfl, rfl⟩, ⟨by kernel_rfl, rfl⟩, ⟨by kernel_rfl, rfl⟩, ⟨by kernel_rfl, rfl⟩, trivial⟩) (Nat.zero_le _) ?_
  intro i hi
  by_cases hc : i < N
  · have d2 : decide ((i : Int) < (N : Int)) = true := decide_eq_true (by omega)
    have zk := hzok i hi
    obtain ⟨o1, o2, o3, o4, o5⟩ := fate_ok hok i
    have wi : IntKind.i64.wrap ((i : Int) + 1) = ((i + 1 : Nat) : Int) := by rw [wr _ (by omega) (by omega)]; omega
    have hu : (⟨#[UInt8.ofNat (IntKind.u8.wrap (IntKind.i64.wrap (10 + IntKind.i64.wrap (2 * (i : Int))))).toNat, UInt8.ofNat 200, UInt8.ofNat 201]⟩ : ByteArray) = un i := by
      rw [wr (2 * (i : Int)) (by omega) (by omega), wr (10 + 2 * (i : Int)) (by omega) (by omega), show IntKind.u8.wrap (10 + 2 * (i : Int)) = ((10 + 2 * i : Nat) : Int) by show (10 + 2 * (i : Int)) % 256 = _; omega, Int.toNat_natCast]
      rfl
    by_cases hX : Xl L i = []
    · rw [memW_nil hX]
      cases hlo : (fate L i).lo with
      | true =>
        have cs := lent13ln 0 L 0 i (un i) (show 3 ≤ 4000 by decide) (by omega) hlo
        refine Wp.seq (Wp.seq (Wp.text ?_))
        refine kp 33 (.int IntKind.i64 (↑i : Int)) ?_
        refine kp 34 (.int IntKind.i64 (↑N : Int)) ?_
        refine kp 35 (.bool true) ?_ (hop := fun _ => by_fact d2)
        refine WpOps.nil (thenK_at (on' (Wp.skip (thenK_at (Wp.seq (Wp.block (Wp.seq (Wp.text ?_))))))))
        refine kp 38 (.pointer (some ⟨0, 0, none⟩)) ?_
        refine kp 39 (.int IntKind.i64 (↑i : Int)) ?_
        refine kp 40 (.int IntKind.i64 (IntKind.wrap .i64 (2 * (↑i : Int)))) ?_
        refine kp 41 (.int IntKind.i64 (IntKind.wrap .i64 (10 + IntKind.wrap .i64 (2 * (↑i : Int))))) ?_
        refine kp 42 (.int IntKind.u8 (IntKind.wrap .u8 (IntKind.wrap .i64 (10 + IntKind.wrap .i64 (2 * (↑i : Int)))))) ?_
        refine md 43 (.slice (some ⟨1, 0, none⟩) 3 3) (Blk.mk 5 true [Value.int .u8 (IntKind.wrap .u8 (IntKind.wrap .i64 (10 + IntKind.wrap .i64 (2 * (↑i : Int))))), Value.int .u8 200, Value.int .u8 201]) ?_
        refine kp 44 (.string (ByteArray.mk #[UInt8.ofNat (Int.toNat (IntKind.wrap .u8 (IntKind.wrap .i64 (10 + IntKind.wrap .i64 (2 * (↑i : Int)))))), UInt8.ofNat 200, UInt8.ofNat 201])) ?_
        refine cl 45 13 [Value.pointer (some ⟨0, 0, none⟩), Value.string (ByteArray.mk #[UInt8.ofNat (Int.toNat (IntKind.wrap .u8 (IntKind.wrap .i64 (10 + IntKind.wrap .i64 (2 * (↑i : Int)))))), UInt8.ofNat 200, UInt8.ofNat 201])] ?_
        rw [hu]
        refine WpCall.lentP [0] cs (by decide) ⟨⟨_, by kernel_rfl, ⟨rfl, rfl⟩⟩, trivial⟩ rfl (.int .i64 0) [some (mB 0 L ((0 : Nat) : Int) (i + 1 : Nat) (.slice none 0 0))] (.cons rfl .nil) rfl _ rfl ?_
        refine kp 46 (.bool false) ?_
        refine WpOps.nil (thenK_at (off' (Wp.skip (blockK_norm (thenK_at (Wp.text ?_))))))
        refine kp 36 (.int IntKind.i64 (↑i : Int)) ?_
        refine kp 37 (.int IntKind.i64 (IntKind.wrap .i64 ((↑i : Int) + 1))) ?_
        refine kp 8 (.int IntKind.i64 (IntKind.wrap .i64 ((↑i : Int) + 1))) ?_
        refine WpOps.nil (thenK_at ?_)
        refine ⟨i + 1, by omega, by omega, ?_⟩
        rw [memW_nil ((Xl_lost hlo).trans hX)]
        exact View.of [0] [mB 0 L ((0 : Nat) : Int) (i + 1 : Nat) (.slice none 0 0)] _ (by decide) rfl ⟨⟨_, by kernel_rfl, CellsOk.eq rfl rfl⟩, trivial⟩ ⟨⟨by kernel_rfl, rfl⟩, ⟨by kernel_rfl, rfl⟩, ⟨by kernel_rfl, rfl⟩, ⟨by kernel_rfl, rfl⟩, ⟨congrArg (Value.int .i64) wi, rfl⟩, trivial⟩
      | false =>
        have cs := lent13n 0 L 0 i (un i) (show 3 ≤ 4000 by decide) (.inl rfl) hok (by omega) (by omega) hlo
        have hY : nxt 0 L 0 i [] (un i) = Xl L (i + 1) := by
          rw [Xl_put hlo (by omega) zk.len o2, hX]
          rfl
        rw [hY] at cs
        refine Wp.seq (Wp.seq (Wp.text ?_))
        refine kp 33 (.int IntKind.i64 (↑i : Int)) ?_
        refine kp 34 (.int IntKind.i64 (↑N : Int)) ?_
        refine kp 35 (.bool true) ?_ (hop := fun _ => by_fact d2)
        refine WpOps.nil (thenK_at (on' (Wp.skip (thenK_at (Wp.seq (Wp.block (Wp.seq (Wp.text ?_))))))))
        refine kp 38 (.pointer (some ⟨0, 0, none⟩)) ?_
        refine kp 39 (.int IntKind.i64 (↑i : Int)) ?_
        refine kp 40 (.int IntKind.i64 (IntKind.wrap .i64 (2 * (↑i : Int)))) ?_
        refine kp 41 (.int IntKind.i64 (IntKind.wrap .i64 (10 + IntKind.wrap .i64 (2 * (↑i : Int))))) ?_
        refine kp 42 (.int IntKind.u8 (IntKind.wrap .u8 (IntKind.wrap .i64 (10 + IntKind.wrap .i64 (2 * (↑i : Int)))))) ?_
        refine md 43 (.slice (some ⟨1, 0, none⟩) 3 3) (Blk.mk 5 true [Value.int .u8 (IntKind.wrap .u8 (IntKind.wrap .i64 (10 + IntKind.wrap .i64 (2 * (↑i : Int))))), Value.int .u8 200, Value.int .u8 201]) ?_
        refine kp 44 (.string (ByteArray.mk #[UInt8.ofNat (Int.toNat (IntKind.wrap .u8 (IntKind.wrap .i64 (10 + IntKind.wrap .i64 (2 * (↑i : Int)))))), UInt8.ofNat 200, UInt8.ofNat 201])) ?_
        refine cl 45 13 [Value.pointer (some ⟨0, 0, none⟩), Value.string (ByteArray.mk #[UInt8.ofNat (Int.toNat (IntKind.wrap .u8 (IntKind.wrap .i64 (10 + IntKind.wrap .i64 (2 * (↑i : Int)))))), UInt8.ofNat 200, UInt8.ofNat 201])] ?_
        rw [hu]
        refine WpCall.lentP [0] cs (by decide) ⟨⟨_, by kernel_rfl, ⟨rfl, rfl⟩⟩, trivial⟩ rfl (.int .i64 0) [some (mB 0 L ((0 : Nat) : Int) (i + 1 : Nat) (.slice (some ⟨2, 0, none⟩) (Xl L (i + 1)).length (Xl L (i + 1)).length)), some (rowB (Xl L (i + 1)))] (.cons rfl (.cons (congrArg some (unB_flat (tcs_flat _))) .nil)) rfl _ rfl ?_
        refine kp 46 (.bool false) ?_
        refine WpOps.nil (thenK_at (off' (Wp.skip (blockK_norm (thenK_at (Wp.text ?_))))))
        refine kp 36 (.int IntKind.i64 (↑i : Int)) ?_
        refine kp 37 (.int IntKind.i64 (IntKind.wrap .i64 ((↑i : Int) + 1))) ?_
        refine kp 8 (.int IntKind.i64 (IntKind.wrap .i64 ((↑i : Int) + 1))) ?_
        refine WpOps.nil (thenK_at ?_)
        refine ⟨i + 1, by omega, by omega, ?_⟩
        rw [memW_own (Xl_nil hlo)]
        exact View.of [0, 2] [mB 0 L ((0 : Nat) : Int) (i + 1 : Nat) (.slice (some ⟨1, 0, none⟩) (Xl L (i + 1)).length (Xl L (i + 1)).length), rowB (Xl L (i + 1))] _ (by decide) rfl ⟨⟨_, by kernel_rfl, ⟨rfl, rfl⟩⟩, ⟨_, by kernel_rfl, CellsOk.eq rfl (tcs_flat _)⟩, trivial⟩ ⟨⟨by kernel_rfl, rfl⟩, ⟨by kernel_rfl, rfl⟩, ⟨by kernel_rfl, rfl⟩, ⟨by kernel_rfl, rfl⟩, ⟨congrArg (Value.int .i64) wi, rfl⟩, trivial⟩
    · have hXl : (Xl L i).length < 400 := by
        unfold Xl
        rw [List.length_map]
        have := zk.len
        omega
      have hin : InT (Xl L i) := fun z hz => by have := zk.tim z hz; omega
      rw [memW_own hX]
      cases hlo : (fate L i).lo with
      | true =>
        have cs := lent13lo 0 L 0 i [] (Xl L i) (un i) (show 3 ≤ 4000 by decide) (by omega) hlo
        refine Wp.seq (Wp.seq (Wp.text ?_))
        refine kp 33 (.int IntKind.i64 (↑i : Int)) ?_
        refine kp 34 (.int IntKind.i64 (↑N : Int)) ?_
        refine kp 35 (.bool true) ?_ (hop := fun _ => by_fact d2)
        refine WpOps.nil (thenK_at (on' (Wp.skip (thenK_at (Wp.seq (Wp.block (Wp.seq (Wp.text ?_))))))))
        refine kp 38 (.pointer (some ⟨0, 0, none⟩)) ?_
        refine kp 39 (.int IntKind.i64 (↑i : Int)) ?_
        refine kp 40 (.int IntKind.i64 (IntKind.wrap .i64 (2 * (↑i : Int)))) ?_
        refine kp 41 (.int IntKind.i64 (IntKind.wrap .i64 (10 + IntKind.wrap .i64 (2 * (↑i : Int))))) ?_
        refine kp 42 (.int IntKind.u8 (IntKind.wrap .u8 (IntKind.wrap .i64 (10 + IntKind.wrap .i64 (2 * (↑i : Int)))))) ?_
        refine md 43 (.slice (some ⟨2, 0, none⟩) 3 3) (Blk.mk 5 true [Value.int .u8 (IntKind.wrap .u8 (IntKind.wrap .i64 (10 + IntKind.wrap .i64 (2 * (↑i : Int))))), Value.int .u8 200, Value.int .u8 201]) ?_
        refine kp 44 (.string (ByteArray.mk #[UInt8.ofNat (Int.toNat (IntKind.wrap .u8 (IntKind.wrap .i64 (10 + IntKind.wrap .i64 (2 * (↑i : Int)))))), UInt8.ofNat 200, UInt8.ofNat 201])) ?_
        refine cl 45 13 [Value.pointer (some ⟨0, 0, none⟩), Value.string (ByteArray.mk #[UInt8.ofNat (Int.toNat (IntKind.wrap .u8 (IntKind.wrap .i64 (10 + IntKind.wrap .i64 (2 * (↑i : Int)))))), UInt8.ofNat 200, UInt8.ofNat 201])] ?_
        rw [hu]
        refine WpCall.lentP [0, 1] cs (by decide) ⟨⟨_, by kernel_rfl, ⟨rfl, rfl⟩⟩, ⟨_, by kernel_rfl, CellsOk.eq rfl (tcs_flat _)⟩, trivial⟩ rfl (.int .i64 0) [some (mB 0 L ((0 : Nat) : Int) (i + 1 : Nat) (.slice (some ⟨1, 0, none⟩) (Xl L i).length (Xl L i).length)), some (rowB (Xl L i))] (.cons rfl (.cons (congrArg some (unB_flat (tcs_flat _))) .nil)) rfl _ rfl ?_
        refine kp 46 (.bool false) ?_
        refine WpOps.nil (thenK_at (off' (Wp.skip (blockK_norm (thenK_at (Wp.text ?_))))))
        refine kp 36 (.int IntKind.i64 (↑i : Int)) ?_
        refine kp 37 (.int IntKind.i64 (IntKind.wrap .i64 ((↑i : Int) + 1))) ?_
        refine kp 8 (.int IntKind.i64 (IntKind.wrap .i64 ((↑i : Int) + 1))) ?_
        refine WpOps.nil (thenK_at ?_)
        refine ⟨i + 1, by omega, by omega, ?_⟩
        rw [memW_own (by rw [Xl_lost hlo]; exact hX), Xl_lost hlo]
        exact View.of [0, 1] [mB 0 L ((0 : Nat) : Int) (i + 1 : Nat) (.slice (some ⟨1, 0, none⟩) (Xl L i).length (Xl L i).length), rowB (Xl L i)] _ (by decide) rfl ⟨⟨_, by kernel_rfl, ⟨rfl, rfl⟩⟩, ⟨_, by kernel_rfl, CellsOk.eq rfl (tcs_flat _)⟩, trivial⟩ ⟨⟨by kernel_rfl, rfl⟩, ⟨by kernel_rfl, rfl⟩, ⟨by kernel_rfl, rfl⟩, ⟨by kernel_rfl, rfl⟩, ⟨congrArg (Value.int .i64) wi, rfl⟩, trivial⟩
      | false =>
        have cs := lent13o 0 L 0 i [] (Xl L i) (un i) (show 3 ≤ 4000 by decide) (.inl rfl) hok (by omega) (by omega) hXl hin hlo
        have hY : nxt 0 L 0 i (Xl L i) (un i) = Xl L (i + 1) := (Xl_put hlo (by omega) zk.len o2).symm
        rw [hY] at cs
        refine Wp.seq (Wp.seq (Wp.text ?_))
        refine kp 33 (.int IntKind.i64 (↑i : Int)) ?_
        refine kp 34 (.int IntKind.i64 (↑N : Int)) ?_
        refine kp 35 (.bool true) ?_ (hop := fun _ => by_fact d2)
        refine WpOps.nil (thenK_at (on' (Wp.skip (thenK_at (Wp.seq (Wp.block (Wp.seq (Wp.text ?_))))))))
        refine kp 38 (.pointer (some ⟨0, 0, none⟩)) ?_
        refine kp 39 (.int IntKind.i64 (↑i : Int)) ?_
        refine kp 40 (.int IntKind.i64 (IntKind.wrap .i64 (2 * (↑i : Int)))) ?_
        refine kp 41 (.int IntKind.i64 (IntKind.wrap .i64 (10 + IntKind.wrap .i64 (2 * (↑i : Int))))) ?_
        refine kp 42 (.int IntKind.u8 (IntKind.wrap .u8 (IntKind.wrap .i64 (10 + IntKind.wrap .i64 (2 * (↑i : Int)))))) ?_
        refine md 43 (.slice (some ⟨2, 0, none⟩) 3 3) (Blk.mk 5 true [Value.int .u8 (IntKind.wrap .u8 (IntKind.wrap .i64 (10 + IntKind.wrap .i64 (2 * (↑i : Int))))), Value.int .u8 200, Value.int .u8 201]) ?_
        refine kp 44 (.string (ByteArray.mk #[UInt8.ofNat (Int.toNat (IntKind.wrap .u8 (IntKind.wrap .i64 (10 + IntKind.wrap .i64 (2 * (↑i : Int)))))), UInt8.ofNat 200, UInt8.ofNat 201])) ?_
        refine cl 45 13 [Value.pointer (some ⟨0, 0, none⟩), Value.string (ByteArray.mk #[UInt8.ofNat (Int.toNat (IntKind.wrap .u8 (IntKind.wrap .i64 (10 + IntKind.wrap .i64 (2 * (↑i : Int)))))), UInt8.ofNat 200, UInt8.ofNat 201])] ?_
        rw [hu]
        refine WpCall.lentP [0, 1] cs (by decide) ⟨⟨_, by kernel_rfl, ⟨rfl, rfl⟩⟩, ⟨_, by kernel_rfl, CellsOk.eq rfl (tcs_flat _)⟩, trivial⟩ rfl (.int .i64 0) [some (mB 0 L ((0 : Nat) : Int) (i + 1 : Nat) (.slice (some ⟨3, 0, none⟩) (Xl L (i + 1)).length (Xl L (i + 1)).length)), none, some (rowB (Xl L (i + 1)))] (.cons rfl (.cons rfl (.cons (congrArg some (unB_flat (tcs_flat _))) .nil))) rfl _ rfl ?_
        refine kp 46 (.bool false) ?_
        refine WpOps.nil (thenK_at (off' (Wp.skip (blockK_norm (thenK_at (Wp.text ?_))))))
        refine kp 36 (.int IntKind.i64 (↑i : Int)) ?_
        refine kp 37 (.int IntKind.i64 (IntKind.wrap .i64 ((↑i : Int) + 1))) ?_
        refine kp 8 (.int IntKind.i64 (IntKind.wrap .i64 ((↑i : Int) + 1))) ?_
        refine WpOps.nil (thenK_at ?_)
        refine ⟨i + 1, by omega, by omega, ?_⟩
        rw [memW_own (Xl_nil hlo)]
        exact View.of [0, 3] [mB 0 L ((0 : Nat) : Int) (i + 1 : Nat) (.slice (some ⟨1, 0, none⟩) (Xl L (i + 1)).length (Xl L (i + 1)).length), rowB (Xl L (i + 1))] _ (by decide) rfl ⟨⟨_, by kernel_rfl, ⟨rfl, rfl⟩⟩, ⟨_, by kernel_rfl, CellsOk.eq rfl (tcs_flat _)⟩, trivial⟩ ⟨⟨by kernel_rfl, rfl⟩, ⟨by kernel_rfl, rfl⟩, ⟨by kernel_rfl, rfl⟩, ⟨by kernel_rfl, rfl⟩, ⟨congrArg (Value.int .i64) wi, rfl⟩, trivial⟩
  · have d2 : decide ((i : Int) < (N : Int)) = false := decide_eq_false (by omega)
    obtain rfl : i = N := by omega
    have zk := hzok i (Nat.le_refl _)
    have c8 := sane8
    by_cases hX : Xl L i = []
    · rw [memW_nil hX]
      refine Wp.seq (Wp.seq (Wp.text ?_))
      refine kp 33 (.int IntKind.i64 (↑i : Int)) ?_
      refine kp 34 (.int IntKind.i64 (↑i : Int)) ?_
      refine kp 35 (.bool false) ?_ (hop := fun _ => by_fact d2)
      refine WpOps.nil (thenK_at (off' (Wp.exit (thenK_exit (thenK_exit (blockK_hit (thenK_at (Wp.seq (Wp.text ?_)))))))))
      refine kp 47 (.iface 3 (Value.iface (List.length l) (Value.iface x (Value.agg (List.toArray (List.map (fun n => Value.int .i64 n) l)))))) ?_
      refine fr 48 16 [Value.iface 3 (Value.iface (List.length l) (Value.iface x (Value.agg (List.toArray (List.map (fun n => Value.int .i64 n) l)))))] ?_
      refine WpFun.of (c4) ?_
      refine kp 9 (.iface 36 (Value.iface (List.length L) (Value.iface y2 (Value.agg (List.toArray (fts L)))))) ?_
      refine WpOps.nil (thenK_at (Wp.seq (Wp.text ?_)))
      refine kp 10 (.int IntKind.i64 (-1)) ?_
      refine WpOps.nil (thenK_at (Wp.seq (Wp.text ?_)))
      refine kp 11 (.int IntKind.i64 0) ?_
      refine WpOps.nil (thenK_at (Wp.seq (Wp.seq (Wp.text ?_))))
      refine kp 12 (.int IntKind.i64 0) ?_
      refine WpOps.nil (thenK_at (Wp.block ?_))
      refine Wp.loop (G := Nat) (fun T => layj [(4, .bool false), (5, .int .i64 i), (6, .pointer (some ⟨0, 0, none⟩)), (9, FS 36 L.length y2 (fts L).toArray), (10, .int .i64 (-1)), (11, .int .i64 0), (12, .int .i64 T)]) (fun T => heapOf [mB 0 L T i (.slice none 0 0)]) (fun T => 40 - T) (fun T => T ≤ 40) 0
        (View.of [0] [mB 0 L ((0 : Nat) : Int) i (.slice none 0 0)] _ (by decide) rfl ⟨⟨_, by kernel_rfl, CellsOk.eq rfl rfl⟩, trivial⟩ ⟨⟨by kernel_rfl, rfl⟩, ⟨by kernel_rfl, rfl⟩, ⟨by kernel_rfl, rfl⟩, ⟨by kernel_rfl, rfl⟩, ⟨by kernel_rfl, rfl⟩, ⟨by kernel_rfl, rfl⟩, ⟨by kernel_rfl, rfl⟩, trivial⟩) (Nat.zero_le _) ?_
      intro T hT
      by_cases hc : T < 40
      · have d3 : decide ((T : Int) < 40) = true := decide_eq_true (by omega)
        have wT : IntKind.i64.wrap ((T : Int) + 1) = ((T + 1 : Nat) : Int) := by rw [wr _ (by omega) (by omega)]; omega
        have ct := tick14e 0 L T i (by omega)
        unfold mB at ct ⊢
        refine Wp.seq (Wp.seq (Wp.text ?_))
        refine kp 49 (.int IntKind.i64 (↑T : Int)) ?_
        refine kp 50 (.bool true) ?_ (hop := fun _ => by_fact d3)
        refine WpOps.nil (thenK_at (on' (Wp.skip (thenK_at (Wp.seq (Wp.block (Wp.seq (Wp.text ?_))))))))
        refine kp 53 (.pointer (some ⟨0, 0, none⟩)) ?_
        refine cl 54 14 [Value.pointer (some ⟨0, 0, none⟩)] ?_
        refine WpCall.lent [0] (ct) (by decide) ⟨⟨[Value.int IntKind.i64 0, Value.iface 46 (Value.iface (List.length L) (Value.iface 0 (Value.agg (List.toArray (fts L))))), Value.int IntKind.i64 (↑T : Int), Value.int IntKind.i64 (↑i : Int), Value.slice none 0 0], (by kernel_rfl), (by kernel_rfl), (by kernel_rfl)⟩, trivial⟩ (by kernel_rfl) (Value.slice none 0 0) ([Blk.mk 66 true [Value.int IntKind.i64 0, Value.iface 46 (Value.iface (List.length L) (Value.iface 0 (Value.agg (List.toArray (fts L))))), Value.int IntKind.i64 (↑(T + 1) : Int), Value.int IntKind.i64 (↑i : Int), Value.slice none 0 0]]) (.cons (by kernel_rfl) .nil) (by kernel_rfl) (Heap.set (heapOf [Blk.mk 66 true [Value.int IntKind.i64 0, FS 46 (List.length L) 0 (List.toArray (fts L)), Value.int IntKind.i64 (↑T : Int), Value.int IntKind.i64 (↑i : Int), Value.slice none 0 0]]) 0 (some (Blk.mk 66 true [Value.int IntKind.i64 0, Value.iface 46 (Value.iface (List.length L) (Value.iface 0 (Value.agg (List.toArray (fts L))))), Value.int IntKind.i64 (↑(T + 1) : Int), Value.int IntKind.i64 (↑i : Int), Value.slice none 0 0]))) (by kernel_rfl) ?_
        refine kp 13 (.slice none 0 0) ?_
        refine WpOps.nil (thenK_at (Wp.seq (Wp.text ?_)))
        refine kp 14 (.int IntKind.i64 0) ?_
        refine WpOps.nil (thenK_at (Wp.block ?_))
        refine Wp.unroll (WpL.step ?_)
        refine Wp.seq (Wp.seq (Wp.text ?_))
        refine kp 55 (.int IntKind.i64 0) ?_
        refine kp 56 (.slice none 0 0) ?_
        refine kp 57 (.int IntKind.i64 (↑0 : Int)) ?_
        refine kp 58 (.bool false) ?_
        refine WpOps.nil (thenK_at (off' (Wp.exit (thenK_exit (thenK_exit (blockK_hit (blockK_norm (thenK_at (Wp.text ?_)))))))))
        refine kp 51 (.int IntKind.i64 (↑T : Int)) ?_
        refine kp 52 (.int IntKind.i64 (IntKind.wrap .i64 ((↑T : Int) + 1))) ?_
        refine kp 12 (.int IntKind.i64 (IntKind.wrap .i64 ((↑T : Int) + 1))) ?_
        refine WpOps.nil (thenK_at ?_)
        exact ⟨T + 1, by omega, by omega, View.of [0] [mB 0 L (T + 1 : Nat) i (.slice none 0 0)] _ (by decide) rfl ⟨⟨_, by kernel_rfl, CellsOk.eq rfl rfl⟩, trivial⟩ ⟨⟨by kernel_rfl, rfl⟩, ⟨by kernel_rfl, rfl⟩, ⟨by kernel_rfl, rfl⟩, ⟨by kernel_rfl, rfl⟩, ⟨by kernel_rfl, rfl⟩, ⟨by kernel_rfl, rfl⟩, ⟨congrArg (Value.int .i64) wT, rfl⟩, trivial⟩⟩
      · have d3 : decide ((T : Int) < 40) = false := decide_eq_false (by omega)
        have cw := waiting18e 0 L T i
        unfold mB at cw ⊢
        refine Wp.seq (Wp.seq (Wp.text ?_))
        refine kp 49 (.int IntKind.i64 (↑T : Int)) ?_
        refine kp 50 (.bool false) ?_ (hop := fun _ => by_fact d3)
        refine WpOps.nil (thenK_at (off' (Wp.exit (thenK_exit (thenK_exit (blockK_hit (thenK_at (Wp.seq (Wp.text ?_)))))))))
        refine kp 131 (.pointer (some ⟨0, 0, none⟩)) ?_
        refine cl 132 18 [Value.pointer (some ⟨0, 0, none⟩)] ?_
        refine WpCall.lent [0] (cw) (by decide) ⟨⟨[Value.int IntKind.i64 0, Value.iface 46 (Value.iface (List.length L) (Value.iface 0 (Value.agg (List.toArray (fts L))))), Value.int IntKind.i64 (↑T : Int), Value.int IntKind.i64 (↑i : Int), Value.slice none 0 0], (by kernel_rfl), (by kernel_rfl), (by kernel_rfl)⟩, trivial⟩ (by kernel_rfl) (Value.int IntKind.i64 0) ([Blk.mk 66 true [Value.int IntKind.i64 0, Value.iface 46 (Value.iface (List.length L) (Value.iface 0 (Value.agg (List.toArray (fts L))))), Value.int IntKind.i64 (↑T : Int), Value.int IntKind.i64 (↑i : Int), Value.slice none 0 0]]) (.cons (by kernel_rfl) .nil) (by kernel_rfl) (Heap.set (heapOf [Blk.mk 66 true [Value.int IntKind.i64 0, FS 46 (List.length L) 0 (List.toArray (fts L)), Value.int IntKind.i64 (↑T : Int), Value.int IntKind.i64 (↑i : Int), Value.slice none 0 0]]) 0 (some (Blk.mk 66 true [Value.int IntKind.i64 0, Value.iface 46 (Value.iface (List.length L) (Value.iface 0 (Value.agg (List.toArray (fts L))))), Value.int IntKind.i64 (↑T : Int), Value.int IntKind.i64 (↑i : Int), Value.slice none 0 0]))) (by kernel_rfl) ?_
        refine kp 18 (.int IntKind.i64 0) ?_
        refine WpOps.nil (thenK_at (Wp.seq (Wp.text ?_)))
        refine kp 133 (.int IntKind.i64 0) ?_
        refine kp 134 (.bool true) ?_
        refine kp 135 (.bool true) ?_
        refine fr 136 8 [] ?_
        refine WpFun.of (c8) ?_
        refine kp 137 (.bool true) ?_
        refine kp 4 (.bool true) ?_
        refine WpOps.nil (thenK_at (Wp.ret ?_))
        refine endK_retn [Value.bool true] (Value.bool true) (by kernel_rfl) (by kernel_rfl) ?_
        rfl
    · rw [memW_own hX]
      refine Wp.seq (Wp.seq (Wp.text ?_))
      refine kp 33 (.int IntKind.i64 (↑i : Int)) ?_
      refine kp 34 (.int IntKind.i64 (↑i : Int)) ?_
      refine kp 35 (.bool false) ?_ (hop := fun _ => by_fact d2)
      refine WpOps.nil (thenK_at (off' (Wp.exit (thenK_exit (thenK_exit (blockK_hit (thenK_at (Wp.seq (Wp.text ?_)))))))))
      refine kp 47 (.iface 3 (Value.iface (List.length l) (Value.iface x (Value.agg (List.toArray (List.map (fun n => Value.int .i64 n) l)))))) ?_
      refine fr 48 16 [Value.iface 3 (Value.iface (List.length l) (Value.iface x (Value.agg (List.toArray (List.map (fun n => Value.int .i64 n) l)))))] ?_
      refine WpFun.of (c4) ?_
      refine kp 9 (.iface 36 (Value.iface (List.length L) (Value.iface y2 (Value.agg (List.toArray (fts L)))))) ?_
      refine WpOps.nil (thenK_at (Wp.seq (Wp.text ?_)))
      refine kp 10 (.int IntKind.i64 (-1)) ?_
      refine WpOps.nil (thenK_at (Wp.seq (Wp.text ?_)))
      refine kp 11 (.int IntKind.i64 0) ?_
      refine WpOps.nil (thenK_at (Wp.seq (Wp.seq (Wp.text ?_))))
      refine kp 12 (.int IntKind.i64 0) ?_
      refine WpOps.nil (thenK_at (Wp.block ?_))
      refine Wp.loop (G := Nat × List Tr × List Lb × Int × Nat) (fun g => layj [(4, .bool false), (5, .int .i64 i), (6, .pointer (some ⟨0, 0, none⟩)), (9, FS 36 L.length y2 (fts L).toArray), (10, .int .i64 g.2.2.2.1), (11, .int .i64 g.2.2.2.2), (12, .int .i64 g.1)]) (fun g => heapOf [mB 0 L (g.1 : Nat) i (.slice (some ⟨1, g.2.1.length * 2, none⟩) (g.2.2.1.map (trL L)).length (g.2.2.1.map (trL L)).length), rowB (g.2.1 ++ g.2.2.1.map (trL L))]) (fun g => 40 - g.1)
        (fun g => g.1 ≤ 40 ∧ (g.2.2.2.2 ≤ 5 ∧ ∃ s, run i L (g.2.2.2.1, g.2.2.2.2) g.2.2.1 = some s) ∧ Srt (g.2.2.1.map (trL L)) ∧ (∀ z ∈ g.2.2.1.map (trL L), 1 ≤ z.1 ∧ z.1 ≤ 21) ∧ g.2.2.1.length ≤ 240 ∧ (∀ z ∈ (g.2.2.1.map (trL L)).head?, ¬ z.1 ≤ (g.1 : Int))) (0, [], Zl L i, -1, 0)
        (View.of [0, 1] [mB 0 L ((0 : Nat) : Int) i (.slice (some ⟨1, 0, none⟩) (Xl L i).length (Xl L i).length), rowB (Xl L i)] _ (by decide) rfl ⟨⟨_, by kernel_rfl, ⟨rfl, rfl⟩⟩, ⟨_, by kernel_rfl, CellsOk.eq rfl (tcs_flat _)⟩, trivial⟩ ⟨⟨by kernel_rfl, rfl⟩, ⟨by kernel_rfl, rfl⟩, ⟨by kernel_rfl, rfl⟩, ⟨by kernel_rfl, rfl⟩, ⟨by kernel_rfl, rfl⟩, ⟨by kernel_rfl, rfl⟩, ⟨by kernel_rfl, rfl⟩, trivial⟩) ⟨Nat.zero_le _, (by obtain ⟨s, h, _⟩ := zk.run'; exact ⟨Nat.zero_le _, s, h⟩), zk.srt, zk.tim, (by have := zk.len; dsimp only; omega), (fun z hz => by have := zk.tim z (List.mem_of_mem_head? hz); dsimp only; omega)⟩ ?_
      clear zk hX
      rintro ⟨T, p, Z, la, ti⟩ ⟨hT, ⟨hti0, s, hs⟩, hsr, htm, hln, hhd⟩
      dsimp only at hT hti0 hs hsr htm hln hhd ⊢
      by_cases hc : T < 40
      · have d3 : decide ((T : Int) < 40) = true := decide_eq_true (by omega)
        have wT : IntKind.i64.wrap ((T : Int) + 1) = ((T + 1 : Nat) : Int) := by rw [wr _ (by omega) (by omega)]; omega
        have ct := tick14 0 L T i p (Z.map (trL L)) (by omega) (by rw [List.length_map]; omega) (fun z hz => by have := htm z hz; omega)
        have hA : due (T + 1 : Nat) (ssort (Z.map (trL L))) = (Z.takeWhile fun z => decide (z.2.2 ≤ ((T + 1 : Nat) : Int))).map (trL L) := by rw [ssort_id hsr]; exact List.takeWhile_map
        have hB : rest (T + 1 : Nat) (ssort (Z.map (trL L))) = (Z.dropWhile fun z => decide (z.2.2 ≤ ((T + 1 : Nat) : Int))).map (trL L) := by rw [ssort_id hsr]; exact List.dropWhile_map
        have hhd2 := rest_head hB
        rw [hA, hB] at ct
        have hZ : Z = (Z.takeWhile fun z => decide (z.2.2 ≤ ((T + 1 : Nat) : Int))) ++ (Z.dropWhile fun z => decide (z.2.2 ≤ ((T + 1 : Nat) : Int))) := List.takeWhile_append_dropWhile.symm
        rw [ssort_id hsr] at ct
        clear hA hB
        generalize (Z.takeWhile fun z => decide (z.2.2 ≤ ((T + 1 : Nat) : Int))) = A at *
        generalize (Z.dropWhile fun z => decide (z.2.2 ≤ ((T + 1 : Nat) : Int))) = B at *
        subst hZ
        have hfl : (rowB (p ++ (A ++ B).map (trL L))).cells.all flat = true := tcs_flat _
        unfold mB at ct ⊢
        have hnB : Srt (B.map (trL L)) := by rw [List.map_append] at hsr; exact (srt_app.1 hsr).2.1
        have htB : ∀ z ∈ B.map (trL L), 1 ≤ z.1 ∧ z.1 ≤ 21 := fun z hz => htm z (by rw [List.map_append]; exact List.mem_append_right _ hz)
        have hlA : A.length ≤ 240 := by rw [List.length_append] at hln; omega
        have hlB : B.length ≤ 240 := by rw [List.length_append] at hln; omega
        by_cases hA0 : A = []
        · subst hA0
          rw [show outU (([] : List Lb).map (trL L)) = .slice none 0 0 from rfl] at ct
          refine Wp.seq (Wp.seq (Wp.text ?_))
          refine kp 49 (.int IntKind.i64 (↑T : Int)) ?_
          refine kp 50 (.bool true) ?_ (hop := fun _ => by_fact d3)
          refine WpOps.nil (thenK_at (on' (Wp.skip (thenK_at (Wp.seq (Wp.block (Wp.seq (Wp.text ?_))))))))
          refine kp 53 (.pointer (some ⟨0, 0, none⟩)) ?_
          refine cl 54 14 [Value.pointer (some ⟨0, 0, none⟩)] ?_
          refine WpCall.lent [0, 1] (ct) (by decide) ⟨⟨[Value.int IntKind.i64 0, Value.iface 46 (Value.iface (List.length L) (Value.iface 0 (Value.agg (List.toArray (fts L))))), Value.int IntKind.i64 (↑T : Int), Value.int IntKind.i64 (↑i : Int), Value.slice (some (Addr.mk 1 (List.length p * 2) none)) (List.length (List.map (trL L) ([] ++ B))) (List.length (List.map (trL L) ([] ++ B)))], (by kernel_rfl), (by kernel_rfl), (by kernel_rfl)⟩, ⟨⟨_, (by kernel_rfl), CellsOk.eq rfl (by assumption)⟩, trivial⟩⟩ (by kernel_rfl) (Value.slice none 0 0) ([Blk.mk 66 true [Value.int IntKind.i64 0, Value.iface 46 (Value.iface (List.length L) (Value.iface 0 (Value.agg (List.toArray (fts L))))), Value.int IntKind.i64 (↑(T + 1) : Int), Value.int IntKind.i64 (↑i : Int), Value.slice (some (Addr.mk (List.getD [0, 1] 1 0) (List.length (p ++ List.map (trL L) []) * 2) none)) (List.length (List.map (trL L) B)) (List.length (List.map (trL L) B))], Blk.mk 73 true (tcs (p ++ List.map (trL L) ([] ++ B)))]) (.cons (by kernel_rfl) (.cons (unB_flat (by assumption)) .nil)) (by kernel_rfl) (Heap.set (Heap.set (heapOf [Blk.mk 66 true [Value.int IntKind.i64 0, FS 46 (List.length L) 0 (List.toArray (fts L)), Value.int IntKind.i64 (↑T : Int), Value.int IntKind.i64 (↑i : Int), Value.slice (some (Addr.mk 1 (List.length p * 2) none)) (List.length (List.map (trL L) ([] ++ B))) (List.length (List.map (trL L) ([] ++ B)))], rowB (p ++ List.map (trL L) ([] ++ B))]) 0 (some (Blk.mk 66 true [Value.int IntKind.i64 0, Value.iface 46 (Value.iface (List.length L) (Value.iface 0 (Value.agg (List.toArray (fts L))))), Value.int IntKind.i64 (↑(T + 1) : Int), Value.int IntKind.i64 (↑i : Int), Value.slice (some (Addr.mk 1 (List.length (p ++ List.map (trL L) []) * 2) none)) (List.length (List.map (trL L) B)) (List.length (List.map (trL L) B))]))) 1 (some (Blk.mk 73 true (tcs (p ++ List.map (trL L) ([] ++ B)))))) (by kernel_rfl) ?_
          refine kp 13 (.slice none 0 0) ?_
          refine WpOps.nil (thenK_at (Wp.seq (Wp.text ?_)))
          refine kp 14 (.int IntKind.i64 0) ?_
          refine WpOps.nil (thenK_at (Wp.block ?_))
          refine Wp.unroll (WpL.step ?_)
          refine Wp.seq (Wp.seq (Wp.text ?_))
          refine kp 55 (.int IntKind.i64 0) ?_
          refine kp 56 (.slice none 0 0) ?_
          refine kp 57 (.int IntKind.i64 (↑0 : Int)) ?_
          refine kp 58 (.bool false) ?_
          refine WpOps.nil (thenK_at (off' (Wp.exit (thenK_exit (thenK_exit (blockK_hit (blockK_norm (thenK_at (Wp.text ?_)))))))))
          refine kp 51 (.int IntKind.i64 (↑T : Int)) ?_
          refine kp 52 (.int IntKind.i64 (IntKind.wrap .i64 ((↑T : Int) + 1))) ?_
          refine kp 12 (.int IntKind.i64 (IntKind.wrap .i64 ((↑T : Int) + 1))) ?_
          refine WpOps.nil (thenK_at ?_)
          exact ⟨(T + 1, p ++ ([] : List Lb).map (trL L), B, la, ti), by dsimp only; omega, ⟨by dsimp only; omega, ⟨hti0, s, hs⟩, hnB, htB, hlB, hhd2⟩, View.of [0, 1] [mB 0 L (T + 1 : Nat) i (.slice (some ⟨1, (p ++ ([] : List Lb).map (trL L)).length * 2, none⟩) (B.map (trL L)).length (B.map (trL L)).length), rowB (p ++ ([] : List Lb).map (trL L) ++ B.map (trL L))] _ (by decide) rfl ⟨⟨_, by kernel_rfl, ⟨rfl, rfl⟩⟩, ⟨tcs (p ++ ([] ++ B).map (trL L)), by kernel_rfl, CellsOk.eq (by simp [rowB]) (tcs_flat _)⟩, trivial⟩ ⟨⟨by kernel_rfl, rfl⟩, ⟨by kernel_rfl, rfl⟩, ⟨by kernel_rfl, rfl⟩, ⟨by kernel_rfl, rfl⟩, ⟨by kernel_rfl, rfl⟩, ⟨by kernel_rfl, rfl⟩, ⟨congrArg (Value.int .i64) wT, rfl⟩, trivial⟩⟩
        · rw [show outU (A.map (trL L)) = FS 9 (A.map (trL L)).length 0 (uns (A.map (trL L))).toArray from if_neg (by simpa using hA0), show (A.map (trL L)).length = A.length from List.length_map ..] at ct
          refine Wp.seq (Wp.seq (Wp.text ?_))
          refine kp 49 (.int IntKind.i64 (↑T : Int)) ?_
          refine kp 50 (.bool true) ?_ (hop := fun _ => by_fact d3)
          refine WpOps.nil (thenK_at (on' (Wp.skip (thenK_at (Wp.seq (Wp.block (Wp.seq (Wp.text ?_))))))))
          refine kp 53 (.pointer (some ⟨0, 0, none⟩)) ?_
          refine cl 54 14 [Value.pointer (some ⟨0, 0, none⟩)] ?_
          refine WpCall.lent [0, 1] (ct) (by decide) ⟨⟨[Value.int IntKind.i64 0, Value.iface 46 (Value.iface (List.length L) (Value.iface 0 (Value.agg (List.toArray (fts L))))), Value.int IntKind.i64 (↑T : Int), Value.int IntKind.i64 (↑i : Int), Value.slice (some (Addr.mk 1 (List.length p * 2) none)) (List.length (List.map (trL L) (A ++ B))) (List.length (List.map (trL L) (A ++ B)))], (by kernel_rfl), (by kernel_rfl), (by kernel_rfl)⟩, ⟨⟨_, (by kernel_rfl), CellsOk.eq rfl (by assumption)⟩, trivial⟩⟩ (by kernel_rfl) (Value.iface 9 (Value.iface (List.length A) (Value.iface 0 (Value.agg (List.toArray (uns (List.map (trL L) A))))))) ([Blk.mk 66 true [Value.int IntKind.i64 0, Value.iface 46 (Value.iface (List.length L) (Value.iface 0 (Value.agg (List.toArray (fts L))))), Value.int IntKind.i64 (↑(T + 1) : Int), Value.int IntKind.i64 (↑i : Int), Value.slice (some (Addr.mk (List.getD [0, 1] 1 0) (List.length (p ++ List.map (trL L) A) * 2) none)) (List.length (List.map (trL L) B)) (List.length (List.map (trL L) B))], Blk.mk 73 true (tcs (p ++ List.map (trL L) (A ++ B)))]) (.cons (by kernel_rfl) (.cons (unB_flat (by assumption)) .nil)) (by kernel_rfl) (Heap.set (Heap.set (heapOf [Blk.mk 66 true [Value.int IntKind.i64 0, FS 46 (List.length L) 0 (List.toArray (fts L)), Value.int IntKind.i64 (↑T : Int), Value.int IntKind.i64 (↑i : Int), Value.slice (some (Addr.mk 1 (List.length p * 2) none)) (List.length (List.map (trL L) (A ++ B))) (List.length (List.map (trL L) (A ++ B)))], rowB (p ++ List.map (trL L) (A ++ B))]) 0 (some (Blk.mk 66 true [Value.int IntKind.i64 0, Value.iface 46 (Value.iface (List.length L) (Value.iface 0 (Value.agg (List.toArray (fts L))))), Value.int IntKind.i64 (↑(T + 1) : Int), Value.int IntKind.i64 (↑i : Int), Value.slice (some (Addr.mk 1 (List.length (p ++ List.map (trL L) A) * 2) none)) (List.length (List.map (trL L) B)) (List.length (List.map (trL L) B))]))) 1 (some (Blk.mk 73 true (tcs (p ++ List.map (trL L) (A ++ B)))))) (by kernel_rfl) ?_
          refine kp 13 (.iface 9 (Value.iface (List.length A) (Value.iface 0 (Value.agg (List.toArray (uns (List.map (trL L) A))))))) ?_
          refine WpOps.nil (thenK_at (Wp.seq (Wp.text ?_)))
          refine kp 14 (.int IntKind.i64 0) ?_
          refine WpOps.nil (thenK_at (Wp.block ?_))
          refine Wp.loop (G := Nat × Int × Nat) (fun g => layj [(4, .bool false), (5, .int .i64 i), (6, .pointer (some ⟨0, 0, none⟩)), (9, FS 36 L.length y2 (fts L).toArray), (10, .int .i64 g.2.1), (11, .int .i64 g.2.2), (12, .int .i64 T), (13, FS 9 A.length 0 (uns (A.map (trL L))).toArray), (14, .int .i64 g.1)]) (fun _ => heapOf [mB 0 L (T + 1 : Nat) i (.slice (some ⟨1, (p ++ A.map (trL L)).length * 2, none⟩) (B.map (trL L)).length (B.map (trL L)).length), rowB (p ++ (A ++ B).map (trL L))]) (fun g => A.length - g.1) (fun g => g.1 ≤ A.length ∧ g.2.2 ≤ 5 ∧ ∃ s, run i L (g.2.1, g.2.2) (A.drop g.1 ++ B) = some s) (0, la, ti)
            (View.of [0, 1] [mB 0 L (T + 1 : Nat) i (.slice (some ⟨1, (p ++ A.map (trL L)).length * 2, none⟩) (B.map (trL L)).length (B.map (trL L)).length), rowB (p ++ (A ++ B).map (trL L))] _ (by decide) rfl ⟨⟨_, by kernel_rfl, ⟨rfl, rfl⟩⟩, ⟨_, by kernel_rfl, CellsOk.eq rfl (tcs_flat _)⟩, trivial⟩ ⟨⟨by kernel_rfl, rfl⟩, ⟨by kernel_rfl, rfl⟩, ⟨by kernel_rfl, rfl⟩, ⟨by kernel_rfl, rfl⟩, ⟨by kernel_rfl, rfl⟩, ⟨by kernel_rfl, rfl⟩, ⟨by kernel_rfl, rfl⟩, ⟨by kernel_rfl, rfl⟩, ⟨by kernel_rfl, rfl⟩, trivial⟩) ⟨Nat.zero_le _, hti0, ⟨s, hs⟩⟩ ?_
          clear hs
          rintro ⟨j, la, ti⟩ ⟨hj, hti, ⟨s, hs⟩⟩
          dsimp only at hj hti hs ⊢
          by_cases hjl : j < A.length
          · have d4 : decide ((j : Int) < (A.length : Int)) = true := decide_eq_true (by omega)
            rw [List.drop_eq_getElem_cons hjl, List.cons_append] at hs
            have hg : (uns (A.map (trL L))).toArray.toList[(j : Int).toNat * 1]? = some (.string (unit' (fate L A[j].1) (un A[j].1))) := by
              rw [Int.toNat_natCast, Nat.mul_one, List.toList_toArray, uns, List.map_map, List.getElem?_map, List.getElem?_eq_getElem hjl]
              rfl
            generalize A[j] = z at hs hg
            obtain ⟨k, r, a⟩ := z
            obtain ⟨hk1, hk2, hk3, hk4, hs⟩ := run_cons hs
            dsimp only at hk1 hk2 hk3 hk4 hg
            have g1 : 0 ≤ (j : Int) ∧ (j : Int) < (A.length : Int) := by omega
            obtain ⟨v, hv⟩ : ∃ v, unit' (fate L k) (un k) = v := ⟨_, rfl⟩
            rw [hv] at hg
            obtain ⟨v1, e, v2, v3⟩ := unit_first hv (by omega)
            have g2 : ((v.size : Int) != 3) = false := by rw [v1]; rfl
            have g3 : (0 : Int) ≤ 0 ∧ (0 : Int) < (v.size : Int) := by rw [v1]; decide
            have g4 : v[(0 : Int).toNat]? = some (byteAt v 0) := byte_get v 0 (by omega)
            refine Wp.seq (Wp.seq (Wp.text ?_))
            refine kp 55 (.int IntKind.i64 (↑j : Int)) ?_
            refine kp 56 (.iface 9 (Value.iface (List.length A) (Value.iface 0 (Value.agg (List.toArray (uns (List.map (trL L) A))))))) ?_
            refine kp 57 (.int IntKind.i64 (↑(List.length A) : Int)) ?_
            refine kp 58 (.bool true) ?_ (hop := fun _ => by_fact d4)
            refine WpOps.nil (thenK_at (on' (Wp.skip (thenK_at (Wp.seq (Wp.block (Wp.seq (Wp.seq (Wp.text ?_)))))))))
            refine kp 61 (.iface 9 (Value.iface (List.length A) (Value.iface 0 (Value.agg (List.toArray (uns (List.map (trL L) A))))))) ?_
            refine kp 62 (.int IntKind.i64 (↑j : Int)) ?_
            refine kp 63 (.iface 9 (Value.iface (Int.toNat (↑j : Int) * 1) (Value.agg (List.toArray (uns (List.map (trL L) A)))))) ?_ (hop := fun _ => o_indexI (e := 9) (size := 1) (a := (↑j : Int)) g1)
            refine kp 64 (.string v) ?_ (hop := fun _ => o_loadI1 (Int.toNat (↑j : Int) * 1) hg)
            refine kp 65 (.int IntKind.i64 (↑(ByteArray.size v) : Int)) ?_
            refine kp 66 (.bool false) ?_ (hop := fun _ => by_fact g2)
            refine WpOps.nil (thenK_at (off' (Wp.skip (thenK_at (Wp.seq (Wp.text ?_))))))
            refine kp 67 (.iface 9 (Value.iface (List.length A) (Value.iface 0 (Value.agg (List.toArray (uns (List.map (trL L) A))))))) ?_
            refine kp 68 (.int IntKind.i64 (↑j : Int)) ?_
            refine kp 69 (.iface 9 (Value.iface (Int.toNat (↑j : Int) * 1) (Value.agg (List.toArray (uns (List.map (trL L) A)))))) ?_ (hop := fun _ => o_indexI (e := 9) (size := 1) (a := (↑j : Int)) g1)
            refine kp 70 (.string v) ?_ (hop := fun _ => o_loadI1 (Int.toNat (↑j : Int) * 1) hg)
            refine kp 71 (.int IntKind.u8 (↑(UInt8.toNat (byteAt v 0)) : Int)) ?_ (hop := fun _ => o_indexStr (of_decide_eq_true (by kernel_rfl)) g4)
            refine kp 72 (.int IntKind.i64 (IntKind.wrap .i64 (↑(UInt8.toNat (byteAt v 0)) : Int))) ?_
            refine kp 73 (.int IntKind.i64 (IntKind.wrap .i64 (IntKind.wrap .i64 (↑(UInt8.toNat (byteAt v 0)) : Int) - 10))) ?_
            refine kp 74 (.int IntKind.i64 (IntKind.wrap .i64 (Int.tdiv (IntKind.wrap .i64 (IntKind.wrap .i64 (↑(UInt8.toNat (byteAt v 0)) : Int) - 10)) 2))) ?_
            refine kp 15 (.int IntKind.i64 (IntKind.wrap .i64 (Int.tdiv (IntKind.wrap .i64 (IntKind.wrap .i64 (↑(UInt8.toNat (byteAt v 0)) : Int) - 10)) 2))) ?_
            refine WpOps.nil (thenK_at (Wp.seq (Wp.seq (Wp.text ?_))))
            refine kp 75 (.int IntKind.i64 (IntKind.wrap .i64 (Int.tdiv (IntKind.wrap .i64 (IntKind.wrap .i64 (↑(UInt8.toNat (byteAt v 0)) : Int) - 10)) 2))) ?_
            refine kp 76 (.int IntKind.i64 la) ?_
            refine kp 77 (.bool (decide (IntKind.wrap .i64 (Int.tdiv (IntKind.wrap .i64 (IntKind.wrap .i64 (↑(UInt8.toNat (byteAt v 0)) : Int) - 10)) 2) < la))) ?_
            refine kp 78 (.bool (decide (IntKind.wrap .i64 (Int.tdiv (IntKind.wrap .i64 (IntKind.wrap .i64 (↑(UInt8.toNat (byteAt v 0)) : Int) - 10)) 2) < la))) ?_
            refine WpOps.fork 4 (decide (IntKind.wrap IntKind.i64 (Int.tdiv (IntKind.wrap IntKind.i64 (IntKind.wrap IntKind.i64 (↑(UInt8.toNat (byteAt v 0)) : Int) - 10)) 2) < la)) [79, 80, 81, 82] 82 (true) (decide (IntKind.wrap IntKind.i64 (Int.tdiv (IntKind.wrap IntKind.i64 (IntKind.wrap IntKind.i64 (↑(UInt8.toNat (byteAt v 0)) : Int) - 10)) 2) ≥ (↑i : Int))) (by kernel_rfl) (fun g82 => ?_) (fun g82 => ?_) (fun f_82 b82 hb82 => ?_)
            · refine um 79 ?_ (hw := wants_tf g82)
              refine um 80 ?_ (hw := wants_tf g82)
              refine um 81 ?_ (hw := wants_tf g82)
              refine kp 82 (.bool true) ?_ (hop := fun _ => o_pickT g82)
              refine WpOps.nil ?_
              exact ⟨rfl, (.upd rfl (.upd rfl (.upd rfl (.upd rfl .refl)))), (by kernel_rfl)⟩
            · refine kp 79 (.int IntKind.i64 (IntKind.wrap .i64 (Int.tdiv (IntKind.wrap .i64 (IntKind.wrap .i64 (↑(UInt8.toNat (byteAt v 0)) : Int) - 10)) 2))) ?_ (hw := wants_ff g82)
              refine kp 80 (.int IntKind.i64 (↑i : Int)) ?_ (hw := wants_ff g82)
              refine kp 81 (.bool (decide (IntKind.wrap .i64 (Int.tdiv (IntKind.wrap .i64 (IntKind.wrap .i64 (↑(UInt8.toNat (byteAt v 0)) : Int) - 10)) 2) ≥ (↑i : Int)))) ?_ (hw := wants_ff g82)
              refine kp 82 (.bool (decide (IntKind.wrap .i64 (Int.tdiv (IntKind.wrap .i64 (IntKind.wrap .i64 (↑(UInt8.toNat (byteAt v 0)) : Int) - 10)) 2) ≥ (↑i : Int)))) ?_ (hop := fun _ => o_pickF g82)
              refine WpOps.nil ?_
              exact ⟨rfl, (.upd rfl (.upd rfl (.upd rfl (.upd rfl .refl)))), (by kernel_rfl)⟩
            refine WpOps.nil (thenK_at ?_)
            have wk : IntKind.i64.wrap ((IntKind.i64.wrap (IntKind.i64.wrap ((byteAt v 0).toNat : Int) - 10)).tdiv 2) = (k : Int) := by
              rw [v2, wr (((10 + 2 * k + e : Nat)) : Int) (by omega) (by omega), wr ((((10 + 2 * k + e : Nat)) : Int) - 10) (by omega) (by omega), Int.tdiv_eq_ediv_of_nonneg (by omega), wr _ (by omega) (by omega)]
              omega
            have hla : la ≤ k := by rcases hk1 with h | h <;> omega
            rw [wk] at hb82 ⊢
            obtain rfl : b82 = false := by rw [hb82, decide_eq_false (show ¬ ((k : Int) < la) by omega), decide_eq_false (show ¬ ((k : Int) ≥ (i : Int)) by omega)]; rfl
            refine off' (Wp.skip (thenK_at (Wp.seq (Wp.seq (Wp.text ?_)))))
            refine kp 83 (.int IntKind.i64 (↑k : Int)) ?_
            refine kp 84 (.int IntKind.i64 la) ?_
            refine kp 85 (.bool (decide ((↑k : Int) > la))) ?_
            refine WpOps.nil (thenK_at ?_)
            refine Wp.merge [(4, .bool false), (5, .int .i64 i), (6, .pointer (some ⟨0, 0, none⟩)), (9, FS 36 L.length y2 (fts L).toArray), (10, .int .i64 la), (11, .int .i64 r), (12, .int .i64 T), (13, FS 9 A.length 0 (uns (A.map (trL L))).toArray), (14, .int .i64 j), (15, .int .i64 k)] [mB 0 L (T + 1 : Nat) i (.slice (some ⟨1, (p ++ A.map (trL L)).length * 2, none⟩) (B.map (trL L)).length (B.map (trL L)).length), rowB (p ++ (A ++ B).map (trL L))] ?_ ?_
            · by_cases hkl : la < k
              · have d5 : decide ((k : Int) > la) = true := decide_eq_true hkl
                obtain rfl : r = 0 := by rcases hk1 with h | h <;> omega
                refine on' ?_ (hc := ev_fact d5)
                refine Wp.text ?_
                refine kp 11 (.int IntKind.i64 0) ?_
                refine WpOps.nil ?_
                exact ⟨rfl, View.of [0, 1] [mB 0 L (T + 1 : Nat) i (.slice (some ⟨1, (p ++ A.map (trL L)).length * 2, none⟩) (B.map (trL L)).length (B.map (trL L)).length), rowB (p ++ (A ++ B).map (trL L))] _ (by decide) rfl ⟨⟨_, by kernel_rfl, ⟨rfl, rfl⟩⟩, ⟨_, by kernel_rfl, CellsOk.eq rfl (tcs_flat _)⟩, trivial⟩ ⟨⟨by kernel_rfl, rfl⟩, ⟨by kernel_rfl, rfl⟩, ⟨by kernel_rfl, rfl⟩, ⟨by kernel_rfl, rfl⟩, ⟨by kernel_rfl, rfl⟩, ⟨by kernel_rfl, rfl⟩, ⟨by kernel_rfl, rfl⟩, ⟨by kernel_rfl, rfl⟩, ⟨by kernel_rfl, rfl⟩, ⟨by kernel_rfl, rfl⟩, trivial⟩⟩
              · have d5 : decide ((k : Int) > la) = false := decide_eq_false hkl
                obtain rfl : r = ti := by rcases hk1 with h | h <;> omega
                refine off' ?_ (hc := ev_fact d5)
                refine Wp.skip ?_
                exact ⟨rfl, View.of [0, 1] [mB 0 L (T + 1 : Nat) i (.slice (some ⟨1, (p ++ A.map (trL L)).length * 2, none⟩) (B.map (trL L)).length (B.map (trL L)).length), rowB (p ++ (A ++ B).map (trL L))] _ (by decide) rfl ⟨⟨_, by kernel_rfl, ⟨rfl, rfl⟩⟩, ⟨_, by kernel_rfl, CellsOk.eq rfl (tcs_flat _)⟩, trivial⟩ ⟨⟨by kernel_rfl, rfl⟩, ⟨by kernel_rfl, rfl⟩, ⟨by kernel_rfl, rfl⟩, ⟨by kernel_rfl, rfl⟩, ⟨by kernel_rfl, rfl⟩, ⟨by kernel_rfl, rfl⟩, ⟨by kernel_rfl, rfl⟩, ⟨by kernel_rfl, rfl⟩, ⟨by kernel_rfl, rfl⟩, ⟨by kernel_rfl, rfl⟩, trivial⟩⟩
            obtain ⟨o1, o2, o3, o4, o5⟩ := fate_ok hok k
            have wr1 : IntKind.i64.wrap ((r : Int) + 1) = ((r + 1 : Nat) : Int) := by rw [wr _ (by omega) (by omega)]; omega
            refine Wp.seq (Wp.text ?_)
            refine kp 86 (.int IntKind.i64 (↑r : Int)) ?_
            refine kp 87 (.int IntKind.i64 (IntKind.wrap .i64 ((↑r : Int) + 1))) ?_
            refine kp 11 (.int IntKind.i64 (IntKind.wrap .i64 ((↑r : Int) + 1))) ?_
            refine WpOps.nil (thenK_at (Wp.seq (Wp.text ?_)))
            refine kp 88 (.int IntKind.i64 (↑k : Int)) ?_
            refine kp 10 (.int IntKind.i64 (↑k : Int)) ?_
            refine WpOps.nil (thenK_at (Wp.seq (Wp.text ?_)))
            refine kp 89 (.agg #[Value.bool false, Value.int .i64 0, Value.int .i64 0, Value.int .i64 (-1)]) ?_
            refine md 16 (.pointer (some ⟨2, 0, none⟩)) (Blk.mk 36 true [Value.bool false, Value.int .i64 0, Value.int .i64 0, Value.int .i64 0]) ?_
            refine ld (.tuple #[]) (2) (Blk.mk 36 true [Value.bool false, Value.int .i64 0, Value.int .i64 0, Value.int .i64 (-1)]) ?_
            refine WpOps.nil (thenK_at (Wp.seq (Wp.seq (Wp.text ?_))))
            refine kp 90 (.int IntKind.i64 (↑k : Int)) ?_
            refine kp 91 (.iface 36 (Value.iface (List.length L) (Value.iface y2 (Value.agg (List.toArray (fts L)))))) ?_
            refine kp 92 (.int IntKind.i64 (↑(List.length L) : Int)) ?_
            refine kp 93 (.bool (decide ((↑k : Int) < (↑(List.length L) : Int)))) ?_
            refine WpOps.nil (thenK_at ?_)
            rw [wr1]
            refine Wp.merge [(4, .bool false), (5, .int .i64 i), (6, .pointer (some ⟨0, 0, none⟩)), (9, FS 36 L.length y2 (fts L).toArray), (10, .int .i64 k), (11, .int .i64 (r + 1 : Nat)), (12, .int .i64 T), (13, FS 9 A.length 0 (uns (A.map (trL L))).toArray), (14, .int .i64 j), (15, .int .i64 k), (16, .pointer (some ⟨2, 0, none⟩))] [mB 0 L (T + 1 : Nat) i (.slice (some ⟨1, (p ++ A.map (trL L)).length * 2, none⟩) (B.map (trL L)).length (B.map (trL L)).length), rowB (p ++ (A ++ B).map (trL L)), ⟨36, true, [.bool (fate L k).lo, .int .i64 (fate L k).co, .int .i64 (fate L k).de, .int .i64 (fate L k).sp]⟩] ?_ ?_
            · refine Wp.split (decide ((↑k : Int) < (↑(List.length L) : Int))) (by kernel_rfl) (fun hq => ?_) (fun hq => ?_)
              · have hkL : k < L.length := by
                  have := of_decide_eq_true hq
                  omega
                have q1 : 0 ≤ (k : Int) ∧ (k : Int) < L.length := by omega
                have hs3 : cellsAt (fts L).toArray.toList ((k : Int).toNat * 4) 4 = some (fce L[k]) := fts_cells L k hkL
                have hf : fate L k = L[k] := by unfold fate; rw [List.getD_eq_getElem?_getD, List.getElem?_eq_getElem hkL]; rfl
                unfold fce at hs3
                rw [← hf] at hs3
                refine Wp.text ?_
                refine kp 94 (.iface 36 (Value.iface (List.length L) (Value.iface y2 (Value.agg (List.toArray (fts L)))))) ?_
                refine kp 95 (.int IntKind.i64 (↑k : Int)) ?_
                refine kp 96 (.iface 36 (Value.iface (Int.toNat (↑k : Int) * 4) (Value.agg (List.toArray (fts L))))) ?_ (hop := fun _ => o_indexI (e := 36) (size := 4) (a := (↑k : Int)) q1)
                refine kp 97 (.agg #[Value.bool (Ft.lo (fate L k)), Value.int .i64 (Ft.co (fate L k)), Value.int .i64 (Ft.de (fate L k)), Value.int .i64 (Ft.sp (fate L k))]) ?_ (hop := fun _ => o_loadIA (Int.toNat (↑k : Int) * 4) hs3)
                refine ld (.tuple #[]) (2) (Blk.mk 36 true [Value.bool (Ft.lo (fate L k)), Value.int .i64 (Ft.co (fate L k)), Value.int .i64 (Ft.de (fate L k)), Value.int .i64 (Ft.sp (fate L k))]) ?_
                refine WpOps.nil ?_
                exact ⟨rfl, View.of [0, 1, 2] [mB 0 L (T + 1 : Nat) i (.slice (some ⟨1, (p ++ A.map (trL L)).length * 2, none⟩) (B.map (trL L)).length (B.map (trL L)).length), rowB (p ++ (A ++ B).map (trL L)), ⟨36, true, [.bool (fate L k).lo, .int .i64 (fate L k).co, .int .i64 (fate L k).de, .int .i64 (fate L k).sp]⟩] _ (by decide) rfl ⟨⟨_, by kernel_rfl, ⟨rfl, rfl⟩⟩, ⟨_, by kernel_rfl, CellsOk.eq rfl (tcs_flat _)⟩, ⟨_, by kernel_rfl, CellsOk.eq rfl rfl⟩, trivial⟩ ⟨⟨by kernel_rfl, rfl⟩, ⟨by kernel_rfl, rfl⟩, ⟨by kernel_rfl, rfl⟩, ⟨by kernel_rfl, rfl⟩, ⟨by kernel_rfl, rfl⟩, ⟨by kernel_rfl, rfl⟩, ⟨by kernel_rfl, rfl⟩, ⟨by kernel_rfl, rfl⟩, ⟨by kernel_rfl, rfl⟩, ⟨by kernel_rfl, rfl⟩, ⟨by kernel_rfl, rfl⟩, trivial⟩⟩
              · have hkL : L.length ≤ k := by
                  have := of_decide_eq_false hq
                  omega
                have hf : fate L k = ⟨false, 0, 0, -1⟩ := by unfold fate; rw [List.getD_eq_getElem?_getD, List.getElem?_eq_none hkL]; rfl
                refine Wp.skip ?_
                rw [hf]
                exact ⟨rfl, View.of [0, 1, 2] [mB 0 L (T + 1 : Nat) i (.slice (some ⟨1, (p ++ A.map (trL L)).length * 2, none⟩) (B.map (trL L)).length (B.map (trL L)).length), rowB (p ++ (A ++ B).map (trL L)), ⟨36, true, [.bool false, .int .i64 0, .int .i64 0, .int .i64 (-1)]⟩] _ (by decide) rfl ⟨⟨_, by kernel_rfl, ⟨rfl, rfl⟩⟩, ⟨_, by kernel_rfl, CellsOk.eq rfl (tcs_flat _)⟩, ⟨_, by kernel_rfl, CellsOk.eq rfl rfl⟩, trivial⟩ ⟨⟨by kernel_rfl, rfl⟩, ⟨by kernel_rfl, rfl⟩, ⟨by kernel_rfl, rfl⟩, ⟨by kernel_rfl, rfl⟩, ⟨by kernel_rfl, rfl⟩, ⟨by kernel_rfl, rfl⟩, ⟨by kernel_rfl, rfl⟩, ⟨by kernel_rfl, rfl⟩, ⟨by kernel_rfl, rfl⟩, ⟨by kernel_rfl, rfl⟩, ⟨by kernel_rfl, rfl⟩, trivial⟩⟩
            have hu : (⟨#[UInt8.ofNat (IntKind.u8.wrap (IntKind.i64.wrap (10 + IntKind.i64.wrap (2 * (k : Int))))).toNat, UInt8.ofNat 200, UInt8.ofNat 201]⟩ : ByteArray) = un k := by
              rw [wr (2 * (k : Int)) (by omega) (by omega), wr (10 + 2 * (k : Int)) (by omega) (by omega), show IntKind.u8.wrap (10 + 2 * (k : Int)) = ((10 + 2 * k : Nat) : Int) by show (10 + 2 * (k : Int)) % 256 = _; omega, Int.toNat_natCast]
              rfl
            refine Wp.seq (Wp.text ?_)
            refine kp 98 (.int IntKind.i64 (↑k : Int)) ?_
            refine kp 99 (.int IntKind.i64 (IntKind.wrap .i64 (2 * (↑k : Int)))) ?_
            refine kp 100 (.int IntKind.i64 (IntKind.wrap .i64 (10 + IntKind.wrap .i64 (2 * (↑k : Int))))) ?_
            refine kp 101 (.int IntKind.u8 (IntKind.wrap .u8 (IntKind.wrap .i64 (10 + IntKind.wrap .i64 (2 * (↑k : Int)))))) ?_
            refine md 102 (.slice (some ⟨3, 0, none⟩) 3 3) (Blk.mk 5 true [Value.int .u8 (IntKind.wrap .u8 (IntKind.wrap .i64 (10 + IntKind.wrap .i64 (2 * (↑k : Int))))), Value.int .u8 200, Value.int .u8 201]) ?_
            refine kp 103 (.string (ByteArray.mk #[UInt8.ofNat (Int.toNat (IntKind.wrap .u8 (IntKind.wrap .i64 (10 + IntKind.wrap .i64 (2 * (↑k : Int)))))), UInt8.ofNat 200, UInt8.ofNat 201])) ?_
            refine kp 17 (.string (ByteArray.mk #[UInt8.ofNat (Int.toNat (IntKind.wrap .u8 (IntKind.wrap .i64 (10 + IntKind.wrap .i64 (2 * (↑k : Int)))))), UInt8.ofNat 200, UInt8.ofNat 201])) ?_
            refine WpOps.nil (thenK_at (Wp.seq (Wp.seq (Wp.text ?_))))
            refine kp 104 (.pointer (some ⟨2, 3, none⟩)) ?_
            refine kp 105 (.int IntKind.i64 (Ft.sp (fate L k))) ?_
            refine kp 106 (.bool (Ft.sp (fate L k) != -1)) ?_
            refine WpOps.nil (thenK_at ?_)
            rw [hu]
            refine Wp.merge [(4, .bool false), (5, .int .i64 i), (6, .pointer (some ⟨0, 0, none⟩)), (9, FS 36 L.length y2 (fts L).toArray), (10, .int .i64 k), (11, .int .i64 (r + 1 : Nat)), (12, .int .i64 T), (13, FS 9 A.length 0 (uns (A.map (trL L))).toArray), (14, .int .i64 j), (15, .int .i64 k), (16, .pointer (some ⟨2, 0, none⟩)), (17, .string v)] [mB 0 L (T + 1 : Nat) i (.slice (some ⟨1, (p ++ A.map (trL L)).length * 2, none⟩) (B.map (trL L)).length (B.map (trL L)).length), rowB (p ++ (A ++ B).map (trL L)), ⟨36, true, [.bool (fate L k).lo, .int .i64 (fate L k).co, .int .i64 (fate L k).de, .int .i64 (fate L k).sp]⟩] ?_ ?_
            · by_cases hsp : (fate L k).sp = -1
              · have d6 : ((fate L k).sp != -1) = false := by rw [hsp]; rfl
                have hvu : v = un k := by rw [← hv]; exact if_neg (by omega)
                rw [hvu]
                refine off' ?_ (hc := ev_fact d6)
                refine Wp.skip ?_
                exact ⟨rfl, View.of [0, 1, 2] [mB 0 L (T + 1 : Nat) i (.slice (some ⟨1, (p ++ A.map (trL L)).length * 2, none⟩) (B.map (trL L)).length (B.map (trL L)).length), rowB (p ++ (A ++ B).map (trL L)), ⟨36, true, [.bool (fate L k).lo, .int .i64 (fate L k).co, .int .i64 (fate L k).de, .int .i64 (fate L k).sp]⟩] _ (by decide) rfl ⟨⟨_, by kernel_rfl, ⟨rfl, rfl⟩⟩, ⟨_, by kernel_rfl, CellsOk.eq rfl (tcs_flat _)⟩, ⟨_, by kernel_rfl, CellsOk.eq rfl rfl⟩, trivial⟩ ⟨⟨by kernel_rfl, rfl⟩, ⟨by kernel_rfl, rfl⟩, ⟨by kernel_rfl, rfl⟩, ⟨by kernel_rfl, rfl⟩, ⟨by kernel_rfl, rfl⟩, ⟨by kernel_rfl, rfl⟩, ⟨by kernel_rfl, rfl⟩, ⟨by kernel_rfl, rfl⟩, ⟨by kernel_rfl, rfl⟩, ⟨by kernel_rfl, rfl⟩, ⟨by kernel_rfl, rfl⟩, ⟨by kernel_rfl, rfl⟩, trivial⟩⟩
              · have d6 : ((fate L k).sp != -1) = true := bne_iff_ne.2 hsp
                have hvu : v = spu (un k) (fate L k).sp := by rw [← hv]; exact if_pos (by omega)
                have cp := spoil17 (un k) (fate L k).sp (show 3 ≤ 5000 by decide)
                rw [← hvu] at cp
                refine on' ?_ (hc := ev_fact d6)
                refine Wp.text ?_
                refine kp 108 (.string (un k)) ?_
                refine kp 109 (.pointer (some ⟨2, 3, none⟩)) ?_
                refine kp 110 (.int IntKind.i64 (Ft.sp (fate L k))) ?_
                refine fr 111 17 [Value.string (un k), Value.int .i64 (Ft.sp (fate L k))] ?_
                refine WpFun.of (cp) ?_
                refine kp 107 (.tuple #[Value.string v, Value.int .i64 0]) ?_
                refine kp 112 (.string v) ?_
                refine kp 113 (.int IntKind.i64 0) ?_
                refine kp 17 (.string v) ?_
                refine WpOps.nil ?_
                exact ⟨rfl, View.of [0, 1, 2] [mB 0 L (T + 1 : Nat) i (.slice (some ⟨1, (p ++ A.map (trL L)).length * 2, none⟩) (B.map (trL L)).length (B.map (trL L)).length), rowB (p ++ (A ++ B).map (trL L)), ⟨36, true, [.bool (fate L k).lo, .int .i64 (fate L k).co, .int .i64 (fate L k).de, .int .i64 (fate L k).sp]⟩] _ (by decide) rfl ⟨⟨_, by kernel_rfl, ⟨rfl, rfl⟩⟩, ⟨_, by kernel_rfl, CellsOk.eq rfl (tcs_flat _)⟩, ⟨_, by kernel_rfl, CellsOk.eq rfl rfl⟩, trivial⟩ ⟨⟨by kernel_rfl, rfl⟩, ⟨by kernel_rfl, rfl⟩, ⟨by kernel_rfl, rfl⟩, ⟨by kernel_rfl, rfl⟩, ⟨by kernel_rfl, rfl⟩, ⟨by kernel_rfl, rfl⟩, ⟨by kernel_rfl, rfl⟩, ⟨by kernel_rfl, rfl⟩, ⟨by kernel_rfl, rfl⟩, ⟨by kernel_rfl, rfl⟩, ⟨by kernel_rfl, rfl⟩, ⟨by kernel_rfl, rfl⟩, trivial⟩⟩
            have wc : IntKind.i64.wrap ((fate L k).co + 1) = (fate L k).co + 1 := wr _ (by omega) (by omega)
            have d7 : decide (((r + 1 : Nat) : Int) > (fate L k).co + 1) = false := decide_eq_false (by omega)
            rw [hk3]
            refine Wp.seq (Wp.text ?_)
            refine kp 114 (.pointer (some ⟨2, 0, none⟩)) ?_
            refine kp 115 (.bool false) ?_
            refine kp 116 (.bool false) ?_
            refine kp 117 (.int IntKind.i64 (↑(r + 1) : Int)) ?_
            refine kp 118 (.pointer (some ⟨2, 1, none⟩)) ?_
            refine kp 119 (.int IntKind.i64 (Ft.co (fate L k))) ?_
            refine kp 120 (.int IntKind.i64 (IntKind.wrap .i64 (Ft.co (fate L k) + 1))) ?_
            refine kp 121 (.bool (decide ((↑(r + 1) : Int) > IntKind.wrap .i64 (Ft.co (fate L k) + 1)))) ?_
            refine kp 122 (.bool (decide ((↑(r + 1) : Int) > IntKind.wrap .i64 (Ft.co (fate L k) + 1)))) ?_
            refine kp 123 (.bool (decide ((↑(r + 1) : Int) > IntKind.wrap .i64 (Ft.co (fate L k) + 1)))) ?_
            refine WpOps.fork 7 (decide ((↑(r + 1) : Int) > IntKind.wrap IntKind.i64 (Ft.co (fate L k) + 1))) [124, 125, 126, 127, 128, 129, 130] 130 (true) (!ByteArray.toList v == ByteArray.toList v) (by kernel_rfl) (fun g130 => ?_) (fun g130 => ?_) (fun f_130 b130 hb130 => ?_)
            · refine um 124 ?_ (hw := wants_tf g130)
              refine um 125 ?_ (hw := wants_tf g130)
              refine um 126 ?_ (hw := wants_tf g130)
              refine um 127 ?_ (hw := wants_tf g130)
              refine um 128 ?_ (hw := wants_tf g130)
              refine um 129 ?_ (hw := wants_tf g130)
              refine kp 130 (.bool true) ?_ (hop := fun _ => o_pickT g130)
              refine WpOps.nil ?_
              exact ⟨rfl, (.upd rfl (.upd rfl (.upd rfl (.upd rfl (.upd rfl (.upd rfl (.upd rfl .refl))))))), (by kernel_rfl)⟩
            · refine kp 124 (.iface 9 (Value.iface (List.length A) (Value.iface 0 (Value.agg (List.toArray (uns (List.map (trL L) A))))))) ?_ (hw := wants_ff g130)
              refine kp 125 (.int IntKind.i64 (↑j : Int)) ?_ (hw := wants_ff g130)
              refine kp 126 (.iface 9 (Value.iface (Int.toNat (↑j : Int) * 1) (Value.agg (List.toArray (uns (List.map (trL L) A)))))) ?_ (hw := wants_ff g130) (hop := fun _ => o_indexI (e := 9) (size := 1) (a := (↑j : Int)) g1)
              refine kp 127 (.string v) ?_ (hw := wants_ff g130) (hop := fun _ => o_loadI1 (Int.toNat (↑j : Int) * 1) hg)
              refine kp 128 (.string v) ?_ (hw := wants_ff g130)
              refine kp 129 (.bool !ByteArray.toList v == ByteArray.toList v) ?_ (hw := wants_ff g130)
              refine kp 130 (.bool !ByteArray.toList v == ByteArray.toList v) ?_ (hop := fun _ => o_pickF g130)
              refine WpOps.nil ?_
              exact ⟨rfl, (.upd rfl (.upd rfl (.upd rfl (.upd rfl (.upd rfl (.upd rfl (.upd rfl .refl))))))), (by kernel_rfl)⟩
            refine WpOps.nil (thenK_at ?_)
            obtain rfl : b130 = false := by
              rw [hb130, wc, d7, show (v.toList == v.toList) = true from beq_self_eq_true _]
              rfl
            have wj : IntKind.i64.wrap ((j : Int) + 1) = ((j + 1 : Nat) : Int) := by rw [wr _ (by omega) (by omega)]; omega
            refine off' (Wp.skip (blockK_norm (thenK_at (Wp.text ?_))))
            refine kp 59 (.int IntKind.i64 (↑j : Int)) ?_
            refine kp 60 (.int IntKind.i64 (IntKind.wrap .i64 ((↑j : Int) + 1))) ?_
            refine kp 14 (.int IntKind.i64 (IntKind.wrap .i64 ((↑j : Int) + 1))) ?_
            refine WpOps.nil (thenK_at ?_)
            exact ⟨(j + 1, k, r + 1), by dsimp only; omega, ⟨by dsimp only; omega, by dsimp only; omega, s, hs⟩, View.of [0, 1] [mB 0 L (T + 1 : Nat) i (.slice (some ⟨1, (p ++ A.map (trL L)).length * 2, none⟩) (B.map (trL L)).length (B.map (trL L)).length), rowB (p ++ (A ++ B).map (trL L))] _ (by decide) rfl ⟨⟨_, by kernel_rfl, ⟨rfl, rfl⟩⟩, ⟨_, by kernel_rfl, CellsOk.eq rfl (tcs_flat _)⟩, trivial⟩ ⟨⟨by kernel_rfl, rfl⟩, ⟨by kernel_rfl, rfl⟩, ⟨by kernel_rfl, rfl⟩, ⟨by kernel_rfl, rfl⟩, ⟨by kernel_rfl, rfl⟩, ⟨by kernel_rfl, rfl⟩, ⟨by kernel_rfl, rfl⟩, ⟨by kernel_rfl, rfl⟩, ⟨congrArg (Value.int .i64) wj, rfl⟩, trivial⟩⟩
          · have d4 : decide ((j : Int) < (A.length : Int)) = false := decide_eq_false (by omega)
            obtain rfl : j = A.length := by omega
            rw [List.drop_length, List.nil_append] at hs
            refine Wp.seq (Wp.seq (Wp.text ?_))
            refine kp 55 (.int IntKind.i64 (↑(List.length A) : Int)) ?_
            refine kp 56 (.iface 9 (Value.iface (List.length A) (Value.iface 0 (Value.agg (List.toArray (uns (List.map (trL L) A))))))) ?_
            refine kp 57 (.int IntKind.i64 (↑(List.length A) : Int)) ?_
            refine kp 58 (.bool false) ?_ (hop := fun _ => by_fact d4)
            refine WpOps.nil (thenK_at (off' (Wp.exit (thenK_exit (thenK_exit (blockK_hit (blockK_norm (thenK_at (Wp.text ?_)))))))))
            refine kp 51 (.int IntKind.i64 (↑T : Int)) ?_
            refine kp 52 (.int IntKind.i64 (IntKind.wrap .i64 ((↑T : Int) + 1))) ?_
            refine kp 12 (.int IntKind.i64 (IntKind.wrap .i64 ((↑T : Int) + 1))) ?_
            refine WpOps.nil (thenK_at ?_)
            exact ⟨(T + 1, p ++ A.map (trL L), B, la, ti), by dsimp only; omega, ⟨by dsimp only; omega, ⟨hti, s, hs⟩, hnB, htB, hlB, hhd2⟩, View.of [0, 1] [mB 0 L (T + 1 : Nat) i (.slice (some ⟨1, (p ++ A.map (trL L)).length * 2, none⟩) (B.map (trL L)).length (B.map (trL L)).length), rowB (p ++ A.map (trL L) ++ B.map (trL L))] _ (by decide) rfl ⟨⟨_, by kernel_rfl, ⟨rfl, rfl⟩⟩, ⟨tcs (p ++ (A ++ B).map (trL L)), by kernel_rfl, CellsOk.eq (by simp [rowB]) (tcs_flat _)⟩, trivial⟩ ⟨⟨by kernel_rfl, rfl⟩, ⟨by kernel_rfl, rfl⟩, ⟨by kernel_rfl, rfl⟩, ⟨by kernel_rfl, rfl⟩, ⟨by kernel_rfl, rfl⟩, ⟨by kernel_rfl, rfl⟩, ⟨congrArg (Value.int .i64) wT, rfl⟩, trivial⟩⟩
      · have d3 : decide ((T : Int) < 40) = false := decide_eq_false (by omega)
        obtain rfl : T = 40 := by omega
        have hZ : Z = [] := by
          cases Z with
          | nil => rfl
          | cons z r =>
            have h1 := hhd (trL L z) rfl
            have h2 := htm (trL L z) (List.mem_cons_self ..)
            omega
        subst hZ
        have hfl : (rowB (p ++ ([] : List Lb).map (trL L))).cells.all flat = true := tcs_flat _
        have cw := waiting18o 0 L (40 : Nat) i (p.length * 2) 0 0 (p ++ ([] : List Lb).map (trL L))
        unfold mB at cw ⊢
        refine Wp.seq (Wp.seq (Wp.text ?_))
        refine kp 49 (.int IntKind.i64 (↑40 : Int)) ?_
        refine kp 50 (.bool false) ?_
        refine WpOps.nil (thenK_at (off' (Wp.exit (thenK_exit (thenK_exit (blockK_hit (thenK_at (Wp.seq (Wp.text ?_)))))))))
        refine kp 131 (.pointer (some ⟨0, 0, none⟩)) ?_
        refine cl 132 18 [Value.pointer (some ⟨0, 0, none⟩)] ?_
        refine WpCall.lent [0, 1] (cw) (by decide) ⟨⟨[Value.int IntKind.i64 0, Value.iface 46 (Value.iface (List.length L) (Value.iface 0 (Value.agg (List.toArray (fts L))))), Value.int IntKind.i64 (↑40 : Int), Value.int IntKind.i64 (↑i : Int), Value.slice (some (Addr.mk 1 (List.length p * 2) none)) (List.length (List.map (trL L) [])) (List.length (List.map (trL L) []))], (by kernel_rfl), (by kernel_rfl), (by kernel_rfl)⟩, ⟨⟨_, (by kernel_rfl), CellsOk.eq rfl (by assumption)⟩, trivial⟩⟩ (by kernel_rfl) (Value.int IntKind.i64 (↑0 : Int)) ([Blk.mk 66 true [Value.int IntKind.i64 0, Value.iface 46 (Value.iface (List.length L) (Value.iface 0 (Value.agg (List.toArray (fts L))))), Value.int IntKind.i64 (↑40 : Int), Value.int IntKind.i64 (↑i : Int), Value.slice (some (Addr.mk (List.getD [0, 1] 1 0) (List.length p * 2) none)) 0 0], Blk.mk 73 true (tcs (p ++ List.map (trL L) []))]) (.cons (by kernel_rfl) (.cons (unB_flat (by assumption)) .nil)) (by kernel_rfl) (Heap.set (Heap.set (heapOf [Blk.mk 66 true [Value.int IntKind.i64 0, FS 46 (List.length L) 0 (List.toArray (fts L)), Value.int IntKind.i64 (↑40 : Int), Value.int IntKind.i64 (↑i : Int), Value.slice (some (Addr.mk 1 (List.length p * 2) none)) (List.length (List.map (trL L) [])) (List.length (List.map (trL L) []))], rowB (p ++ List.map (trL L) [])]) 0 (some (Blk.mk 66 true [Value.int IntKind.i64 0, Value.iface 46 (Value.iface (List.length L) (Value.iface 0 (Value.agg (List.toArray (fts L))))), Value.int IntKind.i64 (↑40 : Int), Value.int IntKind.i64 (↑i : Int), Value.slice (some (Addr.mk 1 (List.length p * 2) none)) 0 0]))) 1 (some (Blk.mk 73 true (tcs (p ++ List.map (trL L) []))))) (by kernel_rfl) ?_
        refine kp 18 (.int IntKind.i64 (↑0 : Int)) ?_
        refine WpOps.nil (thenK_at (Wp.seq (Wp.text ?_)))
        refine kp 133 (.int IntKind.i64 (↑0 : Int)) ?_
        refine kp 134 (.bool true) ?_
        refine kp 135 (.bool true) ?_
        refine fr 136 8 [] ?_
        refine WpFun.of (c8) ?_
        refine kp 137 (.bool true) ?_
        refine kp 4 (.bool true) ?_
        refine WpOps.nil (thenK_at (Wp.ret ?_))
        refine endK_retn [Value.bool true] (Value.bool true) (by kernel_rfl) (by kernel_rfl) ?_
        rfl
theorem law4 (x : Nat) (l : List Int) (u : Int) (hl : ∀ n ∈ l, I64 n) (hz : l.length ≤ 17592186044416) : Fun E 4 [sl x l, .int .i64 u] (.bool true) := by
  by_cases hb : l.length ≤ 300
  · exact law4a x l u hl hb
  refine Fun.of h4 rfl (of_decide_eq_true (by kernel_rfl)) rfl ?_
  have c0 := sane8
  have d0 : decide ((l.length : Int) > 300) = true := decide_eq_true (by omega)
  unfold sl
  refine Wp.seq (Wp.text ?_)
  refine kp 4 (.bool false) ?_
  refine WpOps.nil (thenK_at (Wp.seq (Wp.seq (Wp.text ?_))))
  refine kp 19 (.iface 3 (Value.iface (List.length l) (Value.iface x (Value.agg (List.toArray (List.map (fun n => Value.int .i64 n) l)))))) ?_
  refine kp 20 (.int IntKind.i64 (↑(List.length l) : Int)) ?_
  refine kp 21 (.bool true) ?_ (hop := fun _ => by_fact d0)
  refine WpOps.nil (thenK_at (on' (Wp.seq (Wp.text ?_))))
  refine fr 22 8 [] ?_
  refine WpFun.of (c0) ?_
  refine kp 4 (.bool true) ?_
  refine WpOps.nil (thenK_at (Wp.ret (thenK_ret ?_)))
  refine endK_retn [Value.bool true] (Value.bool true) (by kernel_rfl) (by kernel_rfl) ?_
  rfl
end Go.Proofs.Ytdkmdpklojeepaa.D
