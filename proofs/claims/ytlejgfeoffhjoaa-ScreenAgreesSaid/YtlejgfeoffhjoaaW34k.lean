/- The law ScreenAgrees: the walk. -/
import Derived.Test.YtlejgfeoffhjoaaFwLem
import Derived.Test.YtlejgfeoffhjoaaFwHole
import Derived.Test.YtlejgfeoffhjoaaFwHoleM
import Derived.Test.YtlejgfeoffhjoaaW34j
import Derived.Test.YtlejgfeoffhjoaaN34p
namespace Go.Proofs.Ytlejgfeoffhjoaa.D
open Go.Fw Go.RowKit

theorem acs_flat : ∀ l, (acs l).all flat = true
  | [] => rfl
  | a :: l => by
    have ih := acs_flat l
    unfold acs at ih ⊢
    rw [List.flatMap_cons, List.all_append, ih]
    rfl
/-- A call that leaves the world as it is, wherever it is found. -/
theorem WpCall.stayG {w : Wd} {g : Heap} {f : FuncId} {args : List Value} {v : Value} {K : Value → Heap → Prop} (c : SCall E f args (heapO (memW w)) v (heapO (memW w))) (ha : args.all (okV 4) = true) (hu : args = args.map (unV [0, 1, 2, 3])) (res : okT 4 v = true) (hv : unT [0, 1, 2, 3] v = v) (c0 : g.get 0 = some (wB w.t (wyV w.y))) (c1 : g.get 1 = some (sdB w.a w.b (w0 w) (w1 w))) (c2 : g.get 2 = wyB w.y) (c3 : g.get 3 = qO w.l) (hn : 3 < g.next) (k : K v g) : WpCall E f args g K := by
  have q : BlksOp [0, 1, 2, 3] 4 g [3] [qO w.l] := by
    have c3' := c3
    unfold qO at c3' ⊢
    split
    · rename_i h
      rw [if_pos h] at c3'
      exact ⟨⟨c3', hn⟩, trivial⟩
    · rename_i h
      rw [if_neg h] at c3'
      exact ⟨⟨_, c3', CellsOk.eq rfl (ucs_flat _)⟩, trivial⟩
  have y2 : BlksOp [0, 1, 2, 3] 4 g [2, 3] [wyB w.y, qO w.l] := by
    have c2' := c2
    revert c2'
    generalize w.y = y
    intro c2'
    cases y with
    | nil => exact ⟨⟨c2', by omega⟩, q⟩
    | own l z => exact ⟨⟨_, c2', CellsOk.eq rfl (wyC_flat l z)⟩, q⟩
  have op : BlksOp [0, 1, 2, 3] 4 g [0, 1, 2, 3] (memW w) := by
    refine ⟨⟨_, c0, ?_, ok_w (by decide) (ok_stay (stay_wy _) (by decide) (by decide))⟩, ⟨_, c1, ?_, ok_sd _ _ (ok_stay (stay_w0 w) (by decide) (by decide)) (ok_stay (stay_w1 w) (by decide) (by decide))⟩, y2⟩
    · show [_, _, wyV w.y] = [_, _, unC [0, 1, 2, 3] (wyV w.y)]
      rw [← (stay_wy w.y [0, 1, 2, 3] 4 rfl (by decide)).1]
      rfl
    · show [_, _, _, _, _, _, _, _, _, w0 w, _, _, _, _, _, _, _, _, _, w1 w] = [_, _, _, _, _, _, _, _, _, unC [0, 1, 2, 3] (w0 w), _, _, _, _, _, _, _, _, _, unC [0, 1, 2, 3] (w1 w)]
      rw [← (stay_w0 w [0, 1, 2, 3] 4 rfl (by decide)).1, ← (stay_w1 w [0, 1, 2, 3] 4 rfl (by decide)).1]
      rfl
  refine WpCall.lentH [0, 1, 2, 3] (h := g) ⟨c, own_w w, own_w w, Nat.le_refl _, ha, (AllOk.cons (ok_one (ok_w (show 1 < 4 by decide) (ok_stay (stay_wy _) (show 2 < 4 by decide) (by decide)))) (.cons (ok_one (ok_sd _ _ (ok_stay (stay_w0 w) (show 3 < 4 by decide) (by decide)) (ok_stay (stay_w1 w) (show 3 < 4 by decide) (by decide)))) (.cons (ok_wy _) (.cons (ok_q _) .nil)))), res⟩ (by decide) op hu v (memW w) ?_ hv g ?_ k
  · refine .cons ?_ (.cons ?_ (.cons (unB_opt (flat_wy _)) (.cons (unB_opt (flat_q _)) .nil)))
    · show some (unB [0, 1, 2, 3] _) = _
      rw [unB_w rfl, ← (stay_wy w.y [0, 1, 2, 3] 4 rfl (by decide)).1]
    · show some (unB [0, 1, 2, 3] _) = _
      rw [unB_sd, ← (stay_w0 w [0, 1, 2, 3] 4 rfl (by decide)).1, ← (stay_w1 w [0, 1, 2, 3] 4 rfl (by decide)).1]
  · show Heap.mk _ _ = Heap.mk _ _
    congr 1
    funext i
    show (if i = 3 then qO w.l else if i = 2 then wyB w.y else if i = 1 then some (sdB w.a w.b (w0 w) (w1 w)) else if i = 0 then some (wB w.t (wyV w.y)) else g.get i) = g.get i
    split
    · rename_i h; subst h; exact c3.symm
    split
    · rename_i h; subst h; exact c2.symm
    split
    · rename_i h; subst h; exact c1.symm
    split
    · rename_i h; subst h; exact c0.symm
    · rfl
/-- What waits at a side, as it is told. -/
def nW (w : Wd) (k : Int) : Int := if w.t = k then w.l.length else 0
theorem agreeW {n : Nat} {w : Wd} (h : Iv n w) (hn : n ≤ 1000) (hb : decide (IntKind.i64.wrap (IntKind.i64.wrap (nW w 0 + nW w 1) + w.y.l.length) > 0) = false) : w.a.shown = w.b.shown := by
  have h1 := h.ln
  have h2 := h.ll
  have h3 : ∀ k, 0 ≤ nW w k ∧ nW w k ≤ 100 := fun k => by unfold nW; split <;> omega
  have a0 := h3 0
  have a1 := h3 1
  rw [wr (nW w 0 + nW w 1) (by omega) (by omega), wr _ (by omega) (by omega)] at hb
  have hb := of_decide_eq_false hb
  have hy : w.y.l = [] := List.eq_nil_of_length_eq_zero (by omega)
  refine h.agree ?_ hy
  unfold nW at hb a0 a1
  cases h with
  | zero h1 _ _ =>
    rw [if_pos h1] at hb a0
    exact List.eq_nil_of_length_eq_zero (by omega)
  | one h1 _ _ =>
    rw [if_pos h1] at hb a1
    exact List.eq_nil_of_length_eq_zero (by omega)
  | gave0 _ _ _ h => exact h
  | gave1 _ _ _ h => exact h
theorem wait0 (w : Wd) (x : Blk) : SCall E 27 [.pointer (some ⟨0, 0, none⟩), .int .i64 0] (memX w x) (.tuple #[.int .i64 (nW w 0), .int .i64 0]) (memX w x) := by
  obtain ⟨t, a, b, l, y⟩ := w
  unfold nW
  by_cases ht : t = 0
  · rw [if_pos ht]
    subst ht
    by_cases hl : l = []
    · subst hl
      unfold memX
      rw [memN]
      exact wait27_0n _ _ _ _ _ _
    · unfold memX
      rw [mem0 _ _ _ hl]
      exact wait27_0o _ _ _ _ _ _ _
  · rw [if_neg ht]
    have e : memX ⟨t, a, b, l, y⟩ x = heapO (some (wB t (wyV y)) :: some (sdB a b (.slice none 0 0) (w1 ⟨t, a, b, l, y⟩)) :: [wyB y, qO l, some x]) := by
      unfold memX memW w0
      dsimp only
      rw [if_neg ht]
      rfl
    rw [e]
    exact wait27_0n _ _ _ _ _ _
theorem wait1 (w : Wd) (x : Blk) : SCall E 27 [.pointer (some ⟨0, 0, none⟩), .int .i64 1] (memX w x) (.tuple #[.int .i64 (nW w 1), .int .i64 0]) (memX w x) := by
  obtain ⟨t, a, b, l, y⟩ := w
  unfold nW
  by_cases ht : t = 1
  · rw [if_pos ht]
    subst ht
    by_cases hl : l = []
    · subst hl
      unfold memX
      rw [memN]
      exact wait27_1n _ _ _ _ _ _
    · unfold memX
      rw [mem1 _ _ _ hl]
      exact wait27_1o _ _ _ _ _ _ _
  · rw [if_neg ht]
    have e : memX ⟨t, a, b, l, y⟩ x = heapO (some (wB t (wyV y)) :: some (sdB a b (w0 ⟨t, a, b, l, y⟩) (.slice none 0 0)) :: [wyB y, qO l, some x]) := by
      unfold memX memW w1
      dsimp only
      rw [if_neg ht]
      rfl
    rw [e]
    exact wait27_1n _ _ _ _ _ _
theorem onway (w : Wd) (x : Blk) : SCall E 28 [.pointer (some ⟨0, 0, none⟩)] (memX w x) (.int .i64 w.y.l.length) (memX w x) := by
  obtain ⟨t, a, b, l, y⟩ := w
  cases y with
  | nil => exact onway28n _ _
  | own L z => exact onway28o _ _ _ _
theorem f6 : E.funcs 6 = some Try.f6 := by kernel_rfl
theorem law6a (row col : Int) (x : Nat) (Z : List Act) (h : okSize row col) (hZ : Z.length ≤ 1000000000000000) (hT : ∀ z ∈ Z, z.u.t.size ≤ 140737488351232) : Fun E 6 [.int .i64 row, .int .i64 col, FS 52 Z.length x (acs Z).toArray] (.bool true) := by
  refine Fun.of f6 rfl (of_decide_eq_true (by kernel_rfl)) rfl ?_
  have c1 := new20 row col h
  have c9 := sane18
  obtain ⟨s0, hs0⟩ : ∃ s0 : Sd, (⟨dBlank row.toNat col.toNat, dBlank row.toNat col.toNat, 0⟩ : Sd) = s0 := ⟨_, rfl⟩
  rw [hs0] at c1
  have hg0 : s0.shown.good ∧ s0.kept = s0.shown := by
    rw [← hs0]
    refine ⟨?_, rfl⟩
    show Good _ _ _ _
    exact good_of (by have := h.1; omega) (by have := h.2; omega) (show 0 < row.toNat by have := h.1; omega) (show 0 < col.toNat by have := h.2; omega) (fun _ _ _ _ => ⟨rfl, rfl⟩)
  refine Wp.seq (Wp.text (kp 6 (.bool false) (WpOps.nil (thenK_at (Wp.seq (Wp.text (kp 19 (.int .i64 row) (kp 20 (.int .i64 col) (cl 21 20 [Value.int .i64 row, Value.int .i64 col] ?_)))))))))
  refine WpCall.lent [] (c1) (by decide) trivial (by kernel_rfl) (Value.tuple #[Value.pointer (some (Addr.mk (List.getD [0, 1] 0 0) 0 none)), Value.int .i64 0]) ([Blk.mk 64 true [Value.slice (some (Addr.mk (List.getD [0, 1] 1 0) 0 none)) 2 2, Value.int .i64 0, Value.slice none 0 0], Blk.mk 83 true [strs 0 (Dsp.r (Sd.shown s0)), strs 0 (Dsp.m (Sd.shown s0)), Value.int .i64 (Dsp.i (Sd.shown s0)), Value.int .i64 (Dsp.j (Sd.shown s0)), strs 0 (Dsp.r (Sd.kept s0)), strs 0 (Dsp.m (Sd.kept s0)), Value.int .i64 (Dsp.i (Sd.kept s0)), Value.int .i64 (Dsp.j (Sd.kept s0)), Value.int .i64 (Sd.mark s0), Value.slice none 0 0, strs 0 (Dsp.r (Sd.shown s0)), strs 0 (Dsp.m (Sd.shown s0)), Value.int .i64 (Dsp.i (Sd.shown s0)), Value.int .i64 (Dsp.j (Sd.shown s0)), strs 0 (Dsp.r (Sd.kept s0)), strs 0 (Dsp.m (Sd.kept s0)), Value.int .i64 (Dsp.i (Sd.kept s0)), Value.int .i64 (Dsp.j (Sd.kept s0)), Value.int .i64 (Sd.mark s0), Value.slice none 0 0]]) (.cons (by kernel_rfl) (.cons (by kernel_rfl) .nil)) (by kernel_rfl) (Heap.alloc (Heap.alloc Heap.none (Blk.mk 64 true [Value.slice (some (Addr.mk (List.getD [0, 1] 1 0) 0 none)) 2 2, Value.int .i64 0, Value.slice none 0 0])) (Blk.mk 83 true [strs 0 (Dsp.r (Sd.shown s0)), strs 0 (Dsp.m (Sd.shown s0)), Value.int .i64 (Dsp.i (Sd.shown s0)), Value.int .i64 (Dsp.j (Sd.shown s0)), strs 0 (Dsp.r (Sd.kept s0)), strs 0 (Dsp.m (Sd.kept s0)), Value.int .i64 (Dsp.i (Sd.kept s0)), Value.int .i64 (Dsp.j (Sd.kept s0)), Value.int .i64 (Sd.mark s0), Value.slice none 0 0, strs 0 (Dsp.r (Sd.shown s0)), strs 0 (Dsp.m (Sd.shown s0)), Value.int .i64 (Dsp.i (Sd.shown s0)), Value.int .i64 (Dsp.j (Sd.shown s0)), strs 0 (Dsp.r (Sd.kept s0)), strs 0 (Dsp.m (Sd.kept s0)), Value.int .i64 (Dsp.i (Sd.kept s0)), Value.int .i64 (Dsp.j (Sd.kept s0)), Value.int .i64 (Sd.mark s0), Value.slice none 0 0])) (by kernel_rfl) ?_
  refine kp 18 (.tuple #[Value.pointer (some (Addr.mk (List.getD [0, 1] 0 0) 0 none)), Value.int .i64 0]) (kp 22 (.pointer (some ⟨0, 0, none⟩)) (kp 23 (.int .i64 0) (kp 7 (.pointer (some ⟨0, 0, none⟩)) (kp 8 (.int .i64 0) (WpOps.nil (thenK_at (Wp.seq (Wp.seq (Wp.text (kp 24 (.int .i64 0) (kp 25 (.bool false) (WpOps.nil (thenK_at (off' (Wp.skip (thenK_at (Wp.seq (Wp.seq (Wp.text (kp 9 (.int .i64 0) (WpOps.nil (thenK_at (Wp.block ?_)))))))))))))))))))))))
  clear c1
  refine Wp.loop (G := Nat × Wd) (fun g => layj [(2, FS 52 Z.length x (acs Z).toArray), (6, .bool false), (7, .pointer (some ⟨0, 0, none⟩)), (9, .int .i64 g.1)]) (fun g => heapO (memW g.2)) (fun g => Z.length - g.1) (fun g => g.1 ≤ Z.length ∧ g.1 ≤ 150 ∧ Iv g.1 g.2) (0, ⟨0, s0, s0, [], .nil⟩)
    (viewL ⟨0, s0, s0, [], .nil⟩ (by kernel_rfl) (by kernel_rfl) (by kernel_rfl) (by kernel_rfl) ⟨⟨by kernel_rfl, rfl⟩, ⟨by kernel_rfl, rfl⟩, ⟨by kernel_rfl, rfl⟩, ⟨by kernel_rfl, rfl⟩, trivial⟩) ⟨Nat.zero_le _, Nat.zero_le _, .zero rfl ⟨hg0.1, hg0.1, rfl, by rw [hg0.2]; exact hg0.1, ⟨s0.shown, rfl, runs_nil _, rfl⟩, (fun d hd => by cases hd), (fun d hd => by cases hd), Nat.zero_le _, Nat.le_refl _⟩ (fun d hd => by cases hd)⟩ ?_
  rintro ⟨i, w⟩ ⟨hi, hi2, hv⟩
  dsimp only at hi hi2 hv ⊢
  by_cases hc : i < Z.length
  · by_cases hc2 : i < 150
    · have d2 : decide ((i : Int) < (Z.length : Int)) = true := decide_eq_true (by omega)
      have d3 : decide ((i : Int) < 150) = true := decide_eq_true (by omega)
      have g1 : 0 ≤ (i : Int) ∧ (i : Int) < Z.length := by omega
      have hs : cellsAt (acs Z).toArray.toList ((i : Int).toNat * 7) 7 = some (ac Z[i]) := acs_at Z i hc
      unfold ac at hs
      have c1 := mod21 Z[i].x 2 (by decide) (by decide)
      obtain ⟨m1, m2⟩ := modN_in Z[i].x 2 (by decide)
      have wi : IntKind.i64.wrap ((i : Int) + 1) = ((i + 1 : Nat) : Int) := by rw [wr _ (by omega) (by omega)]; omega
      have hz := List.getElem_mem hc
      generalize Z[i] = z at *
      refine Wp.seq (Wp.seq (Wp.text (kp 31 (.int .i64 i) (kp 32 (.iface 52 (Value.iface (List.length Z) (Value.iface x (Value.agg (List.toArray (acs Z)))))) (kp 33 (.int .i64 (List.length Z)) (kp 34 (.bool true) (kp 35 (.bool true) (kp 36 (.int .i64 i) (kp 37 (.bool true) (kp 38 (.bool true) (WpOps.nil (thenK_at (on' (Wp.skip (thenK_at (Wp.seq (Wp.block (Wp.seq (Wp.text (kp 41 (.iface 52 (Value.iface (List.length Z) (Value.iface x (Value.agg (List.toArray (acs Z)))))) (kp 42 (.int .i64 i) (kp 43 (.iface 52 (Value.iface (Int.toNat (↑i : Int) * 7) (Value.agg (List.toArray (acs Z))))) (kp 44 (.agg #[Value.int .i64 (Act.k z), Value.int .i64 (Act.x z), Value.int .i64 (Up.op (Act.u z)), Value.int .i64 (Up.row (Act.u z)), Value.int .i64 (Up.col (Act.u z)), Value.int .i64 (Up.n (Act.u z)), Value.string (Up.t (Act.u z))]) (md 10 (.pointer (some ⟨4, 0, none⟩)) (Blk.mk 52 true [Value.int .i64 0, Value.int .i64 0, Value.int .i64 0, Value.int .i64 0, Value.int .i64 0, Value.int .i64 0, Value.string (ByteArray.mk #[])]) (ld (.tuple #[]) (4) (Blk.mk 52 true [Value.int .i64 (Act.k z), Value.int .i64 (Act.x z), Value.int .i64 (Up.op (Act.u z)), Value.int .i64 (Up.row (Act.u z)), Value.int .i64 (Up.col (Act.u z)), Value.int .i64 (Up.n (Act.u z)), Value.string (Up.t (Act.u z))]) (WpOps.nil (thenK_at (Wp.seq (Wp.text ?_)))))) (hop := fun _ => o_loadIA (Int.toNat (↑i : Int) * 7) hs)) (hop := fun _ => o_indexI (e := 52) (size := 7) (a := (↑i : Int)) g1)))))))))))))) (hop := fun _ => by_fact d3)))) (hop := fun _ => by_fact d2)))))))
      refine kp 45 (.pointer (some ⟨4, 1, none⟩)) (kp 46 (.int .i64 (Act.x z)) (fr 47 21 [Value.int .i64 (Act.x z), Value.int .i64 2] (WpFun.of (c1) (kp 11 (.int .i64 (modN (Act.x z) 2)) (WpOps.nil (thenK_at (Wp.seq (Wp.seq (Wp.text (kp 48 (.pointer (some ⟨4, 0, none⟩)) (kp 49 (.int .i64 (Act.k z)) (WpOps.nil (thenK_at ?_)))))))))))))
      have hTz : z.u.t.size ≤ 140737488351232 := hT z hz
      have hx : modN z.x 2 = 0 ∨ modN z.x 2 = 1 := by omega
      refine Wp.view (VW.view (w := w) (x := ⟨52, true, ac z⟩) (l := [(2, FS 52 Z.length x (acs Z).toArray), (6, .bool false), (7, .pointer (some ⟨0, 0, none⟩)), (9, .int .i64 i), (10, .pointer (some ⟨4, 0, none⟩)), (11, .int .i64 (modN z.x 2)), (49, .int .i64 z.k)]) ⟨2, 3, _, _, _, by decide, by kernel_rfl, by kernel_rfl, (stay_wy _ _ 5 rfl (by decide)).1, (stay_w0 w _ 5 rfl (by decide)).1, (stay_w1 w _ 5 rfl (by decide)).1, (optWy _ (by kernel_rfl)).t, optQ _ (by kernel_rfl), optS (by kernel_rfl) rfl⟩ (fun _ _ => ⟨⟨by kernel_rfl, rfl⟩, ⟨by kernel_rfl, rfl⟩, ⟨by kernel_rfl, rfl⟩, ⟨by kernel_rfl, rfl⟩, ⟨by kernel_rfl, rfl⟩, ⟨by kernel_rfl, rfl⟩, ⟨by kernel_rfl, rfl⟩, trivial⟩)) ?_
      refine Wp.mergeE (α := Wd) (fun w' => Iv (i + 1) w' ∧ (z.k = 4 → w'.l = [] ∧ w'.y.l = [])) [(2, FS 52 Z.length x (acs Z).toArray), (6, .bool false), (7, .pointer (some ⟨0, 0, none⟩)), (9, .int .i64 i), (10, .pointer (some ⟨4, 0, none⟩))] (fun w' => memX w' ⟨52, true, ac z⟩) ?_ ?_
      · by_cases h0 : z.k = 0
        · have e0 : (z.k == 0) = true := by rw [h0]; rfl
          refine Wp.block (Wp.seq (Wp.text (kp 51 (.bool true) (kp 50 (.bool true) (WpOps.nil (thenK_at (on' (Wp.text (kp 52 (.pointer (some ⟨0, 0, none⟩)) (kp 53 (.int .i64 (modN (Act.x z) 2)) (kp 54 (.pointer (some ⟨4, 2, none⟩)) (kp 55 (.agg #[Value.int .i64 (Up.op (Act.u z)), Value.int .i64 (Up.row (Act.u z)), Value.int .i64 (Up.col (Act.u z)), Value.int .i64 (Up.n (Act.u z)), Value.string (Up.t (Act.u z))]) (cl 56 22 [Value.pointer (some ⟨0, 0, none⟩), Value.int .i64 (modN (Act.x z) 2), Value.agg #[Value.int .i64 (Up.op (Act.u z)), Value.int .i64 (Up.row (Act.u z)), Value.int .i64 (Up.col (Act.u z)), Value.int .i64 (Up.n (Act.u z)), Value.string (Up.t (Act.u z))]] ?_)))))))))) (hop := fun _ => by_fact e0))))
          refine doUpd (w := w) rfl hv hx z.u hTz (fun v g' w' hI hV => ?_)
          refine WpOps.nil (blockK_norm ?_)
          exact ⟨rfl, w', ⟨hI.mono (Nat.le_succ _), fun h => absurd (h0.symm.trans h) (by decide)⟩, hV.view (fun _ _ => ⟨⟨by kernel_rfl, rfl⟩, ⟨by kernel_rfl, rfl⟩, ⟨by kernel_rfl, rfl⟩, ⟨by kernel_rfl, rfl⟩, ⟨by kernel_rfl, rfl⟩, trivial⟩)⟩
        have e0 : (z.k == 0) = false := by simpa using h0
        by_cases h1 : z.k = 1
        · have e1 : (z.k == 1) = true := by rw [h1]; rfl
          refine Wp.block (Wp.seq (Wp.text (kp 51 (.bool false) (kp 50 (.bool false) (WpOps.nil (thenK_at (off' (Wp.seq (Wp.text (kp 58 (.bool true) (kp 57 (.bool true) (WpOps.nil (thenK_at (on' (Wp.text (kp 59 (.pointer (some ⟨0, 0, none⟩)) (kp 60 (.int .i64 (modN (Act.x z) 2)) (cl 61 23 [Value.pointer (some ⟨0, 0, none⟩), Value.int .i64 (modN (Act.x z) 2)] ?_)))))))) (hop := fun _ => by_fact e1)))))))) (hop := fun _ => by_fact e0))))
          refine doDel (w := w) rfl hv (by omega) hx (fun v g' w' hI hV => ?_)
          refine WpOps.nil (blockK_norm ?_)
          exact ⟨rfl, w', ⟨hI, fun h => absurd (h1.symm.trans h) (by decide)⟩, hV.view (fun _ _ => ⟨⟨by kernel_rfl, rfl⟩, ⟨by kernel_rfl, rfl⟩, ⟨by kernel_rfl, rfl⟩, ⟨by kernel_rfl, rfl⟩, ⟨by kernel_rfl, rfl⟩, trivial⟩)⟩
        have e1 : (z.k == 1) = false := by simpa using h1
        by_cases h2 : z.k = 2
        · have e2 : (z.k == 2) = true := by rw [h2]; rfl
          refine Wp.block (Wp.seq (Wp.text (kp 51 (.bool false) (kp 50 (.bool false) (WpOps.nil (thenK_at (off' (Wp.seq (Wp.text (kp 58 (.bool false) (kp 57 (.bool false) (WpOps.nil (thenK_at (off' (Wp.seq (Wp.text (kp 63 (.bool true) (kp 62 (.bool true) (WpOps.nil (thenK_at (on' (Wp.text (kp 64 (.pointer (some ⟨0, 0, none⟩)) (kp 65 (.int .i64 (modN (Act.x z) 2)) (cl 66 24 [Value.pointer (some ⟨0, 0, none⟩), Value.int .i64 (modN (Act.x z) 2)] ?_)))))))) (hop := fun _ => by_fact e2)))))))) (hop := fun _ => by_fact e1)))))))) (hop := fun _ => by_fact e0))))
          refine doGive (w := w) rfl hv (by omega) hx (fun v g' w' hI hV => ?_)
          refine WpOps.nil (blockK_norm ?_)
          exact ⟨rfl, w', ⟨hI, fun h => absurd (h2.symm.trans h) (by decide)⟩, hV.view (fun _ _ => ⟨⟨by kernel_rfl, rfl⟩, ⟨by kernel_rfl, rfl⟩, ⟨by kernel_rfl, rfl⟩, ⟨by kernel_rfl, rfl⟩, ⟨by kernel_rfl, rfl⟩, trivial⟩)⟩
        have e2 : (z.k == 2) = false := by simpa using h2
        by_cases h3 : z.k = 3
        · have e3 : (z.k == 3) = true := by rw [h3]; rfl
          refine Wp.block (Wp.seq (Wp.text (kp 51 (.bool false) (kp 50 (.bool false) (WpOps.nil (thenK_at (off' (Wp.seq (Wp.text (kp 58 (.bool false) (kp 57 (.bool false) (WpOps.nil (thenK_at (off' (Wp.seq (Wp.text (kp 63 (.bool false) (kp 62 (.bool false) (WpOps.nil (thenK_at (off' (Wp.seq (Wp.text (kp 68 (.bool true) (kp 67 (.bool true) (WpOps.nil (thenK_at (on' (Wp.text (kp 69 (.pointer (some ⟨0, 0, none⟩)) (kp 70 (.int .i64 (modN (Act.x z) 2)) (cl 71 25 [Value.pointer (some ⟨0, 0, none⟩), Value.int .i64 (modN (Act.x z) 2)] ?_)))))))) (hop := fun _ => by_fact e3)))))))) (hop := fun _ => by_fact e2)))))))) (hop := fun _ => by_fact e1)))))))) (hop := fun _ => by_fact e0))))
          refine doCome (w := w) rfl hv (by omega) hx (fun v1 v2 g' w' hI hV => ?_)
          refine WpOps.nil (blockK_norm ?_)
          exact ⟨rfl, w', ⟨hI.mono (Nat.le_succ _), fun h => absurd (h3.symm.trans h) (by decide)⟩, hV.view (fun _ _ => ⟨⟨by kernel_rfl, rfl⟩, ⟨by kernel_rfl, rfl⟩, ⟨by kernel_rfl, rfl⟩, ⟨by kernel_rfl, rfl⟩, ⟨by kernel_rfl, rfl⟩, trivial⟩)⟩
        have e3 : (z.k == 3) = false := by simpa using h3
        by_cases h4 : z.k = 4
        · have e4 : (z.k == 4) = true := by rw [h4]; rfl
          refine Wp.block (Wp.seq (Wp.text (kp 51 (.bool false) (kp 50 (.bool false) (WpOps.nil (thenK_at (off' (Wp.seq (Wp.text (kp 58 (.bool false) (kp 57 (.bool false) (WpOps.nil (thenK_at (off' (Wp.seq (Wp.text (kp 63 (.bool false) (kp 62 (.bool false) (WpOps.nil (thenK_at (off' (Wp.seq (Wp.text (kp 68 (.bool false) (kp 67 (.bool false) (WpOps.nil (thenK_at (off' (Wp.seq (Wp.text (kp 73 (.bool true) (kp 72 (.bool true) (WpOps.nil (thenK_at (on' (Wp.text (kp 74 (.pointer (some ⟨0, 0, none⟩)) (kp 75 (.int .i64 (modN (Act.x z) 2)) (cl 76 26 [Value.pointer (some ⟨0, 0, none⟩), Value.int .i64 (modN (Act.x z) 2)] ?_)))))))) (hop := fun _ => by_fact e4)))))))) (hop := fun _ => by_fact e3)))))))) (hop := fun _ => by_fact e2)))))))) (hop := fun _ => by_fact e1)))))))) (hop := fun _ => by_fact e0))))
          refine doBreak (w := w) rfl hv hx (fun v g' w' hI hl hy hV => ?_)
          refine WpOps.nil (blockK_norm ?_)
          exact ⟨rfl, w', ⟨hI.mono (Nat.le_succ _), fun _ => ⟨hl, hy⟩⟩, hV.view (fun _ _ => ⟨⟨by kernel_rfl, rfl⟩, ⟨by kernel_rfl, rfl⟩, ⟨by kernel_rfl, rfl⟩, ⟨by kernel_rfl, rfl⟩, ⟨by kernel_rfl, rfl⟩, trivial⟩)⟩
        have e4 : (z.k == 4) = false := by simpa using h4
        refine Wp.block (Wp.seq (Wp.text (kp 51 (.bool false) (kp 50 (.bool false) (WpOps.nil (thenK_at (off' (Wp.seq (Wp.text (kp 58 (.bool false) (kp 57 (.bool false) (WpOps.nil (thenK_at (off' (Wp.seq (Wp.text (kp 63 (.bool false) (kp 62 (.bool false) (WpOps.nil (thenK_at (off' (Wp.seq (Wp.text (kp 68 (.bool false) (kp 67 (.bool false) (WpOps.nil (thenK_at (off' (Wp.seq (Wp.text (kp 73 (.bool false) (kp 72 (.bool false) (WpOps.nil (thenK_at (off' (Wp.skip (blockK_norm ?_)))))) (hop := fun _ => by_fact e4)))))))) (hop := fun _ => by_fact e3)))))))) (hop := fun _ => by_fact e2)))))))) (hop := fun _ => by_fact e1)))))))) (hop := fun _ => by_fact e0))))
        exact ⟨rfl, w, ⟨hv.mono (Nat.le_succ _), fun h => absurd h h4⟩, (VW.same w _ rfl).view (fun _ _ => ⟨⟨by kernel_rfl, rfl⟩, ⟨by kernel_rfl, rfl⟩, ⟨by kernel_rfl, rfl⟩, ⟨by kernel_rfl, rfl⟩, ⟨by kernel_rfl, rfl⟩, trivial⟩)⟩
      · rintro w' ⟨hI, h4⟩
        refine Wp.seq (Wp.text (kp 78 (.pointer (some ⟨0, 0, none⟩)) (cl 79 27 [Value.pointer (some ⟨0, 0, none⟩), Value.int .i64 0] ?_)))
        refine WpCall.same (wait0 w' _) rfl ?_
        refine kp 77 (.tuple #[Value.int .i64 (nW w' 0), Value.int .i64 0]) (kp 80 (.int .i64 (nW w' 0)) (kp 81 (.int .i64 0) (kp 12 (.int .i64 (nW w' 0)) (kp 13 (.int .i64 0) (WpOps.nil (thenK_at (Wp.seq (Wp.text (kp 83 (.pointer (some ⟨0, 0, none⟩)) (cl 84 27 [Value.pointer (some ⟨0, 0, none⟩), Value.int .i64 1] ?_))))))))))
        refine WpCall.same (wait1 w' _) rfl ?_
        refine kp 82 (.tuple #[Value.int .i64 (nW w' 1), Value.int .i64 0]) (kp 85 (.int .i64 (nW w' 1)) (kp 86 (.int .i64 0) (kp 14 (.int .i64 (nW w' 1)) (kp 15 (.int .i64 0) (WpOps.nil (thenK_at (Wp.seq (Wp.seq (Wp.text (kp 87 (.int .i64 0) (kp 88 (.bool false) (kp 89 (.bool false) (kp 90 (.int .i64 0) (kp 91 (.bool false) (kp 92 (.bool false) (WpOps.nil (thenK_at (off' (Wp.skip (thenK_at (Wp.seq (Wp.seq (Wp.text (kp 93 (.int .i64 (nW w' 0)) (kp 94 (.int .i64 (nW w' 1)) (kp 95 (.int .i64 (IntKind.wrap .i64 (nW w' 0 + nW w' 1))) (kp 96 (.pointer (some ⟨0, 0, none⟩)) (cl 97 28 [Value.pointer (some ⟨0, 0, none⟩)] ?_))))))))))))))))))))))))))))
        refine WpCall.same (onway w' _) rfl ?_
        refine kp 98 (.int .i64 (IntKind.wrap .i64 (IntKind.wrap .i64 (nW w' 0 + nW w' 1) + (↑(List.length (Wy.l (Wd.y w'))) : Int)))) (kp 99 (.bool (decide (IntKind.wrap .i64 (IntKind.wrap .i64 (nW w' 0 + nW w' 1) + (↑(List.length (Wy.l (Wd.y w'))) : Int)) > 0))) (kp 100 (.bool (decide (IntKind.wrap .i64 (IntKind.wrap .i64 (nW w' 0 + nW w' 1) + (↑(List.length (Wy.l (Wd.y w'))) : Int)) > 0))) ?_))
        refine WpOps.fork 4 (decide (IntKind.wrap IntKind.i64 (IntKind.wrap IntKind.i64 (nW w' 0 + nW w' 1) + (↑(List.length (Wy.l (Wd.y w'))) : Int)) > 0)) [101, 102, 103, 104] 104 (Act.k z != 4) (false) (by kernel_rfl) (fun g104 => ?_) (fun g104 => ?_) (fun f_104 b104 hb104 => ?_)
        · refine kp 101 (.pointer (some ⟨4, 0, none⟩)) (kp 102 (.int .i64 (Act.k z)) (kp 103 (.bool (Act.k z != 4)) (kp 104 (.bool (Act.k z != 4)) (WpOps.nil ?_) (hop := fun _ => o_pickT g104)) (hw := wants_tt g104)) (hw := wants_tt g104)) (hw := wants_tt g104)
          exact ⟨rfl, (.upd rfl (.upd rfl (.upd rfl (.upd rfl .refl)))), (by kernel_rfl)⟩
        · refine um 101 (um 102 (um 103 (kp 104 (.bool false) (WpOps.nil ?_) (hop := fun _ => o_pickF g104)) (hw := wants_ft g104)) (hw := wants_ft g104)) (hw := wants_ft g104)
          exact ⟨rfl, (.upd rfl (.upd rfl (.upd rfl (.upd rfl .refl)))), (by kernel_rfl)⟩
        refine WpOps.nil (thenK_at ?_)
        refine Wp.split (b104) (by kernel_rfl) (fun hgo => ?_) (fun hgo => ?_)
        · refine Wp.exit (thenK_exit (blockK_hit (thenK_at (Wp.text (kp 39 (.int .i64 i) (kp 40 (.int .i64 (IntKind.wrap .i64 ((↑i : Int) + 1))) (kp 9 (.int .i64 (IntKind.wrap .i64 ((↑i : Int) + 1))) (WpOps.nil (thenK_at ?_)))))))))
          exact ⟨(i + 1, w'), by dsimp only; omega, ⟨by dsimp only; omega, by dsimp only; omega, hI⟩, viewL w' (by kernel_rfl) (by kernel_rfl) (by kernel_rfl) (by kernel_rfl) ⟨⟨by kernel_rfl, rfl⟩, ⟨by kernel_rfl, rfl⟩, ⟨by kernel_rfl, rfl⟩, ⟨congrArg (Value.int .i64) wi, rfl⟩, trivial⟩⟩
        · have hsame : w'.a.shown = w'.b.shown := by
            rw [hb104] at hgo
            by_cases k4 : z.k = 4
            · exact hI.agree (h4 k4).1 (h4 k4).2
            · have : (z.k != 4) = true := by simpa using k4
              rw [this] at hgo
              exact agreeW hI (by omega) (by revert hgo; cases decide (IntKind.i64.wrap (IntKind.i64.wrap (nW w' 0 + nW w' 1) + w'.y.l.length) > 0) <;> simp)
          have hga := hI.ga
          have hgb := hI.gb
          have s0 := show29_0 w'.t w'.y w'.a w'.b w'.l _ _ (stay_w0 w') (stay_w1 w') hga.1.1 (by rw [hga.1.2.1]; exact hga.1.1)
          have s1 := show29_1 w'.t w'.y w'.a w'.b w'.l _ _ (stay_w0 w') (stay_w1 w') hgb.1.1 (by rw [hgb.1.2.1]; exact hgb.1.1)
          obtain ⟨V0, hV0⟩ : ∃ V0, w'.a.shown.v = V0 := ⟨_, rfl⟩
          have hV1 : w'.b.shown.v = V0 := by rw [← hsame]; exact hV0
          rw [hV0] at s0
          rw [hV1] at s1
          generalize w'.a.shown = D at hga hV0
          obtain ⟨r, m, si, sj⟩ := D
          have q1 := hga.1.1
          have q2 := hga.1.2.1
          have c11 := to11 0 0 r m si sj (by show r.length ≤ _; have : r.length ≤ 40 := q1.2; omega) (by have : m.length = r.length := q2; have : r.length ≤ 40 := q1.2; omega)
          have c17 := same17 0 0 0 0 r m si sj (by have : r.length ≤ 40 := q1.2; omega) (by have : m.length = r.length := q2; have : r.length ≤ 40 := q1.2; omega)
          have c15 : Fun E 15 [dv 0 0 r m si sj] (.bool true) := by
            have hsz : ∀ k, (rowAt r k).size ≤ 140737488351232 ∧ (rowAt m k).size ≤ 140737488351232 := fun k => by
              have hg : Good r m si sj := hga
              by_cases hk : k < r.length
              · obtain ⟨e1, e2, _⟩ := hg.2 k hk
                have := hg.1.2.2.1.2
                omega
              · have h1 : rowAt r k = ByteArray.empty := by unfold rowAt; rw [List.getD_eq_getElem?_getD, List.getElem?_eq_none (by omega)]; rfl
                have h2 : rowAt m k = ByteArray.empty := by unfold rowAt; rw [List.getD_eq_getElem?_getD, List.getElem?_eq_none (by have : m.length = r.length := q2; omega)]; rfl
                rw [h1, h2]
                exact ⟨by decide, by decide⟩
            have := valid15 0 0 r m si sj (fun k => (hsz k).1) (fun k => (hsz k).2)
            rwa [decide_eq_true (show Good r m si sj from hga)] at this
          have hd : dv 0 0 r m si sj = V0 := hV0
          refine Wp.skip (thenK_at (Wp.seq (Wp.text (kp 106 (.pointer (some ⟨0, 0, none⟩)) (cl 107 29 [Value.pointer (some ⟨0, 0, none⟩), Value.int .i64 0] ?_)))))
          refine WpCall.stayG s0 rfl rfl (by rw [← hd]; rfl) (by rw [← hd]; rfl) (by kernel_rfl) (by kernel_rfl) (by kernel_rfl) (by kernel_rfl) (of_decide_eq_true (by kernel_rfl)) ?_
          rw [← hd]
          unfold dv at c11 c17 c15 ⊢
          refine kp 105 (.tuple #[Value.agg #[strs 0 r, strs 0 m, Value.int .i64 si, Value.int .i64 sj], Value.int .i64 0]) (kp 108 (.agg #[strs 0 r, strs 0 m, Value.int .i64 si, Value.int .i64 sj]) (kp 109 (.int .i64 0) (md 16 (.pointer (some ⟨5, 0, none⟩)) (Blk.mk 24 true [Value.slice none 0 0, Value.slice none 0 0, Value.int .i64 0, Value.int .i64 0]) (ld (.tuple #[]) (5) (Blk.mk 24 true [strs 0 r, strs 0 m, Value.int .i64 si, Value.int .i64 sj]) (kp 13 (.int .i64 0) (WpOps.nil (thenK_at (Wp.seq (Wp.text (kp 111 (.pointer (some ⟨0, 0, none⟩)) (cl 112 29 [Value.pointer (some ⟨0, 0, none⟩), Value.int .i64 1] ?_)))))))))))
          refine WpCall.stayG s1 rfl rfl (by rw [← hd]; rfl) (by rw [← hd]; rfl) (by kernel_rfl) (by kernel_rfl) (by kernel_rfl) (by kernel_rfl) (of_decide_eq_true (by kernel_rfl)) ?_
          rw [← hd]
          unfold dv
          refine kp 110 (.tuple #[Value.agg #[strs 0 r, strs 0 m, Value.int .i64 si, Value.int .i64 sj], Value.int .i64 0]) (kp 113 (.agg #[strs 0 r, strs 0 m, Value.int .i64 si, Value.int .i64 sj]) (kp 114 (.int .i64 0) (md 17 (.pointer (some ⟨6, 0, none⟩)) (Blk.mk 24 true [Value.slice none 0 0, Value.slice none 0 0, Value.int .i64 0, Value.int .i64 0]) (ld (.tuple #[]) (6) (Blk.mk 24 true [strs 0 r, strs 0 m, Value.int .i64 si, Value.int .i64 sj]) (kp 15 (.int .i64 0) (WpOps.nil (thenK_at (Wp.seq (Wp.region (by kernel_rfl) (kp 115 (.int .i64 0) (kp 116 (.bool false) (kp 117 (.bool false) (kp 118 (.int .i64 0) (kp 119 (.bool false) (kp 120 (.bool false) (kp 121 (.bool false) (kp 122 (.agg #[strs 0 r, strs 0 m, Value.int .i64 si, Value.int .i64 sj]) (fr 123 11 [Value.agg #[strs 0 r, strs 0 m, Value.int .i64 si, Value.int .i64 sj]] (WpFun.of (c11) (kp 124 (.agg #[strs 0 r, strs 0 m, Value.int .i64 si, Value.int .i64 sj]) ?_))))))))))))))))))))
          refine fr 125 11 [Value.agg #[strs 0 r, strs 0 m, Value.int .i64 si, Value.int .i64 sj]] (WpFun.of (c11) (fr 126 17 [Value.agg #[strs 0 r, strs 0 m, Value.int .i64 si, Value.int .i64 sj], Value.agg #[strs 0 r, strs 0 m, Value.int .i64 si, Value.int .i64 sj]] (WpFun.of (c17) (kp 127 (.bool false) (kp 128 (.bool false) (kp 129 (.bool false) (kp 130 (.agg #[strs 0 r, strs 0 m, Value.int .i64 si, Value.int .i64 sj]) (fr 131 15 [Value.agg #[strs 0 r, strs 0 m, Value.int .i64 si, Value.int .i64 sj]] (WpFun.of (c15) (kp 132 (.bool false) (kp 133 (.bool false) (WpOps.nil (thenK_at (off' (Wp.skip (blockK_norm (thenK_at (Wp.text (kp 39 (.int .i64 i) (kp 40 (.int .i64 (IntKind.wrap .i64 ((↑i : Int) + 1))) (kp 9 (.int .i64 (IntKind.wrap .i64 ((↑i : Int) + 1))) (WpOps.nil (thenK_at ?_)))))))))))))))))))))))
          exact ⟨(i + 1, w'), by dsimp only; omega, ⟨by dsimp only; omega, by dsimp only; omega, hI⟩, viewL w' (by kernel_rfl) (by kernel_rfl) (by kernel_rfl) (by kernel_rfl) ⟨⟨by kernel_rfl, rfl⟩, ⟨by kernel_rfl, rfl⟩, ⟨by kernel_rfl, rfl⟩, ⟨congrArg (Value.int .i64) wi, rfl⟩, trivial⟩⟩
    · have d2 : decide ((i : Int) < (Z.length : Int)) = true := decide_eq_true (by omega)
      have d3 : decide ((i : Int) < 150) = false := decide_eq_false (by omega)
      refine Wp.seq (Wp.seq (Wp.text (kp 31 (.int .i64 i) (kp 32 (.iface 52 (Value.iface (List.length Z) (Value.iface x (Value.agg (List.toArray (acs Z)))))) (kp 33 (.int .i64 (List.length Z)) (kp 34 (.bool true) (kp 35 (.bool true) (kp 36 (.int .i64 i) (kp 37 (.bool false) (kp 38 (.bool false) (WpOps.nil (thenK_at (off' (Wp.exit (thenK_exit (thenK_exit (blockK_hit (thenK_at (Wp.seq (Wp.text (fr 134 18 [] (WpFun.of (c9) (kp 6 (.bool true) (WpOps.nil (thenK_at (Wp.ret (endK_retn [Value.bool true] (Value.bool true) (by kernel_rfl) (by kernel_rfl) ?_)))))))))))))))))) (hop := fun _ => by_fact d3)))) (hop := fun _ => by_fact d2)))))))
      rfl
  · have d2 : decide ((i : Int) < (Z.length : Int)) = false := decide_eq_false (by omega)
    refine Wp.seq (Wp.seq (Wp.text (kp 31 (.int .i64 i) (kp 32 (.iface 52 (Value.iface (List.length Z) (Value.iface x (Value.agg (List.toArray (acs Z)))))) (kp 33 (.int .i64 (List.length Z)) (kp 34 (.bool false) (kp 35 (.bool false) (um 36 (um 37 (kp 38 (.bool false) (WpOps.nil (thenK_at (off' (Wp.exit (thenK_exit (thenK_exit (blockK_hit (thenK_at (Wp.seq (Wp.text (fr 134 18 [] (WpFun.of (c9) (kp 6 (.bool true) (WpOps.nil (thenK_at (Wp.ret (endK_retn [Value.bool true] (Value.bool true) (by kernel_rfl) (by kernel_rfl) ?_))))))))))))))))))))) (hop := fun _ => by_fact d2)))))))
    rfl
theorem law6 (row col : Int) (x : Nat) (Z : List Act) (hZ : Z.length ≤ 1000000000000000) (hT : ∀ z ∈ Z, z.u.t.size ≤ 140737488351232) : Fun E 6 [.int .i64 row, .int .i64 col, FS 52 Z.length x (acs Z).toArray] (.bool true) := by
  by_cases h : okSize row col
  · exact law6a row col x Z h hZ hT
  · refine Fun.of f6 rfl (of_decide_eq_true (by kernel_rfl)) rfl ?_
    have c1 := new20b row col h
    have c9 := sane18
    refine Wp.seq (Wp.text (kp 6 (.bool false) (WpOps.nil (thenK_at (Wp.seq (Wp.text (kp 19 (.int .i64 row) (kp 20 (.int .i64 col) (cl 21 20 [Value.int .i64 row, Value.int .i64 col] ?_)))))))))
    refine WpCall.lent [] (c1) (by decide) trivial (by kernel_rfl) (Value.tuple #[Value.pointer none, Value.int .i64 1]) ([]) .nil (by kernel_rfl) (Heap.none) (by kernel_rfl) ?_
    refine kp 18 (.tuple #[Value.pointer none, Value.int .i64 1]) (kp 22 (.pointer none) (kp 23 (.int .i64 1) (kp 7 (.pointer none) (kp 8 (.int .i64 1) (WpOps.nil (thenK_at (Wp.seq (Wp.seq (Wp.text (kp 24 (.int .i64 1) (kp 25 (.bool true) (WpOps.nil (thenK_at (on' (Wp.seq (Wp.text (kp 26 (.pointer none) (kp 27 (.bool true) (kp 28 (.bool true) (fr 29 18 [] (WpFun.of (c9) (kp 30 (.bool true) (kp 6 (.bool true) (WpOps.nil (thenK_at (Wp.ret (thenK_ret (endK_retn [Value.bool true] (Value.bool true) (by kernel_rfl) (by kernel_rfl) ?_))))))))))))))))))))))))))))
    rfl
end Go.Proofs.Ytlejgfeoffhjoaa.D
