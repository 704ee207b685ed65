/- Round, of both; tables copied. -/
import Derived.Test.YtfjkanjmggbofaaFwLem
import Derived.Test.YtfjkanjmggbofaaFwCons
import Derived.Test.YtfjkanjmggbofaaV12j
namespace Go.Proofs.Ytfjkanjmggbofaa.D
open Go.Fw Go.RowKit

theorem E45 : ∃ ti, E.types 45 = some ti := by
  have : (E.types 45).map TI.size = some 1 := by kernel_rfl
  obtain ⟨ti, h, _⟩ := Option.map_eq_some_iff.1 this
  exact ⟨ti, h⟩
theorem ownF41 (N : Nat) (f : Nat → Nat → Rt) (hN : 1 ≤ N ∧ N ≤ 20) : Fun E 41 [tabM 45 47 N f] (tabM 45 47 N f) := by
  refine (own41 N f hN).toFun ?_ (tabM_ice _ _ _ _)
  rw [tabM_eq]
  refine mat_ice (p := 1) (size := 2) (by kernel_rfl) (by kernel_rfl) rowsM_len rfl (fun i r h => ?_) (fun r h => rowsM_row h) (fun r h => rowsM_flat h)
  exact mH_row (pre := [⟨45, true, rowsV 1 N N⟩]) h
theorem f18 : E.funcs 18 = some Try.f18 := by kernel_rfl
theorem round18_bad (N : Int) (x : Nat) (ls : List Lk) (xt : Nat) (T : List (Nat × List Rt)) (poison : Bool) (hb : tabOk N ls T = false) (hv : Fun E 25 [netV N x ls] (.bool (valid N ls))) (hz : T.length ≤ 17592186044416) (hw : ∀ p ∈ T, p.2.length ≤ 17592186044416) : Fun E 18 [netV N x ls, tabF 45 47 xt T, .bool poison] (.tuple #[FS 45 0 2 #[], .int .i64 1]) := by
  have c1 := tables40 N x ls xt T hv hz hw
  rw [hb] at c1
  refine Fun.ofN f18 rfl (of_decide_eq_true (by kernel_rfl)) (by kernel_rfl) ?_
  unfold netV at c1 ⊢
  unfold lks at c1 ⊢
  unfold tabF at c1 ⊢
  refine Wp.seq (Wp.text ?_)
  refine md 3 (.pointer (some ⟨0, 0, none⟩)) (Blk.mk 24 true [Value.int .i64 N, Value.iface 48 (Value.iface (List.length ls) (Value.iface x (Value.agg (List.toArray (lcs ls)))))]) ?_
  refine kp 6 (.slice none 0 0) ?_
  refine kp 7 (.int IntKind.i64 0) ?_
  refine WpOps.nil (thenK_at (Wp.seq (Wp.seq (Wp.text ?_))))
  refine kp 8 (.agg #[Value.int .i64 N, Value.iface 48 (Value.iface (List.length ls) (Value.iface x (Value.agg (List.toArray (lcs ls)))))]) ?_
  refine kp 9 (.iface 45 (Value.iface (List.length T) (Value.iface xt (Value.agg (List.toArray (List.map (fun p => rowF 47 (Prod.fst p) (Prod.snd p)) T)))))) ?_
  refine fr 10 40 [Value.agg #[Value.int .i64 N, Value.iface 48 (Value.iface (List.length ls) (Value.iface x (Value.agg (List.toArray (lcs ls)))))], Value.iface 45 (Value.iface (List.length T) (Value.iface xt (Value.agg (List.toArray (List.map (fun p => rowF 47 (Prod.fst p) (Prod.snd p)) T)))))] ?_
  refine WpFun.of (c1) ?_
  refine kp 11 (.bool true) ?_
  refine WpOps.nil (thenK_at (on' (Wp.seq (Wp.text ?_))))
  refine kp 6 (.slice none 0 0) ?_
  refine kp 7 (.int IntKind.i64 1) ?_
  refine WpOps.nil (thenK_at (Wp.ret (thenK_ret ?_)))
  refine endK_retn [Value.slice none 0 0, Value.int IntKind.i64 1] (Value.tuple #[Value.slice none 0 0, Value.int IntKind.i64 1]) (by kernel_rfl) (by kernel_rfl) ?_
  obtain ⟨ti, ht⟩ := E45
  exact ⟨_, by kernel_rfl, .tuple (.cons (.c (.inr ⟨rfl, 45, ti, ht, rfl⟩)) (.cons (.c (.inl rfl)) .nil))⟩
theorem round18_ok (N x : Nat) (ls : List Lk) (f : Nat → Nat → Rt) (poison : Bool) (hN : 1 ≤ N ∧ N ≤ 20) (hl : ∀ l ∈ ls, okLk N l) (hz : ls.length ≤ 17592186044416) (hf : ∀ i j, i < N → j < N → 0 ≤ (f i j).1 ∧ (f i j).1 ≤ 16) (ht : Fun E 40 [netV N x ls, tabM 45 47 N f] (.bool true)) :
    Fun E 18 [netV N x ls, tabM 45 47 N f, .bool poison] (.tuple #[tabM 45 47 N (roundF N (cAt ls) poison f), .int .i64 0]) := by
  have c1 := roundF42 N x ls f poison hN hl hz hf
  have hu : iceV E Heap.none (.tuple #[tabM 45 47 N (roundF N (cAt ls) poison f), .int .i64 0]) = some (.tuple #[tabM 45 47 N (roundF N (cAt ls) poison f), .int .i64 0]) := by
    rw [tabM_eq]
    rfl
  refine Fun.of f18 rfl (of_decide_eq_true (by kernel_rfl)) hu ?_
  rw [tabM_eq, tabM_eq] at *
  unfold netV at c1 ht ⊢
  unfold lks at c1 ht ⊢
  unfold matF at *
  refine Wp.seq (Wp.text ?_)
  refine md 3 (.pointer (some ⟨0, 0, none⟩)) (Blk.mk 24 true [Value.int .i64 (↑N : Int), Value.iface 48 (Value.iface (List.length ls) (Value.iface x (Value.agg (List.toArray (lcs ls)))))]) ?_
  refine kp 6 (.slice none 0 0) ?_
  refine kp 7 (.int IntKind.i64 0) ?_
  refine WpOps.nil (thenK_at (Wp.seq (Wp.seq (Wp.text ?_))))
  refine kp 8 (.agg #[Value.int .i64 (↑N : Int), Value.iface 48 (Value.iface (List.length ls) (Value.iface x (Value.agg (List.toArray (lcs ls)))))]) ?_
  refine kp 9 (.iface 45 (Value.iface N (Value.iface 0 (Value.agg (List.toArray (List.map (fun r => FS 47 N 0 (List.toArray r)) (rowsM N f))))))) ?_
  refine fr 10 40 [Value.agg #[Value.int .i64 (↑N : Int), Value.iface 48 (Value.iface (List.length ls) (Value.iface x (Value.agg (List.toArray (lcs ls)))))], Value.iface 45 (Value.iface N (Value.iface 0 (Value.agg (List.toArray (List.map (fun r => FS 47 N 0 (List.toArray r)) (rowsM N f))))))] ?_
  refine WpFun.of (ht) ?_
  refine kp 11 (.bool false) ?_
  refine WpOps.nil (thenK_at (off' (Wp.skip (thenK_at (Wp.seq (Wp.text ?_))))))
  refine kp 12 (.agg #[Value.int .i64 (↑N : Int), Value.iface 48 (Value.iface (List.length ls) (Value.iface x (Value.agg (List.toArray (lcs ls)))))]) ?_
  refine kp 13 (.iface 45 (Value.iface N (Value.iface 0 (Value.agg (List.toArray (List.map (fun r => FS 47 N 0 (List.toArray r)) (rowsM N f))))))) ?_
  refine kp 14 (.bool poison) ?_
  refine cl 15 42 [Value.agg #[Value.int .i64 (↑N : Int), Value.iface 48 (Value.iface (List.length ls) (Value.iface x (Value.agg (List.toArray (lcs ls)))))], Value.iface 45 (Value.iface N (Value.iface 0 (Value.agg (List.toArray (List.map (fun r => FS 47 N 0 (List.toArray r)) (rowsM N f)))))), Value.bool poison] ?_
  refine WpCall.consume [0] (c1) (by kernel_rfl) (by kernel_rfl) ?_
  refine kp 6 (.iface 45 (Value.iface N (Value.iface 0 (Value.agg (List.toArray (List.map (fun r => FS 47 N 0 (List.toArray r)) (rowsM N (roundF N (cAt ls) poison f)))))))) ?_
  refine kp 7 (.int IntKind.i64 0) ?_
  refine WpOps.nil (thenK_at (Wp.ret ?_))
  refine endK_retn [Value.iface 45 (Value.iface N (Value.iface 0 (Value.agg (List.toArray (List.map (fun r => FS 47 N 0 (List.toArray r)) (rowsM N (roundF N (cAt ls) poison f))))))), Value.int IntKind.i64 0] (Value.tuple #[Value.iface 45 (Value.iface N (Value.iface 0 (Value.agg (List.toArray (List.map (fun r => FS 47 N 0 (List.toArray r)) (rowsM N (roundF N (cAt ls) poison f))))))), Value.int IntKind.i64 0]) (by kernel_rfl) (by kernel_rfl) ?_
  rfl
theorem f19 : E.funcs 19 = some Try.f19 := by kernel_rfl
theorem round19_bad (N : Int) (x : Nat) (ls : List Lk) (xt : Nat) (T : List (Nat × List Rt)) (poison : Bool) (hb : tabOk N ls T = false) (hy : ls.length ≤ 17592186044416) (hz : T.length ≤ 17592186044416) (hw : ∀ p ∈ T, p.2.length ≤ 17592186044416) : Fun E 19 [netV N x ls, tabF 92 93 xt T, .bool poison] (.tuple #[FS 92 0 2 #[], .int .i64 1]) := by
  have c1 := tables45 N x ls xt T (valid26 N x ls hy) hz hw
  rw [hb] at c1
  refine Fun.ofN f19 rfl (of_decide_eq_true (by kernel_rfl)) (by kernel_rfl) ?_
  unfold netV at c1 ⊢
  unfold lks at c1 ⊢
  unfold tabF at c1 ⊢
  refine Wp.seq (Wp.text ?_)
  refine md 3 (.pointer (some ⟨0, 0, none⟩)) (Blk.mk 34 true [Value.int .i64 N, Value.iface 48 (Value.iface (List.length ls) (Value.iface x (Value.agg (List.toArray (lcs ls)))))]) ?_
  refine kp 6 (.slice none 0 0) ?_
  refine kp 7 (.int IntKind.i64 0) ?_
  refine WpOps.nil (thenK_at (Wp.seq (Wp.seq (Wp.text ?_))))
  refine kp 8 (.agg #[Value.int .i64 N, Value.iface 48 (Value.iface (List.length ls) (Value.iface x (Value.agg (List.toArray (lcs ls)))))]) ?_
  refine kp 9 (.iface 92 (Value.iface (List.length T) (Value.iface xt (Value.agg (List.toArray (List.map (fun p => rowF 93 (Prod.fst p) (Prod.snd p)) T)))))) ?_
  refine fr 10 45 [Value.agg #[Value.int .i64 N, Value.iface 48 (Value.iface (List.length ls) (Value.iface x (Value.agg (List.toArray (lcs ls)))))], Value.iface 92 (Value.iface (List.length T) (Value.iface xt (Value.agg (List.toArray (List.map (fun p => rowF 93 (Prod.fst p) (Prod.snd p)) T)))))] ?_
  refine WpFun.of (c1) ?_
  refine kp 11 (.bool true) ?_
  refine WpOps.nil (thenK_at (on' (Wp.seq (Wp.text ?_))))
  refine kp 6 (.slice none 0 0) ?_
  refine kp 7 (.int IntKind.i64 1) ?_
  refine WpOps.nil (thenK_at (Wp.ret (thenK_ret ?_)))
  refine endK_retn [Value.slice none 0 0, Value.int IntKind.i64 1] (Value.tuple #[Value.slice none 0 0, Value.int IntKind.i64 1]) (by kernel_rfl) (by kernel_rfl) ?_
  obtain ⟨ti, ht⟩ := E92
  exact ⟨_, by kernel_rfl, .tuple (.cons (.c (.inr ⟨rfl, 92, ti, ht, rfl⟩)) (.cons (.c (.inl rfl)) .nil))⟩
theorem round19_ok (N x : Nat) (ls : List Lk) (f : Nat → Nat → Rt) (poison : Bool) (c1 : Fun E 47 [netV N x ls, tabM 92 93 N f, .bool poison] (tabM 92 93 N (roundF N (cF ls) poison f))) (ht : Fun E 45 [netV N x ls, tabM 92 93 N f] (.bool true)) :
    Fun E 19 [netV N x ls, tabM 92 93 N f, .bool poison] (.tuple #[tabM 92 93 N (roundF N (cF ls) poison f), .int .i64 0]) := by
  have hu : iceV E Heap.none (.tuple #[tabM 92 93 N (roundF N (cF ls) poison f), .int .i64 0]) = some (.tuple #[tabM 92 93 N (roundF N (cF ls) poison f), .int .i64 0]) := by
    rw [tabM_eq]
    rfl
  refine Fun.of f19 rfl (of_decide_eq_true (by kernel_rfl)) hu ?_
  rw [tabM_eq, tabM_eq] at *
  unfold netV at c1 ht ⊢
  unfold lks at c1 ht ⊢
  unfold matF at *
  refine Wp.seq (Wp.text ?_)
  refine md 3 (.pointer (some ⟨0, 0, none⟩)) (Blk.mk 34 true [Value.int .i64 (↑N : Int), Value.iface 48 (Value.iface (List.length ls) (Value.iface x (Value.agg (List.toArray (lcs ls)))))]) ?_
  refine kp 6 (.slice none 0 0) ?_
  refine kp 7 (.int IntKind.i64 0) ?_
  refine WpOps.nil (thenK_at (Wp.seq (Wp.seq (Wp.text ?_))))
  refine kp 8 (.agg #[Value.int .i64 (↑N : Int), Value.iface 48 (Value.iface (List.length ls) (Value.iface x (Value.agg (List.toArray (lcs ls)))))]) ?_
  refine kp 9 (.iface 92 (Value.iface N (Value.iface 0 (Value.agg (List.toArray (List.map (fun r => FS 93 N 0 (List.toArray r)) (rowsM N f))))))) ?_
  refine fr 10 45 [Value.agg #[Value.int .i64 (↑N : Int), Value.iface 48 (Value.iface (List.length ls) (Value.iface x (Value.agg (List.toArray (lcs ls)))))], Value.iface 92 (Value.iface N (Value.iface 0 (Value.agg (List.toArray (List.map (fun r => FS 93 N 0 (List.toArray r)) (rowsM N f))))))] ?_
  refine WpFun.of (ht) ?_
  refine kp 11 (.bool false) ?_
  refine WpOps.nil (thenK_at (off' (Wp.skip (thenK_at (Wp.seq (Wp.text ?_))))))
  refine kp 12 (.agg #[Value.int .i64 (↑N : Int), Value.iface 48 (Value.iface (List.length ls) (Value.iface x (Value.agg (List.toArray (lcs ls)))))]) ?_
  refine kp 13 (.iface 92 (Value.iface N (Value.iface 0 (Value.agg (List.toArray (List.map (fun r => FS 93 N 0 (List.toArray r)) (rowsM N f))))))) ?_
  refine kp 14 (.bool poison) ?_
  refine fr 15 47 [Value.agg #[Value.int .i64 (↑N : Int), Value.iface 48 (Value.iface (List.length ls) (Value.iface x (Value.agg (List.toArray (lcs ls)))))], Value.iface 92 (Value.iface N (Value.iface 0 (Value.agg (List.toArray (List.map (fun r => FS 93 N 0 (List.toArray r)) (rowsM N f)))))), Value.bool poison] ?_
  refine WpFun.of (c1) ?_
  refine kp 6 (.iface 92 (Value.iface N (Value.iface 0 (Value.agg (List.toArray (List.map (fun r => FS 93 N 0 (List.toArray r)) (rowsM N (roundF N (cF ls) poison f)))))))) ?_
  refine kp 7 (.int IntKind.i64 0) ?_
  refine WpOps.nil (thenK_at (Wp.ret ?_))
  refine endK_retn [Value.iface 92 (Value.iface N (Value.iface 0 (Value.agg (List.toArray (List.map (fun r => FS 93 N 0 (List.toArray r)) (rowsM N (roundF N (cF ls) poison f))))))), Value.int IntKind.i64 0] (Value.tuple #[Value.iface 92 (Value.iface N (Value.iface 0 (Value.agg (List.toArray (List.map (fun r => FS 93 N 0 (List.toArray r)) (rowsM N (roundF N (cF ls) poison f))))))), Value.int IntKind.i64 0]) (by kernel_rfl) (by kernel_rfl) ?_
  rfl

/-! ## copied -/
def fsq (N : Nat) (f : Nat → Nat → Rt) : List Value := (rowsM N f).map fun r => FS 93 N 0 r.toArray
theorem fsq_len {N : Nat} {f : Nat → Nat → Rt} : (fsq N f).length = N := by simp [fsq, rowsM_len]
theorem fsq_flat {N v : Nat} {f : Nat → Nat → Rt} : ((fsq N f).take v).all flat = true := by
  rw [List.all_eq_true]
  intro x hx
  obtain ⟨r, _, rfl⟩ := List.mem_map.1 (List.mem_of_mem_take hx)
  rfl
theorem fsq_snoc {N v : Nat} {f : Nat → Nat → Rt} (h : v < N) : (fsq N f).take v ++ [FS 93 N 0 (rcs ((List.range N).map (f v))).toArray] = (fsq N f).take (v + 1) := by
  rw [List.take_add_one]
  congr 1
  unfold fsq
  rw [List.getElem?_map, rowsM_at h]
  rfl
theorem cell_told {hp : Heap} {b N : Nat} {rl : List Nat} {m : Nat} {cs : List Value} (hr : rl.contains b = false) (hb : hp.get b = some ⟨93, true, cs⟩) (hl : N * 2 = cs.length) (hf : cs.all flat = true) : ToldC E (hp.less rl) rl m (.slice (some ⟨b, 0, none⟩) N N) (FS 93 N 0 cs.toArray) := by
  have hb2 : (hp.less rl).get b = some ⟨93, true, cs⟩ := by
    show (if rl.contains b = true then Option.none else hp.get b) = _
    rw [hr, if_neg (by decide)]
    exact hb
  exact .inr ⟨_, iceC_row (E := E) (hp := hp.less rl) (b := b) (n := N) (c := N) (e := 93) (size := 2) (cells := cs) 3 (by kernel_rfl) hb2 hl hf, .inl rfl⟩
theorem f46 : E.funcs 46 = some Try.f46 := by kernel_rfl
set_option maxHeartbeats 4000000 in
theorem copied46 (N : Nat) (f : Nat → Nat → Rt) (hN : 1 ≤ N ∧ N ≤ 20) : Fun E 46 [tabM 92 93 N f] (tabM 92 93 N f) := by
  refine Fun.of f46 rfl (of_decide_eq_true (by kernel_rfl)) (tabM_ice _ _ _ _) ?_
  rw [tabM_eq]
  unfold matF
  refine Wp.seq (Wp.text ?_)
  refine kp 2 (.slice none 0 0) ?_
  refine WpOps.nil (thenK_at (Wp.seq (Wp.text ?_)))
  refine kp 3 (.slice none 0 0) ?_
  refine WpOps.nil (thenK_at (Wp.seq (Wp.seq (Wp.text ?_))))
  refine kp 4 (.int IntKind.i64 0) ?_
  refine WpOps.nil (thenK_at (Wp.block ?_))
  refine Wp.loop (G := Nat) (fun v => layj [(0, matF 92 93 N (rowsM N f)), (3, oV 0 v), (4, .int .i64 v)]) (fun v => heapOf (oB 92 v ((fsq N f).take v))) (fun v => N - v) (fun v => v ≤ N) 0
    (View.of [] [] _ (by decide) rfl trivial ⟨⟨by kernel_rfl, rfl⟩, ⟨by kernel_rfl, rfl⟩, ⟨by kernel_rfl, rfl⟩, trivial⟩) (Nat.zero_le _) ?_
  intro v hv
  unfold matF
  by_cases hlt : v < N
  · have d1 : decide ((v : Int) < N) = true := decide_eq_true (by omega)
    have g1 : 0 ≤ (v : Int) ∧ (v : Int) < N := by omega
    have u1 := matF_at 93 N (rowsM N f) (rowsM_at (f := f) hlt)
    have a1 : ¬ (0 + N ≤ 0) := by omega
    have a2 : 1 ≤ 16 ∧ (0 + N) * 16 ≤ 140737488355328 ∧ 2 = 2 ∧ 0 + N ≤ 9223372036854775807 := by omega
    have hsn := fsq_snoc (f := f) hlt
    have hrl : N * 2 = (rcs ((List.range N).map (f v))).length := by rw [rcs_len, List.length_map, List.length_range]
    have hrf := rcs_flat ((List.range N).map (f v))
    by_cases hv0 : v = 0
    · rw [oV_z hv0, oB_z hv0]
      refine Wp.seq (Wp.seq (Wp.text ?_))
      refine kp 5 (.int IntKind.i64 (↑v : Int)) ?_
      refine kp 6 (.iface 92 (Value.iface N (Value.iface 0 (Value.agg (List.toArray (List.map (fun r => FS 93 N 0 (List.toArray r)) (rowsM N f))))))) ?_
      refine kp 7 (.int IntKind.i64 (↑N : Int)) ?_
      refine kp 8 (.bool true) ?_ (hop := fun _ => by_fact d1)
      refine WpOps.nil (thenK_at (on' (Wp.skip (thenK_at (Wp.seq (Wp.block (Wp.text ?_)))))))
      refine kp 11 (.slice none 0 0) ?_
      refine md 12 (.slice (some ⟨0, 0, none⟩) 0 0) (Blk.mk 93 true []) ?_
      refine kp 13 (.iface 92 (Value.iface N (Value.iface 0 (Value.agg (List.toArray (List.map (fun r => FS 93 N 0 (List.toArray r)) (rowsM N f))))))) ?_
      refine kp 14 (.int IntKind.i64 (↑v : Int)) ?_
      refine kp 15 (.iface 92 (Value.iface (Int.toNat (↑v : Int) * 1) (Value.agg (List.toArray (List.map (fun r => FS 93 N 0 (List.toArray r)) (rowsM N f)))))) ?_ (hop := fun _ => o_indexI (e := 92) (size := 1) (a := (↑v : Int)) g1)
      refine kp 16 (.iface 93 (Value.iface N (Value.iface 0 (Value.agg (List.toArray (rcs (List.map (f v) (List.range N)))))))) ?_ (hop := fun _ => o_loadI1 (Int.toNat (↑v : Int) * 1) u1)
      refine ra 17 (.slice (some ⟨1, 0, none⟩) (0 + N) (0 + N)) (0) (Blk.mk 93 true ([] ++ Array.toList (List.toArray (rcs (List.map (f v) (List.range N)))))) ?_ (hop := fun _ => o_append (e := 93) (0) (0) (0) _ (0) a1 a2)
      refine md 18 (.slice (some ⟨2, 0, none⟩) 1 1) (Blk.mk 92 true [Value.slice (some ⟨1, 0, none⟩) (0 + N) (0 + N)]) ?_
      refine md 19 (.slice (some ⟨3, 0, none⟩) 1 1) (Blk.mk 92 true [Value.slice (some ⟨1, 0, none⟩) (0 + N) (0 + N)]) ?_
      refine kp 3 (.slice (some ⟨3, 0, none⟩) 1 1) ?_
      refine WpOps.nil (blockK_norm (thenK_at (Wp.text ?_)))
      refine kp 9 (.int IntKind.i64 (↑v : Int)) ?_
      refine kp 10 (.int IntKind.i64 (IntKind.wrap .i64 ((↑v : Int) + 1))) ?_
      refine kp 4 (.int IntKind.i64 (IntKind.wrap .i64 ((↑v : Int) + 1))) ?_
      refine WpOps.nil (thenK_at ?_)
      subst hv0
      refine ⟨0 + 1, by omega, by omega, ?_⟩
      try dsimp only
      rw [oV_own (by omega), oB_own (by omega)]
      have hsn' : [FS 93 N 0 (rcs ((List.range N).map (f 0))).toArray] = (fsq N f).take (0 + 1) := hsn
      rw [Nat.zero_add N]
      refine View.ofI [3] [⟨92, true, (fsq N f).take (0 + 1)⟩] _ (by decide) rfl ⟨⟨[.slice (some ⟨1, 0, none⟩) N N], by kernel_rfl, ?_⟩, trivial⟩ ⟨.w (.un (by kernel_rfl) rfl), .w (.un (by kernel_rfl) rfl), .w (.un (by kernel_rfl) rfl), trivial⟩
      show All2 _ _ ((fsq N f).take (0 + 1))
      rw [← hsn']
      exact .cons (cell_told rfl rfl hrl hrf) .nil
    · rw [oV_own hv0, oB_own hv0]
      have b1 : ¬ (v + 1 ≤ v) := by omega
      have b2 : 1 ≤ 24 ∧ (v + 1) * 24 ≤ 140737488355328 ∧ 1 = 1 ∧ v + 1 ≤ 9223372036854775807 := by omega
      have b3 := cells_whole ((fsq N f).take v) (v * 1) (by rw [List.length_take, fsq_len]; omega)
      refine Wp.seq (Wp.seq (Wp.text ?_))
      refine kp 5 (.int IntKind.i64 (↑v : Int)) ?_
      refine kp 6 (.iface 92 (Value.iface N (Value.iface 0 (Value.agg (List.toArray (List.map (fun r => FS 93 N 0 (List.toArray r)) (rowsM N f))))))) ?_
      refine kp 7 (.int IntKind.i64 (↑N : Int)) ?_
      refine kp 8 (.bool true) ?_ (hop := fun _ => by_fact d1)
      refine WpOps.nil (thenK_at (on' (Wp.skip (thenK_at (Wp.seq (Wp.block (Wp.text ?_)))))))
      refine kp 11 (.slice (some ⟨0, 0, none⟩) v v) ?_
      refine md 12 (.slice (some ⟨1, 0, none⟩) 0 0) (Blk.mk 93 true []) ?_
      refine kp 13 (.iface 92 (Value.iface N (Value.iface 0 (Value.agg (List.toArray (List.map (fun r => FS 93 N 0 (List.toArray r)) (rowsM N f))))))) ?_
      refine kp 14 (.int IntKind.i64 (↑v : Int)) ?_
      refine kp 15 (.iface 92 (Value.iface (Int.toNat (↑v : Int) * 1) (Value.agg (List.toArray (List.map (fun r => FS 93 N 0 (List.toArray r)) (rowsM N f)))))) ?_ (hop := fun _ => o_indexI (e := 92) (size := 1) (a := (↑v : Int)) g1)
      refine kp 16 (.iface 93 (Value.iface N (Value.iface 0 (Value.agg (List.toArray (rcs (List.map (f v) (List.range N)))))))) ?_ (hop := fun _ => o_loadI1 (Int.toNat (↑v : Int) * 1) u1)
      refine ra 17 (.slice (some ⟨2, 0, none⟩) (0 + N) (0 + N)) (1) (Blk.mk 93 true ([] ++ Array.toList (List.toArray (rcs (List.map (f v) (List.range N)))))) ?_ (hop := fun _ => o_append (e := 93) (1) (0) (0) _ (0) a1 a2)
      refine md 18 (.slice (some ⟨3, 0, none⟩) 1 1) (Blk.mk 92 true [Value.slice (some ⟨2, 0, none⟩) (0 + N) (0 + N)]) ?_
      refine ra 19 (.slice (some ⟨4, 0, none⟩) (v + 1) (v + 1)) (0) (Blk.mk 92 true (List.take v (fsq N f) ++ [Value.slice (some ⟨2, 0, none⟩) (0 + N) (0 + N)])) ?_ (hop := fun _ => o_append (e := 92) (0) (0) (v) _ (v) b1 b2 b3)
      refine kp 3 (.slice (some ⟨4, 0, none⟩) (v + 1) (v + 1)) ?_
      refine WpOps.nil (blockK_norm (thenK_at (Wp.text ?_)))
      refine kp 9 (.int IntKind.i64 (↑v : Int)) ?_
      refine kp 10 (.int IntKind.i64 (IntKind.wrap .i64 ((↑v : Int) + 1))) ?_
      refine kp 4 (.int IntKind.i64 (IntKind.wrap .i64 ((↑v : Int) + 1))) ?_
      refine WpOps.nil (thenK_at ?_)
      refine ⟨v + 1, by omega, by omega, ?_⟩
      try dsimp only
      rw [oV_own (by omega), oB_own (by omega)]
      rw [Nat.zero_add N]
      refine View.ofI [4] [⟨92, true, (fsq N f).take (v + 1)⟩] _ (by decide) rfl ⟨⟨(fsq N f).take v ++ [.slice (some ⟨2, 0, none⟩) N N], by kernel_rfl, ?_⟩, trivial⟩ ⟨.w (.un (by kernel_rfl) rfl), .w (.un (by kernel_rfl) rfl), .w (.un (congrArg (Value.int .i64) (wr _ (by omega) (by omega))) rfl), trivial⟩
      show All2 _ _ ((fsq N f).take (v + 1))
      rw [← hsn]
      exact (toldC_flat fsq_flat).append (.cons (cell_told rfl rfl hrl hrf) .nil)
  · obtain rfl : v = N := by omega
    have d1 : decide ((v : Int) < v) = false := decide_eq_false (by omega)
    rw [oV_own (by omega), oB_own (by omega)]
    refine Wp.seq (Wp.seq (Wp.text ?_))
    refine kp 5 (.int IntKind.i64 (↑v : Int)) ?_
    refine kp 6 (.iface 92 (Value.iface v (Value.iface 0 (Value.agg (List.toArray (List.map (fun r => FS 93 v 0 (List.toArray r)) (rowsM v f))))))) ?_
    refine kp 7 (.int IntKind.i64 (↑v : Int)) ?_
    refine kp 8 (.bool false) ?_ (hop := fun _ => by_fact d1)
    refine WpOps.nil (thenK_at (off' (Wp.exit (thenK_exit (thenK_exit (blockK_hit (thenK_at (Wp.seq (Wp.text ?_)))))))))
    refine kp 20 (.slice (some ⟨0, 0, none⟩) v v) ?_
    refine kp 2 (.slice (some ⟨0, 0, none⟩) v v) ?_
    refine WpOps.nil (thenK_at (Wp.ret ?_))
    refine endK_retn [Value.slice (some (Addr.mk 0 0 none)) v v] (Value.slice (some (Addr.mk 0 0 none)) v v) (by kernel_rfl) (by kernel_rfl) ?_
    have e := iceC_row (E := E) (hp := heapOf [⟨92, true, fsq v f⟩]) (b := 0) (n := v) (c := v) (e := 92) (size := 1) (cells := fsq v f) 3 (by kernel_rfl) (by kernel_rfl) (by rw [fsq_len]; omega) (by have := fsq_flat (N := v) (v := v) (f := f); rwa [List.take_of_length_le (by rw [fsq_len]; exact Nat.le_refl _)] at this)
    rw [List.take_of_length_le (by rw [fsq_len]; exact Nat.le_refl _)]
    exact e
end Go.Proofs.Ytfjkanjmggbofaa.D
