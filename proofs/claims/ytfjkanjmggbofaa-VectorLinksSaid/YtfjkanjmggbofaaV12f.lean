/- Costs as a value; tables of one's own. -/
import Derived.Test.YtfjkanjmggbofaaFwLem
import Derived.Test.YtfjkanjmggbofaaV12e
namespace Go.Proofs.Ytfjkanjmggbofaa.D
open Go.Fw Go.RowKit

theorem matC_row {N : Nat} {c : Nat → Nat → Int} {r : List Value} (h : r ∈ matC N c) : r.length = N * 1 := by
  obtain ⟨i, _, rfl⟩ := List.mem_map.1 h
  simp
theorem costsF51 (N x : Nat) (ls : List Lk) (hN : 1 ≤ N ∧ N ≤ 20) (hl : ∀ l ∈ ls, okLk N l) (hz : ls.length ≤ 17592186044416) : Fun E 51 [netV N x ls] (matF 61 3 N (matC N (cAt ls))) := by
  refine (costs51 N x ls hN hl hz).toFun ?_ (matF_ice _ _ _ _)
  refine mat_ice (p := 1) (size := 1) (by kernel_rfl) (by kernel_rfl) matC_len rfl (fun i r h => ?_) (fun r h => matC_row h) (fun r h => matC_flat h)
  exact mH_row (pre := [⟨61, true, rowsV 1 N N⟩]) h

/-! ## tables of N nodes -/
def matT (N : Nat) (f : Nat → Nat → Rt) : List (Nat × List Rt) := (List.range N).map fun i => (0, (List.range N).map (f i))
def tabM (e1 e N : Nat) (f : Nat → Nat → Rt) : Value := tabF e1 e 0 (matT N f)
/-- The rows' cells. -/
def rowsM (N : Nat) (f : Nat → Nat → Rt) : List (List Value) := (List.range N).map fun i => rcs ((List.range N).map (f i))
theorem rowsM_len {N : Nat} {f : Nat → Nat → Rt} : (rowsM N f).length = N := by simp [rowsM]
theorem rowsM_at {N : Nat} {f : Nat → Nat → Rt} {i : Nat} (h : i < N) : (rowsM N f)[i]? = some (rcs ((List.range N).map (f i))) := by simp [rowsM, h]
theorem rowsM_row {N : Nat} {f : Nat → Nat → Rt} {r : List Value} (h : r ∈ rowsM N f) : r.length = N * 2 := by
  obtain ⟨i, _, rfl⟩ := List.mem_map.1 h
  rw [rcs_len, List.length_map, List.length_range]
theorem rowsM_flat {N : Nat} {f : Nat → Nat → Rt} {r : List Value} (h : r ∈ rowsM N f) : r.all flat = true := by
  obtain ⟨i, _, rfl⟩ := List.mem_map.1 h
  exact rcs_flat _
theorem tabM_eq (e1 e N : Nat) (f : Nat → Nat → Rt) : tabM e1 e N f = matF e1 e N (rowsM N f) := by
  unfold tabM tabF matF matT rowsM rowF
  rw [List.map_map, List.map_map, List.length_map, List.length_range]
  congr 2
  refine List.map_congr_left fun i _ => ?_
  show FS e ((List.range N).map (f i)).length 0 _ = FS e N 0 _
  rw [List.length_map, List.length_range]

theorem f64 : E.funcs 64 = some Try.f64 := by kernel_rfl
theorem clone64 (n : Nat) (cs : List Value) (hn : 1 ≤ n ∧ n ≤ 1000) (_hl : cs.length = n * 2) (hf : cs.all flat = true) : Lent E 64 [FS 47 n 0 cs.toArray] [] (.slice (some ⟨0, 0, none⟩) n n) [⟨47, true, cs⟩] := by
  have hok : ([⟨47, true, cs⟩] : List Blk).all (fun x => x.cells.all (okC ([⟨47, true, cs⟩] : List Blk).length)) = true := by
    rw [List.all_cons, List.all_nil, Bool.and_true]
    exact okCs_flat hf
  refine Lent.of f64 rfl (of_decide_eq_true (by kernel_rfl)) rfl rfl (Nat.zero_le _) rfl hok rfl ?_
  have h1 : ¬ (0 + n ≤ 0) := by omega
  have h2 : 1 ≤ 16 ∧ (0 + n) * 16 ≤ 140737488355328 ∧ 2 = 2 ∧ 0 + n ≤ 9223372036854775807 := by omega
  have h3 : n ≠ 0 := by omega
  refine Wp.seq (Wp.text ?_)
  refine kp 2 (.slice none 0 0) ?_
  refine WpOps.nil (thenK_at (Wp.seq (Wp.seq (Wp.text ?_))))
  refine kp 3 (.iface 47 (Value.iface n (Value.iface 0 (Value.agg (List.toArray cs))))) ?_
  refine kp 4 (.bool false) ?_
  refine WpOps.nil (thenK_at (off' (Wp.skip (thenK_at (Wp.seq (Wp.text ?_))))))
  refine md 5 (.slice (some ⟨0, 0, none⟩) 0 0) (Blk.mk 47 true []) ?_
  refine kp 6 (.iface 47 (Value.iface n (Value.iface 0 (Value.agg (List.toArray cs))))) ?_
  refine ra 7 (.slice (some ⟨1, 0, none⟩) (0 + n) (0 + n)) (0) (Blk.mk 47 true ([] ++ Array.toList (List.toArray cs))) ?_ (hop := fun _ => o_append (e := 47) (0) (0) (0) _ (0) h1 h2)
  refine kp 2 (.slice (some ⟨1, 0, none⟩) (0 + n) (0 + n)) ?_
  refine WpOps.nil (thenK_at (Wp.ret ?_))
  refine endK_retn [Value.slice (some (Addr.mk 1 0 none)) (0 + n) (0 + n)] (Value.slice (some (Addr.mk 1 0 none)) (0 + n) (0 + n)) (by kernel_rfl) (by kernel_rfl) ?_
  rw [Nat.zero_add]
  exact ⟨[1], by decide, by kernel_rfl, ⟨⟨cs, by kernel_rfl, toldC_flat hf⟩, trivial⟩, .w (.un rfl rfl)⟩
theorem f63 : E.funcs 63 = some Try.f63 := by kernel_rfl
theorem clone63 (n : Nat) (cs : List Value) (hn : 1 ≤ n ∧ n ≤ 1000) (_hl : cs.length = n * 1) (hf : cs.all flat = true) : Lent E 63 [FS 45 n 0 cs.toArray] [] (.slice (some ⟨0, 0, none⟩) n n) [⟨45, true, cs⟩] := by
  have hok : ([⟨45, true, cs⟩] : List Blk).all (fun x => x.cells.all (okC ([⟨45, true, cs⟩] : List Blk).length)) = true := by
    rw [List.all_cons, List.all_nil, Bool.and_true]
    exact okCs_flat hf
  refine Lent.of f63 rfl (of_decide_eq_true (by kernel_rfl)) rfl rfl (Nat.zero_le _) rfl hok rfl ?_
  have h1 : ¬ (0 + n ≤ 0) := by omega
  have h2 : 1 ≤ 24 ∧ (0 + n) * 24 ≤ 140737488355328 ∧ 1 = 1 ∧ 0 + n ≤ 9223372036854775807 := by omega
  have h3 : n ≠ 0 := by omega
  refine Wp.seq (Wp.text ?_)
  refine kp 2 (.slice none 0 0) ?_
  refine WpOps.nil (thenK_at (Wp.seq (Wp.seq (Wp.text ?_))))
  refine kp 3 (.iface 45 (Value.iface n (Value.iface 0 (Value.agg (List.toArray cs))))) ?_
  refine kp 4 (.bool false) ?_
  refine WpOps.nil (thenK_at (off' (Wp.skip (thenK_at (Wp.seq (Wp.text ?_))))))
  refine md 5 (.slice (some ⟨0, 0, none⟩) 0 0) (Blk.mk 45 true []) ?_
  refine kp 6 (.iface 45 (Value.iface n (Value.iface 0 (Value.agg (List.toArray cs))))) ?_
  refine ra 7 (.slice (some ⟨1, 0, none⟩) (0 + n) (0 + n)) (0) (Blk.mk 45 true ([] ++ Array.toList (List.toArray cs))) ?_ (hop := fun _ => o_append (e := 45) (0) (0) (0) _ (0) h1 h2)
  refine kp 2 (.slice (some ⟨1, 0, none⟩) (0 + n) (0 + n)) ?_
  refine WpOps.nil (thenK_at (Wp.ret ?_))
  refine endK_retn [Value.slice (some (Addr.mk 1 0 none)) (0 + n) (0 + n)] (Value.slice (some (Addr.mk 1 0 none)) (0 + n) (0 + n)) (by kernel_rfl) (by kernel_rfl) ?_
  rw [Nat.zero_add]
  exact ⟨[1], by decide, by kernel_rfl, ⟨⟨cs, by kernel_rfl, toldC_flat hf⟩, trivial⟩, .w (.un rfl rfl)⟩

/-! ## own -/
/-- The rows, as values. -/
def fsr (N : Nat) (f : Nat → Nat → Rt) : List Value := (rowsM N f).map fun r => FS 47 N 0 r.toArray
theorem fsr_len {N : Nat} {f : Nat → Nat → Rt} : (fsr N f).length = N := by simp [fsr, rowsM_len]
theorem fsr_flat {N : Nat} {f : Nat → Nat → Rt} : (fsr N f).all flat = true := by
  rw [List.all_eq_true]
  intro v hv
  obtain ⟨r, _, rfl⟩ := List.mem_map.1 hv
  rfl
/-- Own rows up to v, values from there on. -/
def oo (N : Nat) (f : Nat → Nat → Rt) (v : Nat) : List Value := rowsV 1 N v ++ (fsr N f).drop v
theorem oo_len {N v : Nat} {f : Nat → Nat → Rt} (h : v ≤ N) : (oo N f v).length = N := by simp [oo, rowsV_len, fsr_len]; omega
theorem oo_at {N v : Nat} {f : Nat → Nat → Rt} (h : v < N) : (oo N f v)[0 + (v : Int).toNat * 1]? = some (FS 47 N 0 (rcs ((List.range N).map (f v))).toArray) := by
  rw [Int.toNat_natCast, Nat.zero_add, Nat.mul_one]
  unfold oo
  rw [List.getElem?_append_right (by rw [rowsV_len]; exact Nat.le_refl _), rowsV_len, Nat.sub_self, List.getElem?_drop, Nat.add_zero]
  unfold fsr
  rw [List.getElem?_map, rowsM_at h]
  rfl
theorem oo_set {N v : Nat} {f : Nat → Nat → Rt} (h : v < N) : (oo N f v).set v (.slice (some ⟨v + 1, 0, none⟩) N N) = oo N f (v + 1) := by
  have hd : (fsr N f).drop v = (fsr N f)[v]'(by rw [fsr_len]; exact h) :: (fsr N f).drop (v + 1) := List.drop_eq_getElem_cons _
  unfold oo
  rw [List.set_append_right _ _ (by rw [rowsV_len]; exact Nat.le_refl _), rowsV_len, Nat.sub_self, hd, List.set_cons_zero, rowsV_succ, List.append_assoc]
  rfl
theorem oo_ok {N v m : Nat} {f : Nat → Nat → Rt} (h : v + 1 ≤ m) : (oo N f v).all (okC m) = true := by
  unfold oo
  rw [List.all_append, rowsV_ok (by omega), Bool.true_and, List.all_eq_true]
  intro x hx
  exact okC_flat (List.all_eq_true.1 fsr_flat x (List.mem_of_mem_drop hx))
def wH (N : Nat) (f : Nat → Nat → Rt) (v : Nat) : Heap := mH [⟨45, true, oo N f v⟩] 47 ((rowsM N f).take v)
theorem f41 : E.funcs 41 = some Try.f41 := by kernel_rfl
set_option maxHeartbeats 4000000 in
theorem own41 (N : Nat) (f : Nat → Nat → Rt) (hN : 1 ≤ N ∧ N ≤ 20) : Lent E 41 [tabM 45 47 N f] [] (.slice (some ⟨0, 0, none⟩) N N) (⟨45, true, rowsV 1 N N⟩ :: (rowsM N f).map (rowB 47)) := by
  refine Lent.of f41 rfl (of_decide_eq_true (by kernel_rfl)) rfl (by simp [List.all_map, rowB, rowsM]) (Nat.zero_le _) rfl (matOk rowsM_len (fun r hr => rowsM_flat hr)) (matRes N) ?_
  rw [tabM_eq]
  unfold matF
  have c1 := clone63 N (fsr N f) (by omega) (by rw [fsr_len]; omega) fsr_flat
  unfold fsr at c1
  have hff := fsr_flat (N := N) (f := f)
  unfold fsr at hff
  refine Wp.seq (Wp.text ?_)
  refine kp 2 (.slice none 0 0) ?_
  refine WpOps.nil (thenK_at (Wp.seq (Wp.text ?_)))
  refine kp 5 (.iface 45 (Value.iface N (Value.iface 0 (Value.agg (List.toArray (List.map (fun r => FS 47 N 0 (List.toArray r)) (rowsM N f))))))) ?_
  refine cl 6 63 [Value.iface 45 (Value.iface N (Value.iface 0 (Value.agg (List.toArray (List.map (fun r => FS 47 N 0 (List.toArray r)) (rowsM N f))))))] ?_
  refine WpCall.lent [] (c1) (by decide) trivial (by kernel_rfl) (Value.slice (some (Addr.mk (List.getD [0] 0 0) 0 none)) N N) ([Blk.mk 45 true (List.map (fun r => FS 47 N 0 (List.toArray r)) (rowsM N f))]) (.cons (unB_flat (by assumption)) .nil) (by kernel_rfl) (Heap.alloc (heapOf []) (Blk.mk 45 true (List.map (fun r => FS 47 N 0 (List.toArray r)) (rowsM N f)))) (by kernel_rfl) ?_
  refine kp 3 (.slice (some ⟨0, 0, none⟩) N N) ?_
  refine WpOps.nil (thenK_at (Wp.seq (Wp.seq (Wp.text ?_))))
  refine kp 7 (.slice (some ⟨0, 0, none⟩) N N) ?_
  refine kp 8 (.int IntKind.i64 (↑N : Int)) ?_
  refine kp 9 (.int IntKind.i64 0) ?_
  refine WpOps.nil (thenK_at (Wp.block ?_))
  refine Wp.loop (G := Nat) (fun v => layj [(3, .slice (some ⟨0, 0, none⟩) N N), (8, .int .i64 N), (9, .int .i64 v)]) (fun v => wH N f v) (fun v => N - v) (fun v => v ≤ N) 0
    ?_ (Nat.zero_le _) ?_
  · refine View.mat [⟨45, true, oo N f 0⟩] 47 ((rowsM N f).take 0) _ (Nat.zero_le _) (pre1 ⟨rfl, oo_ok (by simp)⟩) (fun i r h => by simp at h) ⟨⟨by kernel_rfl, okV_sl (by simp)⟩, ⟨by kernel_rfl, rfl⟩, ⟨by kernel_rfl, rfl⟩, trivial⟩
  intro v hv
  by_cases hlt : v < N
  · have d1 : decide ((v : Int) < N) = true := decide_eq_true (by omega)
    have g1 : 0 ≤ (v : Int) ∧ (v : Int) < N := by omega
    have hnx : (wH N f v).next = v + 1 := by unfold wH; rw [mH_next, List.length_take, rowsM_len]; simp; omega
    have k0 : (wH N f v).get 0 = some ⟨45, true, oo N f v⟩ := rfl
    have u1 := oo_at (f := f) hlt
    have hcf := rcs_flat ((List.range N).map (f v))
    have c2 := clone64 N (rcs ((List.range N).map (f v))) (by omega) (by rw [rcs_len, List.length_map, List.length_range]) hcf
    have q1 : true = true ∧ 0 + (v : Int).toNat * 1 + [Value.slice (some { block := (wH N f v).next, off := 0 }) N N].length ≤ (oo N f v).length := ⟨rfl, by rw [oo_len hv]; simp; omega⟩
    refine Wp.seq (Wp.text ?_)
    refine kp 10 (.bool true) ?_ (hop := fun _ => by_fact d1)
    refine WpOps.nil (thenK_at (Wp.seq (on' (Wp.skip (thenK_at (Wp.seq (Wp.block (Wp.seq (Wp.text ?_)))))))))
    refine kp 11 (.int IntKind.i64 (↑v : Int)) ?_
    refine kp 4 (.int IntKind.i64 (↑v : Int)) ?_
    refine WpOps.nil (thenK_at (Wp.text ?_))
    refine kp 12 (.slice (some ⟨0, 0, none⟩) N N) ?_
    refine kp 13 (.int IntKind.i64 (↑v : Int)) ?_
    refine kp 14 (.slice (some ⟨0, 0, none⟩) N N) ?_
    refine kp 15 (.int IntKind.i64 (↑v : Int)) ?_
    refine kp 16 (.pointer (some (Addr.mk 0 (0 + Int.toNat (↑v : Int) * 1) none))) ?_ (hop := fun _ => o_indexAddr (a := (↑v : Int)) (bl := 0) (off := 0) (size := 1) 45 (N) g1)
    refine kp 17 (.iface 47 (Value.iface N (Value.iface 0 (Value.agg (List.toArray (rcs (List.map (f v) (List.range N)))))))) ?_ (hop := fun _ => o_load1 (0) (0 + Int.toNat (↑v : Int) * 1) u1)
    refine cl 18 64 [Value.iface 47 (Value.iface N (Value.iface 0 (Value.agg (List.toArray (rcs (List.map (f v) (List.range N)))))))] ?_
    refine WpCall.fresh1 c2 hcf ?_
    refine kp 19 (.pointer (some (Addr.mk 0 (0 + Int.toNat (↑v : Int) * 1) none))) ?_ (hop := fun _ => o_indexAddr (a := (↑v : Int)) (bl := 0) (off := 0) (size := 1) 45 (N) g1)
    refine ld (.tuple #[]) (0) (Blk.mk 45 true (List.set (oo N f v) (0 + Int.toNat (↑v : Int) * 1) (Value.slice (some (Addr.mk (Heap.next (wH N f v)) 0 none)) N N))) ?_ (hop := fun _ => o_store1 (0) (0 + Int.toNat (↑v : Int) * 1) q1)
    refine WpOps.nil (blockK_norm (thenK_at (Wp.text ?_)))
    refine kp 20 (.int IntKind.i64 (IntKind.wrap .i64 ((↑v : Int) + 1))) ?_
    refine kp 9 (.int IntKind.i64 (IntKind.wrap .i64 ((↑v : Int) + 1))) ?_
    refine WpOps.nil (thenK_at ?_)
    refine ⟨v + 1, by omega, by omega, ?_⟩
    have htk : ((rowsM N f).take (v + 1)).length = v + 1 := by rw [List.length_take, rowsM_len]; omega
    refine View.mat [⟨45, true, oo N f (v + 1)⟩] 47 ((rowsM N f).take (v + 1)) _ (Nat.zero_le _) (pre1 ⟨?_, oo_ok (by rw [htk]; simp; omega)⟩) (fun i r h => ⟨?_, okCs_flat (rowsM_flat (List.mem_of_mem_take (List.mem_of_getElem? h)))⟩) ⟨⟨by kernel_rfl, okV_sl (by simp; omega)⟩, ⟨by kernel_rfl, rfl⟩, ⟨congrArg (Value.int .i64) (wr _ (by omega) (by omega)), rfl⟩, trivial⟩
    · rw [Heap.get_set, if_pos rfl, hnx, ← oo_set hlt, Int.toNat_natCast, Nat.zero_add, Nat.mul_one]
    · have hi : i < v + 1 := by
        have := (List.getElem?_eq_some_iff.1 h).1
        rwa [htk] at this
      rw [List.getElem?_take, if_pos hi] at h
      show Heap.get _ (i + 1) = _
      rw [Heap.get_set, if_neg (by omega), Heap.get_alloc, hnx]
      by_cases e : i = v
      · subst e
        rw [if_pos rfl]
        rw [rowsM_at hlt] at h
        rw [← Option.some.inj h]
        rfl
      · rw [if_neg (by omega)]
        exact mH_row (pre := [⟨45, true, oo N f v⟩]) (by rw [List.getElem?_take, if_pos (by omega)]; exact h)
  · obtain rfl : v = N := by omega
    have d1 : decide ((v : Int) < v) = false := decide_eq_false (by omega)
    refine Wp.seq (Wp.text ?_)
    refine kp 10 (.bool false) ?_ (hop := fun _ => by_fact d1)
    refine WpOps.nil (thenK_at (Wp.seq (off' (Wp.exit (thenK_exit (thenK_exit (blockK_hit (thenK_at (Wp.seq (Wp.text ?_))))))))))
    refine kp 21 (.slice (some ⟨0, 0, none⟩) v v) ?_
    refine kp 2 (.slice (some ⟨0, 0, none⟩) v v) ?_
    refine WpOps.nil (thenK_at (Wp.ret ?_))
    refine endK_retn [Value.slice (some (Addr.mk 0 0 none)) v v] (Value.slice (some (Addr.mk 0 0 none)) v v) (by kernel_rfl) (by kernel_rfl) ?_
    have e := lentMat (E := E) [⟨45, true, rowsV 1 v v⟩] 47 45 (rowsM v f) 0 v rowsM_len rfl (fun r hr => rowsM_flat hr)
    have e1 : oo v f v = rowsV 1 v v := by
      unfold oo
      rw [List.drop_eq_nil_of_le (by rw [fsr_len]; exact Nat.le_refl _), List.append_nil]
    unfold wH
    rw [e1, List.take_of_length_le (by rw [rowsM_len]; exact Nat.le_refl _)]
    exact e
end Go.Proofs.Ytfjkanjmggbofaa.D
