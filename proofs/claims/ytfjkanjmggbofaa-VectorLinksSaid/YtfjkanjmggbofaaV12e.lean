/- Tables of the reference out of those of the program: the law's own function. -/
import Derived.Test.YtfjkanjmggbofaaFwLem
import Derived.Test.YtfjkanjmggbofaaV12d
namespace Go.Proofs.Ytfjkanjmggbofaa.D
open Go.Fw Go.RowKit

def oV (b k : Nat) : Value := if k = 0 then .slice none 0 0 else .slice (some ⟨b, 0, none⟩) k k
def oB (t : TypeId) (k : Nat) (cs : List Value) : List Blk := if k = 0 then [] else [⟨t, true, cs⟩]
theorem oV_nil (b : Nat) : oV b 0 = .slice none 0 0 := rfl
theorem oV_own {b k : Nat} (h : ¬ k = 0) : oV b k = .slice (some ⟨b, 0, none⟩) k k := if_neg h
theorem oB_nil (t : TypeId) (cs : List Value) : oB t 0 cs = [] := rfl
theorem oB_own {t : TypeId} {k : Nat} {cs : List Value} (h : ¬ k = 0) : oB t k cs = [⟨t, true, cs⟩] := if_neg h
theorem oV_z {b k : Nat} (h : k = 0) : oV b k = .slice none 0 0 := if_pos h
theorem oB_z {t : TypeId} {k : Nat} {cs : List Value} (h : k = 0) : oB t k cs = [] := if_pos h
theorem rcs_snoc (l : List Rt) (k : Nat) (h : k < l.length) : rcs (l.take k) ++ rc (l.getD k (0, 0)) = rcs (l.take (k + 1)) := by
  unfold rcs
  rw [List.take_add_one, List.flatMap_append, List.getD_eq_getElem?_getD, List.getElem?_eq_getElem h]
  simp
theorem E93 : ∃ ti, E.types 93 = some ti := by
  have : (E.types 93).map TI.size = some 2 := by kernel_rfl
  obtain ⟨ti, h, _⟩ := Option.map_eq_some_iff.1 this
  exact ⟨ti, h⟩
theorem E92 : ∃ ti, E.types 92 = some ti := by
  have : (E.types 92).map TI.size = some 1 := by kernel_rfl
  obtain ⟨ti, h, _⟩ := Option.map_eq_some_iff.1 this
  exact ⟨ti, h⟩
/-- A row that is not written any more. -/
def rowT (e : Nat) (l : List Rt) : Value := rowF e (if l.length = 0 then 2 else 0) l
theorem rowT_flat (e : Nat) (l : List Rt) : flat (rowT e l) = true := rfl
theorem row_toldV {hp : Heap} {b : Nat} {rl : List Nat} {m : Nat} (l : List Rt) (hr : rl.contains b = false) (hb : ¬ l.length = 0 → hp.get b = some ⟨93, true, rcs l⟩) : ToldV E (hp.less rl) rl m (oV b l.length) (rowT 93 l) := by
  unfold rowT
  by_cases h0 : l.length = 0
  · rw [h0, oV_nil, if_pos rfl]
    obtain rfl := List.eq_nil_of_length_eq_zero h0
    obtain ⟨ti, ht⟩ := E93
    exact .w (.ice (.slice none 0 0) (by kernel_rfl) (.c (.inr ⟨rfl, 93, ti, ht, rfl⟩)))
  · rw [oV_own h0, if_neg h0]
    have hb2 : (hp.less rl).get b = some ⟨93, true, rcs l⟩ := by
      show (if rl.contains b = true then Option.none else hp.get b) = _
      rw [hr, if_neg (by decide)]
      exact hb h0
    have h := iceC_row (E := E) (hp := hp.less rl) (b := b) (n := l.length) (c := l.length) (e := 93) (size := 2) (cells := rcs l) 3 (by kernel_rfl) hb2 (rcs_len l).symm (rcs_flat l)
    exact .w (.ice _ h (.c (.inl rfl)))
def ocs (e : Nat) (T : List (Nat × List Rt)) : List Value := T.map fun p => rowT e p.2
theorem ocs_flat (e : Nat) (T : List (Nat × List Rt)) : (ocs e T).all flat = true := by
  rw [List.all_eq_true]
  intro v hv
  obtain ⟨p, _, rfl⟩ := List.mem_map.1 hv
  rfl
theorem ocs_snoc (e : Nat) (T : List (Nat × List Rt)) (v : Nat) (h : v < T.length) : ocs e (T.take v) ++ [rowT e (T.getD v (0, [])).2] = ocs e (T.take (v + 1)) := by
  unfold ocs
  rw [List.take_add_one, List.map_append, List.getD_eq_getElem?_getD, List.getElem?_eq_getElem h]
  simp
theorem ocs_len (e : Nat) (T : List (Nat × List Rt)) : (ocs e T).length = T.length := by simp [ocs]
/-- The tables of the reference, as a value. -/
def tabT (T : List (Nat × List Rt)) : Value := FS 92 T.length (if T.length = 0 then 2 else 0) (ocs 93 T).toArray
theorem f15 : E.funcs 15 = some Try.f15 := by kernel_rfl
set_option maxHeartbeats 4000000 in
theorem tables15 (x : Nat) (T : List (Nat × List Rt)) (hz : T.length * 24 ≤ 140737488351232) (hw : ∀ p ∈ T, p.2.length * 16 ≤ 140737488351232) : Fun E 15 [tabF 45 47 x T] (tabT T) := by
  refine Fun.ofN f15 rfl (of_decide_eq_true (by kernel_rfl)) (by kernel_rfl) ?_
  unfold tabF
  refine Wp.seq (Wp.text ?_)
  refine kp 2 (.slice none 0 0) ?_
  refine WpOps.nil (thenK_at (Wp.seq (Wp.text ?_)))
  refine kp 3 (.slice none 0 0) ?_
  refine WpOps.nil (thenK_at (Wp.seq (Wp.seq (Wp.text ?_))))
  refine kp 4 (.int IntKind.i64 0) ?_
  refine WpOps.nil (thenK_at (Wp.block ?_))
  refine Wp.loop (G := Nat) (fun v => layj [(0, tabF 45 47 x T), (3, oV 0 v), (4, .int .i64 v)]) (fun v => heapOf (oB 92 v (ocs 93 (T.take v)))) (fun v => T.length - v) (fun v => v ≤ T.length) 0
    (View.of [] [] _ (by decide) rfl trivial ⟨⟨by kernel_rfl, rfl⟩, ⟨by kernel_rfl, rfl⟩, ⟨by kernel_rfl, rfl⟩, trivial⟩) (Nat.zero_le _) ?_
  intro v hv
  by_cases hlt : v < T.length
  · have d1 : decide ((v : Int) < T.length) = true := decide_eq_true (by omega)
    have g1 : 0 ≤ (v : Int) ∧ (v : Int) < T.length := by omega
    have v1 := tab_at 47 T v (0, []) hlt
    obtain ⟨p, hpT⟩ : ∃ p, p = T.getD v (0, []) := ⟨_, rfl⟩
    have hpm : p ∈ T := by
      rw [hpT, List.getD_eq_getElem?_getD, List.getElem?_eq_getElem hlt]
      exact List.getElem_mem _
    have hwp := hw p hpm
    have hsn := ocs_snoc 93 T v hlt
    rw [← hpT] at v1 hsn
    obtain ⟨xr, l⟩ := p
    unfold rowF at v1
    dsimp only at v1 hwp hsn
    unfold tabF
    by_cases hv0 : v = 0
    · rw [oV_z hv0, oB_z hv0]
      refine Wp.seq (Wp.seq (Wp.text ?_))
      refine kp 7 (.int IntKind.i64 (↑v : Int)) ?_
      refine kp 8 (.iface 45 (Value.iface (List.length T) (Value.iface x (Value.agg (List.toArray (List.map (fun p => rowF 47 (Prod.fst p) (Prod.snd p)) T)))))) ?_
      refine kp 9 (.int IntKind.i64 (↑(List.length T) : Int)) ?_
      refine kp 10 (.bool true) ?_ (hop := fun _ => by_fact d1)
      refine WpOps.nil (thenK_at (on' (Wp.skip (thenK_at (Wp.seq (Wp.block (Wp.seq (Wp.text ?_))))))))
      refine kp 5 (.slice none 0 0) ?_
      refine WpOps.nil (thenK_at (Wp.seq (Wp.seq (Wp.text ?_))))
      refine kp 6 (.int IntKind.i64 0) ?_
      refine WpOps.nil (thenK_at (Wp.block ?_))
      refine Wp.loop (G := Nat) (fun k => layj [(0, tabF 45 47 x T), (3, .slice none 0 0), (4, .int .i64 v), (5, oV 0 k), (6, .int .i64 k)]) (fun k => heapOf (oB 93 k (rcs (l.take k)))) (fun k => l.length - k) (fun k => k ≤ l.length) 0
        (View.of [] [] _ (by decide) rfl trivial ⟨⟨by kernel_rfl, rfl⟩, ⟨by kernel_rfl, rfl⟩, ⟨by kernel_rfl, rfl⟩, ⟨by kernel_rfl, rfl⟩, ⟨by kernel_rfl, rfl⟩, trivial⟩) (Nat.zero_le _) ?_
      intro k hk
      unfold tabF
      by_cases hlt2 : k < l.length
      · have d2 : decide ((k : Int) < l.length) = true := decide_eq_true (by omega)
        have g2 : 0 ≤ (k : Int) ∧ (k : Int) < l.length := by omega
        obtain ⟨v2, v3⟩ := rcs_at l k (0, 0) hlt2
        have hsn2 := rcs_snoc l k hlt2
        by_cases hk0 : k = 0
        · rw [oV_z hk0, oB_z hk0]
          refine Wp.seq (Wp.seq (Wp.text ?_))
          refine kp 13 (.int IntKind.i64 (↑k : Int)) ?_
          refine kp 14 (.iface 45 (Value.iface (List.length T) (Value.iface x (Value.agg (List.toArray (List.map (fun p => rowF 47 (Prod.fst p) (Prod.snd p)) T)))))) ?_
          refine kp 15 (.int IntKind.i64 (↑v : Int)) ?_
          refine kp 16 (.iface 45 (Value.iface (Int.toNat (↑v : Int) * 1) (Value.agg (List.toArray (List.map (fun p => rowF 47 (Prod.fst p) (Prod.snd p)) T))))) ?_ (hop := fun _ => o_indexI (e := 45) (size := 1) (a := (↑v : Int)) g1)
          refine kp 17 (.iface 47 (Value.iface (List.length l) (Value.iface xr (Value.agg (List.toArray (rcs l)))))) ?_ (hop := fun _ => o_loadI1 (Int.toNat (↑v : Int) * 1) v1)
          refine kp 18 (.int IntKind.i64 (↑(List.length l) : Int)) ?_
          refine kp 19 (.bool true) ?_ (hop := fun _ => by_fact d2)
          refine WpOps.nil (thenK_at (on' (Wp.skip (thenK_at (Wp.seq (Wp.block ?_))))))
          refine Wp.region (by kernel_rfl) ?_
          refine kp 22 (.slice none 0 0) ?_
          refine kp 23 (.iface 45 (Value.iface (List.length T) (Value.iface x (Value.agg (List.toArray (List.map (fun p => rowF 47 (Prod.fst p) (Prod.snd p)) T)))))) ?_
          refine kp 24 (.int IntKind.i64 (↑v : Int)) ?_
          refine kp 25 (.iface 45 (Value.iface (Int.toNat (↑v : Int) * 1) (Value.agg (List.toArray (List.map (fun p => rowF 47 (Prod.fst p) (Prod.snd p)) T))))) ?_ (hop := fun _ => o_indexI (e := 45) (size := 1) (a := (↑v : Int)) g1)
          refine kp 26 (.iface 47 (Value.iface (List.length l) (Value.iface xr (Value.agg (List.toArray (rcs l)))))) ?_ (hop := fun _ => o_loadI1 (Int.toNat (↑v : Int) * 1) v1)
          refine kp 27 (.int IntKind.i64 (↑k : Int)) ?_
          refine kp 28 (.iface 47 (Value.iface (Int.toNat (↑k : Int) * 2) (Value.agg (List.toArray (rcs l))))) ?_ (hop := fun _ => o_indexI (e := 47) (size := 2) (a := (↑k : Int)) g2)
          refine kp 29 (.iface 47 (Value.iface (Int.toNat (↑k : Int) * 2 + 0) (Value.agg (List.toArray (rcs l))))) ?_
          refine kp 30 (.int IntKind.i64 (Prod.fst (List.getD l k (0, 0)))) ?_ (hop := fun _ => o_loadI1 (Int.toNat (↑k : Int) * 2 + 0) v2)
          refine kp 31 (.iface 45 (Value.iface (List.length T) (Value.iface x (Value.agg (List.toArray (List.map (fun p => rowF 47 (Prod.fst p) (Prod.snd p)) T)))))) ?_
          refine kp 32 (.int IntKind.i64 (↑v : Int)) ?_
          refine kp 33 (.iface 45 (Value.iface (Int.toNat (↑v : Int) * 1) (Value.agg (List.toArray (List.map (fun p => rowF 47 (Prod.fst p) (Prod.snd p)) T))))) ?_ (hop := fun _ => o_indexI (e := 45) (size := 1) (a := (↑v : Int)) g1)
          refine kp 34 (.iface 47 (Value.iface (List.length l) (Value.iface xr (Value.agg (List.toArray (rcs l)))))) ?_ (hop := fun _ => o_loadI1 (Int.toNat (↑v : Int) * 1) v1)
          refine kp 35 (.int IntKind.i64 (↑k : Int)) ?_
          refine kp 36 (.iface 47 (Value.iface (Int.toNat (↑k : Int) * 2) (Value.agg (List.toArray (rcs l))))) ?_ (hop := fun _ => o_indexI (e := 47) (size := 2) (a := (↑k : Int)) g2)
          refine kp 37 (.iface 47 (Value.iface (Int.toNat (↑k : Int) * 2 + 1) (Value.agg (List.toArray (rcs l))))) ?_
          refine kp 38 (.int IntKind.i64 (Prod.snd (List.getD l k (0, 0)))) ?_ (hop := fun _ => o_loadI1 (Int.toNat (↑k : Int) * 2 + 1) v3)
          refine kp 39 (.agg #[Value.int .i64 (Prod.fst (List.getD l k (0, 0))), Value.int .i64 (Prod.snd (List.getD l k (0, 0)))]) ?_
          refine md 40 (.slice (some ⟨0, 0, none⟩) 1 1) (Blk.mk 93 true [Value.int .i64 (Prod.fst (List.getD l k (0, 0))), Value.int .i64 (Prod.snd (List.getD l k (0, 0)))]) ?_
          refine md 41 (.slice (some ⟨1, 0, none⟩) 1 1) (Blk.mk 93 true [Value.int .i64 (Prod.fst (List.getD l k (0, 0))), Value.int .i64 (Prod.snd (List.getD l k (0, 0)))]) ?_
          refine kp 5 (.slice (some ⟨1, 0, none⟩) 1 1) ?_
          refine WpOps.nil (blockK_norm (thenK_at (Wp.text ?_)))
          refine kp 20 (.int IntKind.i64 (↑k : Int)) ?_
          refine kp 21 (.int IntKind.i64 (IntKind.wrap .i64 ((↑k : Int) + 1))) ?_
          refine kp 6 (.int IntKind.i64 (IntKind.wrap .i64 ((↑k : Int) + 1))) ?_
          refine WpOps.nil (thenK_at ?_)
          subst hk0
          refine ⟨0 + 1, by omega, by omega, ?_⟩
          try dsimp only
          rw [oV_own (by omega), oB_own (by omega)]
          have e3 : rc (l.getD 0 (0, 0)) = rcs (l.take (0 + 1)) := hsn2
          exact View.of [1] [⟨93, true, rcs (l.take (0 + 1))⟩] _ (by decide) rfl ⟨⟨_, by kernel_rfl, CellsOk.eq e3 (rcs_flat _)⟩, trivial⟩ ⟨⟨by kernel_rfl, rfl⟩, ⟨by kernel_rfl, rfl⟩, ⟨by kernel_rfl, rfl⟩, ⟨by kernel_rfl, rfl⟩, ⟨by kernel_rfl, rfl⟩, trivial⟩
        · rw [oV_own hk0, oB_own hk0]
          have b1 : ¬ (k + 1 ≤ k) := by omega
          have b2 : 1 ≤ 16 ∧ (k + 1) * 16 ≤ 140737488355328 ∧ 2 = 2 ∧ k + 1 ≤ 9223372036854775807 := by omega
          have b3 := cells_whole (rcs (l.take k)) (k * 2) (by rw [rcs_len, List.length_take]; omega)
          refine Wp.seq (Wp.seq (Wp.text ?_))
          refine kp 13 (.int IntKind.i64 (↑k : Int)) ?_
          refine kp 14 (.iface 45 (Value.iface (List.length T) (Value.iface x (Value.agg (List.toArray (List.map (fun p => rowF 47 (Prod.fst p) (Prod.snd p)) T)))))) ?_
          refine kp 15 (.int IntKind.i64 (↑v : Int)) ?_
          refine kp 16 (.iface 45 (Value.iface (Int.toNat (↑v : Int) * 1) (Value.agg (List.toArray (List.map (fun p => rowF 47 (Prod.fst p) (Prod.snd p)) T))))) ?_ (hop := fun _ => o_indexI (e := 45) (size := 1) (a := (↑v : Int)) g1)
          refine kp 17 (.iface 47 (Value.iface (List.length l) (Value.iface xr (Value.agg (List.toArray (rcs l)))))) ?_ (hop := fun _ => o_loadI1 (Int.toNat (↑v : Int) * 1) v1)
          refine kp 18 (.int IntKind.i64 (↑(List.length l) : Int)) ?_
          refine kp 19 (.bool true) ?_ (hop := fun _ => by_fact d2)
          refine WpOps.nil (thenK_at (on' (Wp.skip (thenK_at (Wp.seq (Wp.block ?_))))))
          refine Wp.region (by kernel_rfl) ?_
          refine kp 22 (.slice (some ⟨0, 0, none⟩) k k) ?_
          refine kp 23 (.iface 45 (Value.iface (List.length T) (Value.iface x (Value.agg (List.toArray (List.map (fun p => rowF 47 (Prod.fst p) (Prod.snd p)) T)))))) ?_
          refine kp 24 (.int IntKind.i64 (↑v : Int)) ?_
          refine kp 25 (.iface 45 (Value.iface (Int.toNat (↑v : Int) * 1) (Value.agg (List.toArray (List.map (fun p => rowF 47 (Prod.fst p) (Prod.snd p)) T))))) ?_ (hop := fun _ => o_indexI (e := 45) (size := 1) (a := (↑v : Int)) g1)
          refine kp 26 (.iface 47 (Value.iface (List.length l) (Value.iface xr (Value.agg (List.toArray (rcs l)))))) ?_ (hop := fun _ => o_loadI1 (Int.toNat (↑v : Int) * 1) v1)
          refine kp 27 (.int IntKind.i64 (↑k : Int)) ?_
          refine kp 28 (.iface 47 (Value.iface (Int.toNat (↑k : Int) * 2) (Value.agg (List.toArray (rcs l))))) ?_ (hop := fun _ => o_indexI (e := 47) (size := 2) (a := (↑k : Int)) g2)
          refine kp 29 (.iface 47 (Value.iface (Int.toNat (↑k : Int) * 2 + 0) (Value.agg (List.toArray (rcs l))))) ?_
          refine kp 30 (.int IntKind.i64 (Prod.fst (List.getD l k (0, 0)))) ?_ (hop := fun _ => o_loadI1 (Int.toNat (↑k : Int) * 2 + 0) v2)
          refine kp 31 (.iface 45 (Value.iface (List.length T) (Value.iface x (Value.agg (List.toArray (List.map (fun p => rowF 47 (Prod.fst p) (Prod.snd p)) T)))))) ?_
          refine kp 32 (.int IntKind.i64 (↑v : Int)) ?_
          refine kp 33 (.iface 45 (Value.iface (Int.toNat (↑v : Int) * 1) (Value.agg (List.toArray (List.map (fun p => rowF 47 (Prod.fst p) (Prod.snd p)) T))))) ?_ (hop := fun _ => o_indexI (e := 45) (size := 1) (a := (↑v : Int)) g1)
          refine kp 34 (.iface 47 (Value.iface (List.length l) (Value.iface xr (Value.agg (List.toArray (rcs l)))))) ?_ (hop := fun _ => o_loadI1 (Int.toNat (↑v : Int) * 1) v1)
          refine kp 35 (.int IntKind.i64 (↑k : Int)) ?_
          refine kp 36 (.iface 47 (Value.iface (Int.toNat (↑k : Int) * 2) (Value.agg (List.toArray (rcs l))))) ?_ (hop := fun _ => o_indexI (e := 47) (size := 2) (a := (↑k : Int)) g2)
          refine kp 37 (.iface 47 (Value.iface (Int.toNat (↑k : Int) * 2 + 1) (Value.agg (List.toArray (rcs l))))) ?_
          refine kp 38 (.int IntKind.i64 (Prod.snd (List.getD l k (0, 0)))) ?_ (hop := fun _ => o_loadI1 (Int.toNat (↑k : Int) * 2 + 1) v3)
          refine kp 39 (.agg #[Value.int .i64 (Prod.fst (List.getD l k (0, 0))), Value.int .i64 (Prod.snd (List.getD l k (0, 0)))]) ?_
          refine md 40 (.slice (some ⟨1, 0, none⟩) 1 1) (Blk.mk 93 true [Value.int .i64 (Prod.fst (List.getD l k (0, 0))), Value.int .i64 (Prod.snd (List.getD l k (0, 0)))]) ?_
          refine ra 41 (.slice (some ⟨2, 0, none⟩) (k + 1) (k + 1)) (0) (Blk.mk 93 true (rcs (List.take k l) ++ [Value.int .i64 (Prod.fst (List.getD l k (0, 0))), Value.int .i64 (Prod.snd (List.getD l k (0, 0)))])) ?_ (hop := fun _ => o_append (e := 93) (0) (0) (k) _ (k) b1 b2 b3)
          refine kp 5 (.slice (some ⟨2, 0, none⟩) (k + 1) (k + 1)) ?_
          refine WpOps.nil (blockK_norm (thenK_at (Wp.text ?_)))
          refine kp 20 (.int IntKind.i64 (↑k : Int)) ?_
          refine kp 21 (.int IntKind.i64 (IntKind.wrap .i64 ((↑k : Int) + 1))) ?_
          refine kp 6 (.int IntKind.i64 (IntKind.wrap .i64 ((↑k : Int) + 1))) ?_
          refine WpOps.nil (thenK_at ?_)
          refine ⟨k + 1, by omega, by omega, ?_⟩
          try dsimp only
          rw [oV_own (by omega), oB_own (by omega)]
          exact View.of [2] [⟨93, true, rcs (l.take (k + 1))⟩] _ (by decide) rfl ⟨⟨_, by kernel_rfl, CellsOk.eq hsn2 (rcs_flat _)⟩, trivial⟩ ⟨⟨by kernel_rfl, rfl⟩, ⟨by kernel_rfl, rfl⟩, ⟨by kernel_rfl, rfl⟩, ⟨by kernel_rfl, rfl⟩, ⟨congrArg (Value.int .i64) (wr _ (by omega) (by omega)), rfl⟩, trivial⟩
      · obtain rfl : k = l.length := by omega
        have d2 : decide ((l.length : Int) < l.length) = false := decide_eq_false (by omega)
        rw [List.take_length]
        refine Wp.view (View.ofI [] [] [(0, tabF 45 47 x T), (3, .slice none 0 0), (4, .int .i64 v), (5, rowT 93 l), (6, .int .i64 l.length)] (by decide) rfl trivial ⟨.w (.un (by kernel_rfl) rfl), .w (.un (by kernel_rfl) rfl), .w (.un (by kernel_rfl) rfl), row_toldV l (b := 0) rfl (fun h => by rw [oB_own h]; rfl), .w (.un (by kernel_rfl) rfl), trivial⟩) ?_
        unfold tabF rowT rowF
        refine Wp.seq (Wp.seq (Wp.text ?_))
        refine kp 13 (.int IntKind.i64 (↑(List.length l) : Int)) ?_
        refine kp 14 (.iface 45 (Value.iface (List.length T) (Value.iface x (Value.agg (List.toArray (List.map (fun p => FS 47 (List.length (Prod.snd p)) (Prod.fst p) (List.toArray (rcs (Prod.snd p)))) T)))))) ?_
        refine kp 15 (.int IntKind.i64 (↑v : Int)) ?_
        refine kp 16 (.iface 45 (Value.iface (Int.toNat (↑v : Int) * 1) (Value.agg (List.toArray (List.map (fun p => FS 47 (List.length (Prod.snd p)) (Prod.fst p) (List.toArray (rcs (Prod.snd p)))) T))))) ?_ (hop := fun _ => o_indexI (e := 45) (size := 1) (a := (↑v : Int)) g1)
        refine kp 17 (.iface 47 (Value.iface (List.length l) (Value.iface xr (Value.agg (List.toArray (rcs l)))))) ?_ (hop := fun _ => o_loadI1 (Int.toNat (↑v : Int) * 1) v1)
        refine kp 18 (.int IntKind.i64 (↑(List.length l) : Int)) ?_
        refine kp 19 (.bool false) ?_ (hop := fun _ => by_fact d2)
        refine WpOps.nil (thenK_at (off' (Wp.exit (thenK_exit (thenK_exit (blockK_hit (thenK_at (Wp.text ?_))))))))
        refine kp 42 (.slice none 0 0) ?_
        refine kp 43 (.iface 93 (Value.iface (List.length l) (Value.iface (if List.length l = 0 then 2 else 0) (Value.agg (List.toArray (rcs l)))))) ?_
        refine md 44 (.slice (some ⟨0, 0, none⟩) 1 1) (Blk.mk 92 true [Value.iface 93 (Value.iface (List.length l) (Value.iface (if List.length l = 0 then 2 else 0) (Value.agg (List.toArray (rcs l)))))]) ?_
        refine md 45 (.slice (some ⟨1, 0, none⟩) 1 1) (Blk.mk 92 true [Value.iface 93 (Value.iface (List.length l) (Value.iface (if List.length l = 0 then 2 else 0) (Value.agg (List.toArray (rcs l)))))]) ?_
        refine kp 3 (.slice (some ⟨1, 0, none⟩) 1 1) ?_
        refine WpOps.nil (blockK_norm (thenK_at (Wp.text ?_)))
        refine kp 11 (.int IntKind.i64 (↑v : Int)) ?_
        refine kp 12 (.int IntKind.i64 (IntKind.wrap .i64 ((↑v : Int) + 1))) ?_
        refine kp 4 (.int IntKind.i64 (IntKind.wrap .i64 ((↑v : Int) + 1))) ?_
        refine WpOps.nil (thenK_at ?_)
        subst hv0
        refine ⟨0 + 1, by omega, by omega, ?_⟩
        try dsimp only
        rw [oV_own (by omega), oB_own (by omega)]
        have e4 : [rowT 93 l] = ocs 93 (T.take (0 + 1)) := hsn
        exact View.of [1] [⟨92, true, ocs 93 (T.take (0 + 1))⟩] _ (by decide) rfl ⟨⟨_, by kernel_rfl, CellsOk.eq e4 (ocs_flat _ _)⟩, trivial⟩ ⟨⟨by kernel_rfl, rfl⟩, ⟨by kernel_rfl, rfl⟩, ⟨by kernel_rfl, rfl⟩, trivial⟩
    · rw [oV_own hv0, oB_own hv0]
      refine Wp.seq (Wp.seq (Wp.text ?_))
      refine kp 7 (.int IntKind.i64 (↑v : Int)) ?_
      refine kp 8 (.iface 45 (Value.iface (List.length T) (Value.iface x (Value.agg (List.toArray (List.map (fun p => rowF 47 (Prod.fst p) (Prod.snd p)) T)))))) ?_
      refine kp 9 (.int IntKind.i64 (↑(List.length T) : Int)) ?_
      refine kp 10 (.bool true) ?_ (hop := fun _ => by_fact d1)
      refine WpOps.nil (thenK_at (on' (Wp.skip (thenK_at (Wp.seq (Wp.block (Wp.seq (Wp.text ?_))))))))
      refine kp 5 (.slice none 0 0) ?_
      refine WpOps.nil (thenK_at (Wp.seq (Wp.seq (Wp.text ?_))))
      refine kp 6 (.int IntKind.i64 0) ?_
      refine WpOps.nil (thenK_at (Wp.block ?_))
      refine Wp.loop (G := Nat) (fun k => layj [(0, tabF 45 47 x T), (3, .slice (some ⟨0, 0, none⟩) v v), (4, .int .i64 v), (5, oV 1 k), (6, .int .i64 k)]) (fun k => heapOf (⟨92, true, ocs 93 (T.take v)⟩ :: oB 93 k (rcs (l.take k)))) (fun k => l.length - k) (fun k => k ≤ l.length) 0
        (View.of [0] [⟨92, true, ocs 93 (T.take v)⟩] _ (by decide) rfl ⟨⟨_, by kernel_rfl, CellsOk.eq rfl (ocs_flat _ _)⟩, trivial⟩ ⟨⟨by kernel_rfl, rfl⟩, ⟨by kernel_rfl, rfl⟩, ⟨by kernel_rfl, rfl⟩, ⟨by kernel_rfl, rfl⟩, ⟨by kernel_rfl, rfl⟩, trivial⟩) (Nat.zero_le _) ?_
      intro k hk
      unfold tabF
      by_cases hlt2 : k < l.length
      · have d2 : decide ((k : Int) < l.length) = true := decide_eq_true (by omega)
        have g2 : 0 ≤ (k : Int) ∧ (k : Int) < l.length := by omega
        obtain ⟨v2, v3⟩ := rcs_at l k (0, 0) hlt2
        have hsn2 := rcs_snoc l k hlt2
        by_cases hk0 : k = 0
        · rw [oV_z hk0, oB_z hk0]
          refine Wp.seq (Wp.seq (Wp.text ?_))
          refine kp 13 (.int IntKind.i64 (↑k : Int)) ?_
          refine kp 14 (.iface 45 (Value.iface (List.length T) (Value.iface x (Value.agg (List.toArray (List.map (fun p => rowF 47 (Prod.fst p) (Prod.snd p)) T)))))) ?_
          refine kp 15 (.int IntKind.i64 (↑v : Int)) ?_
          refine kp 16 (.iface 45 (Value.iface (Int.toNat (↑v : Int) * 1) (Value.agg (List.toArray (List.map (fun p => rowF 47 (Prod.fst p) (Prod.snd p)) T))))) ?_ (hop := fun _ => o_indexI (e := 45) (size := 1) (a := (↑v : Int)) g1)
          refine kp 17 (.iface 47 (Value.iface (List.length l) (Value.iface xr (Value.agg (List.toArray (rcs l)))))) ?_ (hop := fun _ => o_loadI1 (Int.toNat (↑v : Int) * 1) v1)
          refine kp 18 (.int IntKind.i64 (↑(List.length l) : Int)) ?_
          refine kp 19 (.bool true) ?_ (hop := fun _ => by_fact d2)
          refine WpOps.nil (thenK_at (on' (Wp.skip (thenK_at (Wp.seq (Wp.block ?_))))))
          refine Wp.region (by kernel_rfl) ?_
          refine kp 22 (.slice none 0 0) ?_
          refine kp 23 (.iface 45 (Value.iface (List.length T) (Value.iface x (Value.agg (List.toArray (List.map (fun p => rowF 47 (Prod.fst p) (Prod.snd p)) T)))))) ?_
          refine kp 24 (.int IntKind.i64 (↑v : Int)) ?_
          refine kp 25 (.iface 45 (Value.iface (Int.toNat (↑v : Int) * 1) (Value.agg (List.toArray (List.map (fun p => rowF 47 (Prod.fst p) (Prod.snd p)) T))))) ?_ (hop := fun _ => o_indexI (e := 45) (size := 1) (a := (↑v : Int)) g1)
          refine kp 26 (.iface 47 (Value.iface (List.length l) (Value.iface xr (Value.agg (List.toArray (rcs l)))))) ?_ (hop := fun _ => o_loadI1 (Int.toNat (↑v : Int) * 1) v1)
          refine kp 27 (.int IntKind.i64 (↑k : Int)) ?_
          refine kp 28 (.iface 47 (Value.iface (Int.toNat (↑k : Int) * 2) (Value.agg (List.toArray (rcs l))))) ?_ (hop := fun _ => o_indexI (e := 47) (size := 2) (a := (↑k : Int)) g2)
          refine kp 29 (.iface 47 (Value.iface (Int.toNat (↑k : Int) * 2 + 0) (Value.agg (List.toArray (rcs l))))) ?_
          refine kp 30 (.int IntKind.i64 (Prod.fst (List.getD l k (0, 0)))) ?_ (hop := fun _ => o_loadI1 (Int.toNat (↑k : Int) * 2 + 0) v2)
          refine kp 31 (.iface 45 (Value.iface (List.length T) (Value.iface x (Value.agg (List.toArray (List.map (fun p => rowF 47 (Prod.fst p) (Prod.snd p)) T)))))) ?_
          refine kp 32 (.int IntKind.i64 (↑v : Int)) ?_
          refine kp 33 (.iface 45 (Value.iface (Int.toNat (↑v : Int) * 1) (Value.agg (List.toArray (List.map (fun p => rowF 47 (Prod.fst p) (Prod.snd p)) T))))) ?_ (hop := fun _ => o_indexI (e := 45) (size := 1) (a := (↑v : Int)) g1)
          refine kp 34 (.iface 47 (Value.iface (List.length l) (Value.iface xr (Value.agg (List.toArray (rcs l)))))) ?_ (hop := fun _ => o_loadI1 (Int.toNat (↑v : Int) * 1) v1)
          refine kp 35 (.int IntKind.i64 (↑k : Int)) ?_
          refine kp 36 (.iface 47 (Value.iface (Int.toNat (↑k : Int) * 2) (Value.agg (List.toArray (rcs l))))) ?_ (hop := fun _ => o_indexI (e := 47) (size := 2) (a := (↑k : Int)) g2)
          refine kp 37 (.iface 47 (Value.iface (Int.toNat (↑k : Int) * 2 + 1) (Value.agg (List.toArray (rcs l))))) ?_
          refine kp 38 (.int IntKind.i64 (Prod.snd (List.getD l k (0, 0)))) ?_ (hop := fun _ => o_loadI1 (Int.toNat (↑k : Int) * 2 + 1) v3)
          refine kp 39 (.agg #[Value.int .i64 (Prod.fst (List.getD l k (0, 0))), Value.int .i64 (Prod.snd (List.getD l k (0, 0)))]) ?_
          refine md 40 (.slice (some ⟨1, 0, none⟩) 1 1) (Blk.mk 93 true [Value.int .i64 (Prod.fst (List.getD l k (0, 0))), Value.int .i64 (Prod.snd (List.getD l k (0, 0)))]) ?_
          refine md 41 (.slice (some ⟨2, 0, none⟩) 1 1) (Blk.mk 93 true [Value.int .i64 (Prod.fst (List.getD l k (0, 0))), Value.int .i64 (Prod.snd (List.getD l k (0, 0)))]) ?_
          refine kp 5 (.slice (some ⟨2, 0, none⟩) 1 1) ?_
          refine WpOps.nil (blockK_norm (thenK_at (Wp.text ?_)))
          refine kp 20 (.int IntKind.i64 (↑k : Int)) ?_
          refine kp 21 (.int IntKind.i64 (IntKind.wrap .i64 ((↑k : Int) + 1))) ?_
          refine kp 6 (.int IntKind.i64 (IntKind.wrap .i64 ((↑k : Int) + 1))) ?_
          refine WpOps.nil (thenK_at ?_)
          subst hk0
          refine ⟨0 + 1, by omega, by omega, ?_⟩
          try dsimp only
          rw [oV_own (by omega), oB_own (by omega)]
          have e3 : rc (l.getD 0 (0, 0)) = rcs (l.take (0 + 1)) := hsn2
          exact View.of [0, 2] [⟨92, true, ocs 93 (T.take v)⟩, ⟨93, true, rcs (l.take (0 + 1))⟩] _ (by decide) rfl ⟨⟨_, by kernel_rfl, CellsOk.eq rfl (ocs_flat _ _)⟩, ⟨_, by kernel_rfl, CellsOk.eq e3 (rcs_flat _)⟩, trivial⟩ ⟨⟨by kernel_rfl, rfl⟩, ⟨by kernel_rfl, rfl⟩, ⟨by kernel_rfl, rfl⟩, ⟨by kernel_rfl, rfl⟩, ⟨by kernel_rfl, rfl⟩, trivial⟩
        · rw [oV_own hk0, oB_own hk0]
          have b1 : ¬ (k + 1 ≤ k) := by omega
          have b2 : 1 ≤ 16 ∧ (k + 1) * 16 ≤ 140737488355328 ∧ 2 = 2 ∧ k + 1 ≤ 9223372036854775807 := by omega
          have b3 := cells_whole (rcs (l.take k)) (k * 2) (by rw [rcs_len, List.length_take]; omega)
          refine Wp.seq (Wp.seq (Wp.text ?_))
          refine kp 13 (.int IntKind.i64 (↑k : Int)) ?_
          refine kp 14 (.iface 45 (Value.iface (List.length T) (Value.iface x (Value.agg (List.toArray (List.map (fun p => rowF 47 (Prod.fst p) (Prod.snd p)) T)))))) ?_
          refine kp 15 (.int IntKind.i64 (↑v : Int)) ?_
          refine kp 16 (.iface 45 (Value.iface (Int.toNat (↑v : Int) * 1) (Value.agg (List.toArray (List.map (fun p => rowF 47 (Prod.fst p) (Prod.snd p)) T))))) ?_ (hop := fun _ => o_indexI (e := 45) (size := 1) (a := (↑v : Int)) g1)
          refine kp 17 (.iface 47 (Value.iface (List.length l) (Value.iface xr (Value.agg (List.toArray (rcs l)))))) ?_ (hop := fun _ => o_loadI1 (Int.toNat (↑v : Int) * 1) v1)
          refine kp 18 (.int IntKind.i64 (↑(List.length l) : Int)) ?_
          refine kp 19 (.bool true) ?_ (hop := fun _ => by_fact d2)
          refine WpOps.nil (thenK_at (on' (Wp.skip (thenK_at (Wp.seq (Wp.block ?_))))))
          refine Wp.region (by kernel_rfl) ?_
          refine kp 22 (.slice (some ⟨1, 0, none⟩) k k) ?_
          refine kp 23 (.iface 45 (Value.iface (List.length T) (Value.iface x (Value.agg (List.toArray (List.map (fun p => rowF 47 (Prod.fst p) (Prod.snd p)) T)))))) ?_
          refine kp 24 (.int IntKind.i64 (↑v : Int)) ?_
          refine kp 25 (.iface 45 (Value.iface (Int.toNat (↑v : Int) * 1) (Value.agg (List.toArray (List.map (fun p => rowF 47 (Prod.fst p) (Prod.snd p)) T))))) ?_ (hop := fun _ => o_indexI (e := 45) (size := 1) (a := (↑v : Int)) g1)
          refine kp 26 (.iface 47 (Value.iface (List.length l) (Value.iface xr (Value.agg (List.toArray (rcs l)))))) ?_ (hop := fun _ => o_loadI1 (Int.toNat (↑v : Int) * 1) v1)
          refine kp 27 (.int IntKind.i64 (↑k : Int)) ?_
          refine kp 28 (.iface 47 (Value.iface (Int.toNat (↑k : Int) * 2) (Value.agg (List.toArray (rcs l))))) ?_ (hop := fun _ => o_indexI (e := 47) (size := 2) (a := (↑k : Int)) g2)
          refine kp 29 (.iface 47 (Value.iface (Int.toNat (↑k : Int) * 2 + 0) (Value.agg (List.toArray (rcs l))))) ?_
          refine kp 30 (.int IntKind.i64 (Prod.fst (List.getD l k (0, 0)))) ?_ (hop := fun _ => o_loadI1 (Int.toNat (↑k : Int) * 2 + 0) v2)
          refine kp 31 (.iface 45 (Value.iface (List.length T) (Value.iface x (Value.agg (List.toArray (List.map (fun p => rowF 47 (Prod.fst p) (Prod.snd p)) T)))))) ?_
          refine kp 32 (.int IntKind.i64 (↑v : Int)) ?_
          refine kp 33 (.iface 45 (Value.iface (Int.toNat (↑v : Int) * 1) (Value.agg (List.toArray (List.map (fun p => rowF 47 (Prod.fst p) (Prod.snd p)) T))))) ?_ (hop := fun _ => o_indexI (e := 45) (size := 1) (a := (↑v : Int)) g1)
          refine kp 34 (.iface 47 (Value.iface (List.length l) (Value.iface xr (Value.agg (List.toArray (rcs l)))))) ?_ (hop := fun _ => o_loadI1 (Int.toNat (↑v : Int) * 1) v1)
          refine kp 35 (.int IntKind.i64 (↑k : Int)) ?_
          refine kp 36 (.iface 47 (Value.iface (Int.toNat (↑k : Int) * 2) (Value.agg (List.toArray (rcs l))))) ?_ (hop := fun _ => o_indexI (e := 47) (size := 2) (a := (↑k : Int)) g2)
          refine kp 37 (.iface 47 (Value.iface (Int.toNat (↑k : Int) * 2 + 1) (Value.agg (List.toArray (rcs l))))) ?_
          refine kp 38 (.int IntKind.i64 (Prod.snd (List.getD l k (0, 0)))) ?_ (hop := fun _ => o_loadI1 (Int.toNat (↑k : Int) * 2 + 1) v3)
          refine kp 39 (.agg #[Value.int .i64 (Prod.fst (List.getD l k (0, 0))), Value.int .i64 (Prod.snd (List.getD l k (0, 0)))]) ?_
          refine md 40 (.slice (some ⟨2, 0, none⟩) 1 1) (Blk.mk 93 true [Value.int .i64 (Prod.fst (List.getD l k (0, 0))), Value.int .i64 (Prod.snd (List.getD l k (0, 0)))]) ?_
          refine ra 41 (.slice (some ⟨3, 0, none⟩) (k + 1) (k + 1)) (1) (Blk.mk 93 true (rcs (List.take k l) ++ [Value.int .i64 (Prod.fst (List.getD l k (0, 0))), Value.int .i64 (Prod.snd (List.getD l k (0, 0)))])) ?_ (hop := fun _ => o_append (e := 93) (1) (0) (k) _ (k) b1 b2 b3)
          refine kp 5 (.slice (some ⟨3, 0, none⟩) (k + 1) (k + 1)) ?_
          refine WpOps.nil (blockK_norm (thenK_at (Wp.text ?_)))
          refine kp 20 (.int IntKind.i64 (↑k : Int)) ?_
          refine kp 21 (.int IntKind.i64 (IntKind.wrap .i64 ((↑k : Int) + 1))) ?_
          refine kp 6 (.int IntKind.i64 (IntKind.wrap .i64 ((↑k : Int) + 1))) ?_
          refine WpOps.nil (thenK_at ?_)
          refine ⟨k + 1, by omega, by omega, ?_⟩
          try dsimp only
          rw [oV_own (by omega), oB_own (by omega)]
          exact View.of [0, 3] [⟨92, true, ocs 93 (T.take v)⟩, ⟨93, true, rcs (l.take (k + 1))⟩] _ (by decide) rfl ⟨⟨_, by kernel_rfl, CellsOk.eq rfl (ocs_flat _ _)⟩, ⟨_, by kernel_rfl, CellsOk.eq hsn2 (rcs_flat _)⟩, trivial⟩ ⟨⟨by kernel_rfl, rfl⟩, ⟨by kernel_rfl, rfl⟩, ⟨by kernel_rfl, rfl⟩, ⟨by kernel_rfl, rfl⟩, ⟨congrArg (Value.int .i64) (wr _ (by omega) (by omega)), rfl⟩, trivial⟩
      · obtain rfl : k = l.length := by omega
        have d2 : decide ((l.length : Int) < l.length) = false := decide_eq_false (by omega)
        rw [List.take_length]
        refine Wp.view (View.ofI [0] [⟨92, true, ocs 93 (T.take v)⟩] [(0, tabF 45 47 x T), (3, .slice (some ⟨0, 0, none⟩) v v), (4, .int .i64 v), (5, rowT 93 l), (6, .int .i64 l.length)] (by decide) rfl ⟨⟨_, by kernel_rfl, toldC_flat (ocs_flat _ _)⟩, trivial⟩ ⟨.w (.un (by kernel_rfl) rfl), .w (.un (by kernel_rfl) rfl), .w (.un (by kernel_rfl) rfl), row_toldV l (b := 1) rfl (fun h => by rw [oB_own h]; rfl), .w (.un (by kernel_rfl) rfl), trivial⟩) ?_
        unfold tabF rowT rowF
        have b1 : ¬ (v + 1 ≤ v) := by omega
        have b2 : 1 ≤ 24 ∧ (v + 1) * 24 ≤ 140737488355328 ∧ 1 = 1 ∧ v + 1 ≤ 9223372036854775807 := by omega
        have b3 := cells_whole (ocs 93 (T.take v)) (v * 1) (by rw [ocs_len, List.length_take]; omega)
        refine Wp.seq (Wp.seq (Wp.text ?_))
        refine kp 13 (.int IntKind.i64 (↑(List.length l) : Int)) ?_
        refine kp 14 (.iface 45 (Value.iface (List.length T) (Value.iface x (Value.agg (List.toArray (List.map (fun p => FS 47 (List.length (Prod.snd p)) (Prod.fst p) (List.toArray (rcs (Prod.snd p)))) T)))))) ?_
        refine kp 15 (.int IntKind.i64 (↑v : Int)) ?_
        refine kp 16 (.iface 45 (Value.iface (Int.toNat (↑v : Int) * 1) (Value.agg (List.toArray (List.map (fun p => FS 47 (List.length (Prod.snd p)) (Prod.fst p) (List.toArray (rcs (Prod.snd p)))) T))))) ?_ (hop := fun _ => o_indexI (e := 45) (size := 1) (a := (↑v : Int)) g1)
        refine kp 17 (.iface 47 (Value.iface (List.length l) (Value.iface xr (Value.agg (List.toArray (rcs l)))))) ?_ (hop := fun _ => o_loadI1 (Int.toNat (↑v : Int) * 1) v1)
        refine kp 18 (.int IntKind.i64 (↑(List.length l) : Int)) ?_
        refine kp 19 (.bool false) ?_ (hop := fun _ => by_fact d2)
        refine WpOps.nil (thenK_at (off' (Wp.exit (thenK_exit (thenK_exit (blockK_hit (thenK_at (Wp.text ?_))))))))
        refine kp 42 (.slice (some ⟨0, 0, none⟩) v v) ?_
        refine kp 43 (.iface 93 (Value.iface (List.length l) (Value.iface (if List.length l = 0 then 2 else 0) (Value.agg (List.toArray (rcs l)))))) ?_
        refine md 44 (.slice (some ⟨1, 0, none⟩) 1 1) (Blk.mk 92 true [Value.iface 93 (Value.iface (List.length l) (Value.iface (if List.length l = 0 then 2 else 0) (Value.agg (List.toArray (rcs l)))))]) ?_
        refine ra 45 (.slice (some ⟨2, 0, none⟩) (v + 1) (v + 1)) (0) (Blk.mk 92 true (ocs 93 (List.take v T) ++ [Value.iface 93 (Value.iface (List.length l) (Value.iface (if List.length l = 0 then 2 else 0) (Value.agg (List.toArray (rcs l)))))])) ?_ (hop := fun _ => o_append (e := 92) (0) (0) (v) _ (v) b1 b2 b3)
        refine kp 3 (.slice (some ⟨2, 0, none⟩) (v + 1) (v + 1)) ?_
        refine WpOps.nil (blockK_norm (thenK_at (Wp.text ?_)))
        refine kp 11 (.int IntKind.i64 (↑v : Int)) ?_
        refine kp 12 (.int IntKind.i64 (IntKind.wrap .i64 ((↑v : Int) + 1))) ?_
        refine kp 4 (.int IntKind.i64 (IntKind.wrap .i64 ((↑v : Int) + 1))) ?_
        refine WpOps.nil (thenK_at ?_)
        refine ⟨v + 1, by omega, by omega, ?_⟩
        try dsimp only
        rw [oV_own (by omega), oB_own (by omega)]
        have e4 : ocs 93 (T.take v) ++ [rowT 93 l] = ocs 93 (T.take (v + 1)) := hsn
        exact View.of [2] [⟨92, true, ocs 93 (T.take (v + 1))⟩] _ (by decide) rfl ⟨⟨_, by kernel_rfl, CellsOk.eq e4 (ocs_flat _ _)⟩, trivial⟩ ⟨⟨by kernel_rfl, rfl⟩, ⟨by kernel_rfl, rfl⟩, ⟨congrArg (Value.int .i64) (wr _ (by omega) (by omega)), rfl⟩, trivial⟩
  · obtain rfl : v = T.length := by omega
    have d1 : decide ((T.length : Int) < T.length) = false := decide_eq_false (by omega)
    unfold tabF
    rw [List.take_length]
    unfold tabT
    by_cases h0 : T.length = 0
    · rw [oV_z h0, oB_z h0, if_pos h0]
      refine Wp.seq (Wp.seq (Wp.text ?_))
      refine kp 7 (.int IntKind.i64 (↑(List.length T) : Int)) ?_
      refine kp 8 (.iface 45 (Value.iface (List.length T) (Value.iface x (Value.agg (List.toArray (List.map (fun p => rowF 47 (Prod.fst p) (Prod.snd p)) T)))))) ?_
      refine kp 9 (.int IntKind.i64 (↑(List.length T) : Int)) ?_
      refine kp 10 (.bool false) ?_ (hop := fun _ => by_fact d1)
      refine WpOps.nil (thenK_at (off' (Wp.exit (thenK_exit (thenK_exit (blockK_hit (thenK_at (Wp.seq (Wp.text ?_)))))))))
      refine kp 46 (.slice none 0 0) ?_
      refine kp 2 (.slice none 0 0) ?_
      refine WpOps.nil (thenK_at (Wp.ret ?_))
      refine endK_retn [Value.slice none 0 0] (Value.slice none 0 0) (by kernel_rfl) (by kernel_rfl) ?_
      have hT := List.eq_nil_of_length_eq_zero h0
      subst hT
      obtain ⟨ti, ht⟩ := E92
      exact ⟨.slice none 0 0, by kernel_rfl, .w (.c (.inr ⟨rfl, 92, ti, ht, rfl⟩))⟩
    · rw [oV_own h0, oB_own h0, if_neg h0]
      refine Wp.seq (Wp.seq (Wp.text ?_))
      refine kp 7 (.int IntKind.i64 (↑(List.length T) : Int)) ?_
      refine kp 8 (.iface 45 (Value.iface (List.length T) (Value.iface x (Value.agg (List.toArray (List.map (fun p => rowF 47 (Prod.fst p) (Prod.snd p)) T)))))) ?_
      refine kp 9 (.int IntKind.i64 (↑(List.length T) : Int)) ?_
      refine kp 10 (.bool false) ?_ (hop := fun _ => by_fact d1)
      refine WpOps.nil (thenK_at (off' (Wp.exit (thenK_exit (thenK_exit (blockK_hit (thenK_at (Wp.seq (Wp.text ?_)))))))))
      refine kp 46 (.slice (some ⟨0, 0, none⟩) (List.length T) (List.length T)) ?_
      refine kp 2 (.slice (some ⟨0, 0, none⟩) (List.length T) (List.length T)) ?_
      refine WpOps.nil (thenK_at (Wp.ret ?_))
      refine endK_retn [Value.slice (some (Addr.mk 0 0 none)) (List.length T) (List.length T)] (Value.slice (some (Addr.mk 0 0 none)) (List.length T) (List.length T)) (by kernel_rfl) (by kernel_rfl) ?_
      have e := iceC_row (E := E) (hp := heapOf [⟨92, true, ocs 93 T⟩]) (b := 0) (n := T.length) (c := T.length) (e := 92) (size := 1) (cells := ocs 93 T) 3 (by kernel_rfl) (by kernel_rfl) (by rw [ocs_len]; omega) (ocs_flat _ _)
      exact ⟨_, e, .w (.c (.inl rfl))⟩
end Go.Proofs.Ytfjkanjmggbofaa.D
