/- A new station; equal lists of events; what is handed in. -/
import Derived.Test.YtgefohjickhldaaFwLem
import Derived.Test.YtgefohjickhldaaFwMat
import Derived.Test.YtgefohjickhldaaT10p
import Derived.Test.YtgefohjickhldaaT10l
namespace Go.Proofs.Ytgefohjickhldaa.D
open Go.Fw Go.RowKit
def lv (l : List Evt) : Value := FS 61 l.length 3 (evl l).toArray
theorem lv_ice (l : List Evt) {h : Heap} : iceV E h (lv l) = some (lv l) := by
  show iceC E h 4 (lv l) = _
  exact flat_ice rfl 4
/-- A new station. -/
def St.new (f : Bool) (w wt t : Nat) : St := { first := f, win := w, wait := wt, tries := t, state := 0, gen := 0, sent := 0, acked := 0, wanted := 0, rej := false, ren := false, queue := [], out := [], left := 0, tried := 0, ans := [] }
def nB (f : Bool) (w wt t : Nat) : Blk := ⟨73, true, stC (St.new f w wt t) (.slice none 0 0) (.slice none 0 0) (.slice none 0 0)⟩
def uNo (w wt t : Int) : Bool := bif bif bif bif bif decide (w < 1) then true else decide (w > 7) then true else decide (wt < 1) then true else decide (wt > 50) then true else decide (t < 1) then true else decide (t > 10)
theorem uNo_false {w wt t : Int} (h : uNo w wt t = false) : 1 ≤ w ∧ w ≤ 7 ∧ 1 ≤ wt ∧ wt ≤ 50 ∧ 1 ≤ t ∧ t ≤ 10 := by
  simp only [uNo, Bool.cond_eq_ite] at h
  simp at h
  omega
theorem f26 : E.funcs 26 = some Try.f26 := by kernel_rfl
theorem new26no (f : Bool) (w wt t : Int) (hn : uNo w wt t = true) : Fun E 26 [.bool f, .int .i64 w, .int .i64 wt, .int .i64 t] (.tuple #[.pointer none, .int .i64 1]) := by
  unfold uNo at hn
  refine Fun.of f26 rfl (of_decide_eq_true (by kernel_rfl)) rfl ?_
  refine Wp.seq (Wp.text (kp 8 (.pointer none) (kp 9 (vI 0) (WpOps.nil (thenK_at (Wp.seq (Wp.seq (Wp.text (kp 10 (vI w) (kp 11 (.bool (decide (w < 1))) (kp 12 (.bool (decide (w < 1))) ?_)))))))))))
  refine WpOps.fork 3 (decide (w < 1)) [13, 14, 15] 15 (true) (decide (w > 7)) (by kernel_rfl) (fun g15 => ?_) (fun g15 => ?_) (fun f_15 b15 hb15 => ?_)
  · refine um 13 (um 14 (kp 15 vT (WpOps.nil ?_) (hop := fun _ => o_pickT g15)) (hw := wants_tf g15)) (hw := wants_tf g15)
    exact ⟨rfl, (.upd rfl (.upd rfl (.upd rfl .refl))), (by kernel_rfl)⟩
  · refine kp 13 (vI w) (kp 14 (.bool (decide (w > 7))) (kp 15 (.bool (decide (w > 7))) (WpOps.nil ?_) (hop := fun _ => o_pickF g15)) (hw := wants_ff g15)) (hw := wants_ff g15)
    exact ⟨rfl, (.upd rfl (.upd rfl (.upd rfl .refl))), (by kernel_rfl)⟩
  refine kp 16 (.bool b15) ?_
  refine WpOps.fork 3 (b15) [17, 18, 19] 19 (true) (decide (wt < 1)) (by kernel_rfl) (fun g19 => ?_) (fun g19 => ?_) (fun f_19 b19 hb19 => ?_)
  · refine um 17 (um 18 (kp 19 vT (WpOps.nil ?_) (hop := fun _ => o_pickT g19)) (hw := wants_tf g19)) (hw := wants_tf g19)
    exact ⟨rfl, (.upd rfl (.upd rfl (.upd rfl .refl))), (by kernel_rfl)⟩
  · refine kp 17 (vI wt) (kp 18 (.bool (decide (wt < 1))) (kp 19 (.bool (decide (wt < 1))) (WpOps.nil ?_) (hop := fun _ => o_pickF g19)) (hw := wants_ff g19)) (hw := wants_ff g19)
    exact ⟨rfl, (.upd rfl (.upd rfl (.upd rfl .refl))), (by kernel_rfl)⟩
  refine kp 20 (.bool b19) ?_
  refine WpOps.fork 3 (b19) [21, 22, 23] 23 (true) (decide (wt > 50)) (by kernel_rfl) (fun g23 => ?_) (fun g23 => ?_) (fun f_23 b23 hb23 => ?_)
  · refine um 21 (um 22 (kp 23 vT (WpOps.nil ?_) (hop := fun _ => o_pickT g23)) (hw := wants_tf g23)) (hw := wants_tf g23)
    exact ⟨rfl, (.upd rfl (.upd rfl (.upd rfl .refl))), (by kernel_rfl)⟩
  · refine kp 21 (vI wt) (kp 22 (.bool (decide (wt > 50))) (kp 23 (.bool (decide (wt > 50))) (WpOps.nil ?_) (hop := fun _ => o_pickF g23)) (hw := wants_ff g23)) (hw := wants_ff g23)
    exact ⟨rfl, (.upd rfl (.upd rfl (.upd rfl .refl))), (by kernel_rfl)⟩
  refine kp 24 (.bool b23) ?_
  refine WpOps.fork 3 (b23) [25, 26, 27] 27 (true) (decide (t < 1)) (by kernel_rfl) (fun g27 => ?_) (fun g27 => ?_) (fun f_27 b27 hb27 => ?_)
  · refine um 25 (um 26 (kp 27 vT (WpOps.nil ?_) (hop := fun _ => o_pickT g27)) (hw := wants_tf g27)) (hw := wants_tf g27)
    exact ⟨rfl, (.upd rfl (.upd rfl (.upd rfl .refl))), (by kernel_rfl)⟩
  · refine kp 25 (vI t) (kp 26 (.bool (decide (t < 1))) (kp 27 (.bool (decide (t < 1))) (WpOps.nil ?_) (hop := fun _ => o_pickF g27)) (hw := wants_ff g27)) (hw := wants_ff g27)
    exact ⟨rfl, (.upd rfl (.upd rfl (.upd rfl .refl))), (by kernel_rfl)⟩
  refine kp 28 (.bool b27) ?_
  refine WpOps.fork 3 (b27) [29, 30, 31] 31 (true) (decide (t > 10)) (by kernel_rfl) (fun g31 => ?_) (fun g31 => ?_) (fun f_31 b31 hb31 => ?_)
  · refine um 29 (um 30 (kp 31 vT (WpOps.nil ?_) (hop := fun _ => o_pickT g31)) (hw := wants_tf g31)) (hw := wants_tf g31)
    exact ⟨rfl, (.upd rfl (.upd rfl (.upd rfl .refl))), (by kernel_rfl)⟩
  · refine kp 29 (vI t) (kp 30 (.bool (decide (t > 10))) (kp 31 (.bool (decide (t > 10))) (WpOps.nil ?_) (hop := fun _ => o_pickF g31)) (hw := wants_ff g31)) (hw := wants_ff g31)
    exact ⟨rfl, (.upd rfl (.upd rfl (.upd rfl .refl))), (by kernel_rfl)⟩
  refine WpOps.nil (thenK_at ?_)
  obtain rfl : b31 = true := by rw [hb31, hb27, hb23, hb19, hb15]; exact hn
  refine on' (Wp.seq (Wp.text (kp 8 (.pointer none) (kp 9 (vI 1) (WpOps.nil (thenK_at (Wp.ret (thenK_ret (endK_retn [Value.pointer none, vI 1] (Value.tuple #[Value.pointer none, vI 1]) (by kernel_rfl) (by kernel_rfl) ?_)))))))))
  rfl
theorem new26 (f : Bool) (w wt t : Nat) (hn : uNo w wt t = false) : Lent E 26 [.bool f, .int .i64 w, .int .i64 wt, .int .i64 t] [] (.tuple #[.pointer (some ⟨0, 0, none⟩), .int .i64 0]) [nB f w wt t] := by
  unfold uNo at hn
  refine Lent.of f26 rfl (of_decide_eq_true (by kernel_rfl)) rfl rfl (Nat.zero_le _) rfl rfl rfl ?_
  show Wp 0 E _ _ _ _ (endK E _ (LentEnd E 0 _ _))
  refine Wp.seq (Wp.text (kp 8 (.pointer none) (kp 9 (vI 0) (WpOps.nil (thenK_at (Wp.seq (Wp.seq (Wp.text (kp 10 (vI w) (kp 11 (.bool (decide ((↑w : Int) < 1))) (kp 12 (.bool (decide ((↑w : Int) < 1))) ?_)))))))))))
  refine WpOps.fork 3 (decide ((↑w : Int) < 1)) [13, 14, 15] 15 (true) (decide ((↑w : Int) > 7)) (by kernel_rfl) (fun g15 => ?_) (fun g15 => ?_) (fun f_15 b15 hb15 => ?_)
  · refine um 13 (um 14 (kp 15 vT (WpOps.nil ?_) (hop := fun _ => o_pickT g15)) (hw := wants_tf g15)) (hw := wants_tf g15)
    exact ⟨rfl, (.upd rfl (.upd rfl (.upd rfl .refl))), (by kernel_rfl)⟩
  · refine kp 13 (vI w) (kp 14 (.bool (decide ((↑w : Int) > 7))) (kp 15 (.bool (decide ((↑w : Int) > 7))) (WpOps.nil ?_) (hop := fun _ => o_pickF g15)) (hw := wants_ff g15)) (hw := wants_ff g15)
    exact ⟨rfl, (.upd rfl (.upd rfl (.upd rfl .refl))), (by kernel_rfl)⟩
  refine kp 16 (.bool b15) ?_
  refine WpOps.fork 3 (b15) [17, 18, 19] 19 (true) (decide ((↑wt : Int) < 1)) (by kernel_rfl) (fun g19 => ?_) (fun g19 => ?_) (fun f_19 b19 hb19 => ?_)
  · refine um 17 (um 18 (kp 19 vT (WpOps.nil ?_) (hop := fun _ => o_pickT g19)) (hw := wants_tf g19)) (hw := wants_tf g19)
    exact ⟨rfl, (.upd rfl (.upd rfl (.upd rfl .refl))), (by kernel_rfl)⟩
  · refine kp 17 (vI wt) (kp 18 (.bool (decide ((↑wt : Int) < 1))) (kp 19 (.bool (decide ((↑wt : Int) < 1))) (WpOps.nil ?_) (hop := fun _ => o_pickF g19)) (hw := wants_ff g19)) (hw := wants_ff g19)
    exact ⟨rfl, (.upd rfl (.upd rfl (.upd rfl .refl))), (by kernel_rfl)⟩
  refine kp 20 (.bool b19) ?_
  refine WpOps.fork 3 (b19) [21, 22, 23] 23 (true) (decide ((↑wt : Int) > 50)) (by kernel_rfl) (fun g23 => ?_) (fun g23 => ?_) (fun f_23 b23 hb23 => ?_)
  · refine um 21 (um 22 (kp 23 vT (WpOps.nil ?_) (hop := fun _ => o_pickT g23)) (hw := wants_tf g23)) (hw := wants_tf g23)
    exact ⟨rfl, (.upd rfl (.upd rfl (.upd rfl .refl))), (by kernel_rfl)⟩
  · refine kp 21 (vI wt) (kp 22 (.bool (decide ((↑wt : Int) > 50))) (kp 23 (.bool (decide ((↑wt : Int) > 50))) (WpOps.nil ?_) (hop := fun _ => o_pickF g23)) (hw := wants_ff g23)) (hw := wants_ff g23)
    exact ⟨rfl, (.upd rfl (.upd rfl (.upd rfl .refl))), (by kernel_rfl)⟩
  refine kp 24 (.bool b23) ?_
  refine WpOps.fork 3 (b23) [25, 26, 27] 27 (true) (decide ((↑t : Int) < 1)) (by kernel_rfl) (fun g27 => ?_) (fun g27 => ?_) (fun f_27 b27 hb27 => ?_)
  · refine um 25 (um 26 (kp 27 vT (WpOps.nil ?_) (hop := fun _ => o_pickT g27)) (hw := wants_tf g27)) (hw := wants_tf g27)
    exact ⟨rfl, (.upd rfl (.upd rfl (.upd rfl .refl))), (by kernel_rfl)⟩
  · refine kp 25 (vI t) (kp 26 (.bool (decide ((↑t : Int) < 1))) (kp 27 (.bool (decide ((↑t : Int) < 1))) (WpOps.nil ?_) (hop := fun _ => o_pickF g27)) (hw := wants_ff g27)) (hw := wants_ff g27)
    exact ⟨rfl, (.upd rfl (.upd rfl (.upd rfl .refl))), (by kernel_rfl)⟩
  refine kp 28 (.bool b27) ?_
  refine WpOps.fork 3 (b27) [29, 30, 31] 31 (true) (decide ((↑t : Int) > 10)) (by kernel_rfl) (fun g31 => ?_) (fun g31 => ?_) (fun f_31 b31 hb31 => ?_)
  · refine um 29 (um 30 (kp 31 vT (WpOps.nil ?_) (hop := fun _ => o_pickT g31)) (hw := wants_tf g31)) (hw := wants_tf g31)
    exact ⟨rfl, (.upd rfl (.upd rfl (.upd rfl .refl))), (by kernel_rfl)⟩
  · refine kp 29 (vI t) (kp 30 (.bool (decide ((↑t : Int) > 10))) (kp 31 (.bool (decide ((↑t : Int) > 10))) (WpOps.nil ?_) (hop := fun _ => o_pickF g31)) (hw := wants_ff g31)) (hw := wants_ff g31)
    exact ⟨rfl, (.upd rfl (.upd rfl (.upd rfl .refl))), (by kernel_rfl)⟩
  refine WpOps.nil (thenK_at ?_)
  obtain rfl : b31 = false := by rw [hb31, hb27, hb23, hb19, hb15]; exact hn
  refine off' (Wp.skip (thenK_at (Wp.seq (Wp.text (kp 32 (.bool f) (kp 33 (vI w) (kp 34 (vI wt) (kp 35 (vI t) (kp 36 (.agg #[vI 0, vI wt, vI 0, vI t]) (kp 37 (.agg #[vI 0, vI wt, vI 0, vI t, Value.bool f, vI w, vI 0, vI 0, vI 0, vI 0, vI 0, vF, vF, vN, vN, vN]) (md 38 (vP 0 0) (Blk.mk 73 true [vI 0, vI wt, vI 0, vI t, Value.bool f, vI w, vI 0, vI 0, vI 0, vI 0, vI 0, vF, vF, vN, vN, vN]) (kp 8 (vP 0 0) (kp 9 (vI 0) (WpOps.nil (thenK_at (Wp.ret (endK_retn [Value.pointer (some (Addr.mk 0 0 none)), vI 0] (Value.tuple #[Value.pointer (some (Addr.mk 0 0 none)), vI 0]) (by kernel_rfl) (by kernel_rfl) ?_)))))))))))))))))
  exact ⟨[0], by decide, by decide, ⟨⟨(nB f w wt t).cells, by kernel_rfl, toldC_flat rfl⟩, trivial⟩, .tuple _ _ rfl rfl (.cons (.un rfl rfl) (.cons (.un rfl rfl) .nil))⟩
def uvv (f : Bool) (w wt t : Int) : Value := .agg #[.bool f, .int .i64 w, .int .i64 wt, .int .i64 t]
theorem evl_drop : ∀ (l : List Evt) (i : Nat), i < l.length → ∃ e, (evl l).drop (i * 6) = evc e ++ evl (l.drop (i + 1)) ∧ i * 6 + 6 ≤ (evl l).length
  | e :: l, 0, _ => ⟨e, rfl, by rw [evl_len, List.length_cons]; omega⟩
  | e :: l, i + 1, h => by
    obtain ⟨e', h1, h2⟩ := evl_drop l i (by simpa using h)
    have h3 : evl (e :: l) = evc e ++ evl l := rfl
    have h4 : (evc e).length = 6 := rfl
    refine ⟨e', ?_, ?_⟩
    · rw [h3, show (i + 1) * 6 = 6 + i * 6 by omega, ← List.drop_drop, ← h4, List.drop_left]
      exact h1
    · rw [h3, List.length_append]
      omega
theorem evl_cell {l : List Evt} {i : Nat} (h : i < l.length) : ∃ e : Evt, cellsAt (evl l) ((i : Int).toNat * 6) 6 = some [.int .i64 e.way, .int .i64 e.kind, .int .i64 0, .int .i64 0, .int .i64 0, .string e.d] := by
  obtain ⟨e, h1, h2⟩ := evl_drop l i h
  refine ⟨e, ?_⟩
  rw [show (i : Int).toNat = i by omega]
  unfold cellsAt
  rw [if_pos h2, h1]
  rfl
theorem f24 : E.funcs 24 = some Try.f24 := by kernel_rfl
theorem events24 (l : List Evt) (hl : l.length ≤ 100000) : Fun E 24 [lv l, lv l] (.bool true) := by
  refine Fun.of f24 rfl (of_decide_eq_true (by kernel_rfl)) rfl ?_
  unfold lv
  have d0 : ((l.length : Int) != (l.length : Int)) = false := bne_self_eq_false _
  refine Wp.seq (Wp.text (kp 4 vF (WpOps.nil (thenK_at (Wp.seq (Wp.seq (Wp.text (kp 6 (lv l) (kp 7 (vI (List.length l)) (kp 8 (lv l) (kp 9 (vI (List.length l)) (kp 10 vF (WpOps.nil (thenK_at (off' (Wp.skip (thenK_at (Wp.seq (Wp.seq (Wp.text (kp 5 (vI 0) (WpOps.nil (thenK_at (Wp.block ?_)))))))))))) (hop := fun _ => by_fact d0)))))))))))))
  refine Wp.loop (G := Nat) (fun i => layj [(0, lv l), (1, lv l), (5, .int .i64 i)]) (fun i => Heap.none) (fun i => l.length - i) (fun i => i ≤ l.length) 0 ?_ (Nat.zero_le _) ?_
  · exact View.of [] [] _ (by decide) rfl trivial ⟨⟨by kernel_rfl, rfl⟩, ⟨by kernel_rfl, rfl⟩, ⟨by kernel_rfl, rfl⟩, trivial⟩
  intro i hi
  by_cases hc : i < l.length
  · have d1 : decide ((i : Int) < (l.length : Int)) = true := decide_eq_true (by omega)
    have g1 : (0 : Int) ≤ (i : Int) ∧ (i : Int) < (l.length : Int) := by omega
    obtain ⟨e, g2⟩ := evl_cell hc
    have w2 : IntKind.i64.wrap ((i : Int) + 1) = ((i + 1 : Nat) : Int) := by rw [wr _ (by omega) (by omega)]; omega
    unfold lv
    refine Wp.seq (Wp.seq (Wp.text (kp 11 (vI i) (kp 12 (lv l) (kp 13 (vI (List.length l)) (kp 14 vT (WpOps.nil (thenK_at (on' (Wp.skip (thenK_at (Wp.seq (Wp.block (Wp.seq (Wp.region (by kernel_rfl) (kp 17 (lv l) (kp 18 (vI i) (kp 19 (.iface 61 (Value.iface (Int.toNat (↑i : Int) * 6) (Value.agg (List.toArray (evl l))))) (kp 20 (.agg #[vI (Evt.way e), vI (Evt.kind e), vI 0, vI 0, vI 0, Value.string (Evt.d e)]) (kp 21 (lv l) (kp 22 (vI i) (kp 23 (.iface 61 (Value.iface (Int.toNat (↑i : Int) * 6) (Value.agg (List.toArray (evl l))))) (kp 24 (.agg #[vI (Evt.way e), vI (Evt.kind e), vI 0, vI 0, vI 0, Value.string (Evt.d e)]) (kp 25 (.bool !(fun q => Evt.way e == Evt.way e && q) ((fun q => Evt.kind e == Evt.kind e && q) ((fun q => true && q) ((fun q => true && q) ((fun q => true && q) ((fun q => ByteArray.toList (Evt.d e) == ByteArray.toList (Evt.d e) && q) true)))))) (WpOps.nil (thenK_at ?_))) (hop := fun _ => o_loadIA (Int.toNat (↑i : Int) * 6) g2)) (hop := fun _ => o_indexI (e := 61) (size := 6) (a := (↑i : Int)) g1)))) (hop := fun _ => o_loadIA (Int.toNat (↑i : Int) * 6) g2)) (hop := fun _ => o_indexI (e := 61) (size := 6) (a := (↑i : Int)) g1))))))))))))) (hop := fun _ => by_fact d1)))))))
    refine off' ?_ (hc := ev_fact (e := !(e.way == e.way && (e.kind == e.kind && (true && (true && (true && (e.d.toList == e.d.toList && true))))))) (by simp))
    refine Wp.skip (blockK_norm (thenK_at (Wp.text (kp 15 (vI i) (kp 16 (vI (IntKind.wrap .i64 ((↑i : Int) + 1))) (kp 5 (vI (IntKind.wrap .i64 ((↑i : Int) + 1))) (WpOps.nil (thenK_at ?_))))))))
    exact ⟨i + 1, by omega, by omega, View.of [] [] _ (by decide) rfl trivial ⟨⟨by kernel_rfl, rfl⟩, ⟨by kernel_rfl, rfl⟩, ⟨congrArg (Value.int .i64) w2, rfl⟩, trivial⟩⟩
  · have d1 : decide ((i : Int) < (l.length : Int)) = false := decide_eq_false (by omega)
    unfold lv
    refine Wp.seq (Wp.seq (Wp.text (kp 11 (vI i) (kp 12 (lv l) (kp 13 (vI (List.length l)) (kp 14 vF (WpOps.nil (thenK_at (off' (Wp.exit (thenK_exit (thenK_exit (blockK_hit (thenK_at (Wp.seq (Wp.text (kp 4 vT (WpOps.nil (thenK_at (Wp.ret (endK_retn [vT] vT (by kernel_rfl) (by kernel_rfl) ?_))))))))))))))) (hop := fun _ => by_fact d1)))))))
    rfl
/-- An event that is handed in. -/
structure EvI where
  w : Int
  k : Int
  a : Int
  b : Int
  c : Int
  d : ByteArray
  z : d.size ≤ 140737488351232
def eic (e : EvI) : List Value := [.int .i64 e.w, .int .i64 e.k, .int .i64 e.a, .int .i64 e.b, .int .i64 e.c, .string e.d]
def eics (l : List EvI) : List Value := l.flatMap eic
theorem eics_len : ∀ l : List EvI, (eics l).length = l.length * 6
  | [] => rfl
  | e :: l => by
    have ih := eics_len l
    unfold eics at ih ⊢
    rw [List.flatMap_cons, List.length_append, ih, List.length_cons, Nat.succ_mul, Nat.add_comm]
    rfl
theorem eics_drop : ∀ (l : List EvI) (i : Nat), i < l.length → ∃ e, (eics l).drop (i * 6) = eic e ++ eics (l.drop (i + 1)) ∧ i * 6 + 6 ≤ (eics l).length
  | e :: l, 0, _ => ⟨e, rfl, by rw [eics_len, List.length_cons]; omega⟩
  | e :: l, i + 1, h => by
    obtain ⟨e', h1, h2⟩ := eics_drop l i (by simpa using h)
    have h3 : eics (e :: l) = eic e ++ eics l := rfl
    have h4 : (eic e).length = 6 := rfl
    refine ⟨e', ?_, ?_⟩
    · rw [h3, show (i + 1) * 6 = 6 + i * 6 by omega, ← List.drop_drop, ← h4, List.drop_left]
      exact h1
    · rw [h3, List.length_append]
      omega
theorem eics_cell {l : List EvI} {i : Nat} (h : i < l.length) : ∃ e : EvI, cellsAt (eics l) ((i : Int).toNat * 6) 6 = some [.int .i64 e.w, .int .i64 e.k, .int .i64 e.a, .int .i64 e.b, .int .i64 e.c, .string e.d] := by
  obtain ⟨e, h1, h2⟩ := eics_drop l i h
  refine ⟨e, ?_⟩
  rw [show (i : Int).toNat = i by omega]
  unfold cellsAt
  rw [if_pos h2, h1]
  rfl
theorem St.new_ok {f : Bool} {w wt t : Nat} (hw : 1 ≤ w ∧ w ≤ 7) (hwt : 1 ≤ wt ∧ wt ≤ 50) (ht : 1 ≤ t ∧ t ≤ 10) : St.Ok (St.new f w wt t) :=
  ⟨hw, hwt, ht, Nat.zero_le _, Nat.zero_le _, Nat.zero_le _, Nat.zero_le _, Nat.zero_le _, Nat.zero_le _, Nat.zero_le _, Nat.zero_le _, Nat.zero_le _, fun _ => rfl⟩
theorem St.flo_n : ∀ (m : Nat) (s : St), (St.floN m s).ans.length ≤ s.ans.length + m
  | 0, s => Nat.le_refl _
  | m + 1, s => by
    unfold St.floN
    split
    · have h := St.flo_n m s.flo1
      have h1 : s.flo1.ans.length = s.ans.length + 1 := by
        unfold St.flo1
        dsimp only
        split <;> exact St.snd_n
      omega
    · omega
theorem St.ons_n (s : St) (z : Bool) (w k : Int) (d : ByteArray) (h : s.Ok) : (s.ons z w k d).2.ans.length ≤ 100 := by
  have h0 : St.Ok { s with ans := [] } := h.cut
  have ho := h.out
  have hw := h.win
  have key : ∀ s' : St, s'.Ok → s'.ans.length ≤ 20 → s'.flo.ans.length ≤ 100 := fun s' h1 h2 => by
    have h3 := St.flo_n s'.queue.length s'
    have h4 := h1.queue
    unfold St.flo
    omega
  have e0 : ({ s with ans := [] } : St).ans.length = 0 := rfl
  have e1 : ({ s with ans := [] } : St).out.length = s.out.length := rfl
  unfold St.ons
  split
  · have h1 := St.usr_n (s := { s with ans := [] }) k d
    split
    · exact key _ (h0.usr k d) (by omega)
    · omega
  split
  · have h1 := St.frmB_n (s := { s with ans := [] }) z d
    exact key _ (h0.frmB z d) (by omega)
  split
  · have h1 := St.tic_n (s := { s with ans := [] }) z
    exact key _ (h0.tic z) (by omega)
  · exact Nat.zero_le _
end Go.Proofs.Ytgefohjickhldaa.D
