/- The document's Tables. -/
import Derived.Test.YtfjkanjmggbofaaFwLem
import Derived.Test.YtfjkanjmggbofaaV12c
namespace Go.Proofs.Ytfjkanjmggbofaa.D
open Go.Fw Go.RowKit

theorem ref_rt1 {N v k : Int} {r : Rt} (h : (bif v == k then !((fun q => r.1 == 0 && q) ((fun q => r.2 == v && q) true)) else false) = true) : routeB N v k r = false := by
  unfold routeB
  by_cases e : v = k
  · rw [if_pos e]
    subst e
    simp at h ⊢
    omega
  · simp [e] at h
theorem ref_rt2 {N v k : Int} {r : Rt} (h : (bif v == k then !((fun q => r.1 == 0 && q) ((fun q => r.2 == v && q) true)) else false) = false) : (bif (bif v != k then !(bif r.1 == 16 then r.2 == -1 else false) else false) then !(bif (bif (bif (bif decide (r.1 ≥ 1) then decide (r.1 < 16) else false) then decide (r.2 ≥ 0) else false) then decide (r.2 < N) else false) then r.2 != v else false) else false) = !routeB N v k r := by
  unfold routeB nodeB
  by_cases e : v = k
  · rw [if_pos e]
    subst e
    simp at h
    simp [h]
  · rw [if_neg e]
    by_cases e2 : r.1 = 16
    · simp [e, e2]
    · have e' : (v != k) = true := by simpa using e
      have e2' : (r.1 == 16) = false := by simpa using e2
      rw [if_neg e2, e', e2']
      by_cases h1 : r.1 ≥ 1 <;> by_cases h2 : r.1 < 16 <;> by_cases h3 : r.2 ≥ 0 <;> simp only [h1, h2, h3, decide_true, decide_false, cond_true, cond_false, Bool.not_false]
theorem f45 : E.funcs 45 = some Try.f45 := by kernel_rfl
set_option maxHeartbeats 4000000 in
theorem tables45 (N : Int) (x : Nat) (ls : List Lk) (xt : Nat) (T : List (Nat × List Rt)) (hv : Fun E 26 [netV N x ls] (.bool (valid N ls))) (_hz : T.length ≤ 17592186044416) (hw : ∀ p ∈ T, p.2.length ≤ 17592186044416) : Fun E 45 [netV N x ls, tabF 92 93 xt T] (.bool (tabOk N ls T)) := by
  refine Fun.of f45 rfl (of_decide_eq_true (by kernel_rfl)) rfl ?_
  unfold netV at hv ⊢
  unfold tabF
  unfold lks at hv ⊢
  refine Wp.seq (Wp.text ?_)
  refine md 2 (.pointer (some ⟨0, 0, none⟩)) (Blk.mk 34 true [Value.int .i64 N, Value.iface 48 (Value.iface (List.length ls) (Value.iface x (Value.agg (List.toArray (lcs ls)))))]) ?_
  refine kp 4 (.bool false) ?_
  refine WpOps.nil (thenK_at (Wp.seq (Wp.seq (Wp.text ?_))))
  refine kp 10 (.agg #[Value.int .i64 N, Value.iface 48 (Value.iface (List.length ls) (Value.iface x (Value.agg (List.toArray (lcs ls)))))]) ?_
  refine fr 11 26 [Value.agg #[Value.int .i64 N, Value.iface 48 (Value.iface (List.length ls) (Value.iface x (Value.agg (List.toArray (lcs ls)))))]] ?_
  refine WpFun.of (hv) ?_
  refine kp 12 (.bool !valid N ls) ?_
  refine kp 13 (.bool !valid N ls) ?_
  refine WpOps.fork 6 (!valid N ls) [14, 15, 16, 17, 18, 19] 19 (true) ((↑(List.length T) : Int) != N) (by kernel_rfl) (fun g19 => ?_) (fun g19 => ?_) (fun f_19 b19 hb19 => ?_)
  · refine um 14 ?_ (hw := wants_tf g19)
    refine um 15 ?_ (hw := wants_tf g19)
    refine um 16 ?_ (hw := wants_tf g19)
    refine um 17 ?_ (hw := wants_tf g19)
    refine um 18 ?_ (hw := wants_tf g19)
    refine kp 19 (.bool true) ?_ (hop := fun _ => o_pickT g19)
    refine WpOps.nil ?_
    exact ⟨rfl, (.upd rfl (.upd rfl (.upd rfl (.upd rfl (.upd rfl (.upd rfl .refl)))))), (by kernel_rfl)⟩
  · refine kp 14 (.iface 92 (Value.iface (List.length T) (Value.iface xt (Value.agg (List.toArray (List.map (fun p => rowF 93 (Prod.fst p) (Prod.snd p)) T)))))) ?_ (hw := wants_ff g19)
    refine kp 15 (.int IntKind.i64 (↑(List.length T) : Int)) ?_ (hw := wants_ff g19)
    refine kp 16 (.pointer (some ⟨0, 0, none⟩)) ?_ (hw := wants_ff g19)
    refine kp 17 (.int IntKind.i64 N) ?_ (hw := wants_ff g19)
    refine kp 18 (.bool ((↑(List.length T) : Int) != N)) ?_ (hw := wants_ff g19)
    refine kp 19 (.bool ((↑(List.length T) : Int) != N)) ?_ (hop := fun _ => o_pickF g19)
    refine WpOps.nil ?_
    exact ⟨rfl, (.upd rfl (.upd rfl (.upd rfl (.upd rfl (.upd rfl (.upd rfl .refl)))))), (by kernel_rfl)⟩
  refine WpOps.nil (thenK_at ?_)
  have hb : b19 = !(valid N ls && !((T.length : Int) != N)) := by
    rw [hb19]
    cases valid N ls <;> cases ((T.length : Int) != N) <;> rfl
  clear hb19
  refine Wp.split (b19) (by kernel_rfl) (fun hx => ?_) (fun hx => ?_)
  · refine Wp.seq (Wp.text ?_)
    refine kp 4 (.bool false) ?_
    refine WpOps.nil (thenK_at (Wp.ret (thenK_ret ?_)))
    refine endK_retn [Value.bool false] (Value.bool false) (by kernel_rfl) (by kernel_rfl) ?_
    have : tabOk N ls T = false := by
      unfold tabOk
      rw [bnot hb, hx]
      rfl
    rw [this]
    rfl
  have hN : (valid N ls && !((T.length : Int) != N)) = true := by rw [bnot hb, hx]; rfl
  clear hb
  have eN : (T.length : Int) = N := by
    rw [Bool.and_eq_true] at hN
    simpa using hN.2
  refine Wp.skip (thenK_at (Wp.seq (Wp.seq (Wp.text ?_))))
  refine kp 5 (.int IntKind.i64 0) ?_
  refine WpOps.nil (thenK_at (Wp.block ?_))
  refine Wp.loop (G := Nat) (fun v => layj [(2, .pointer (some ⟨0, 0, none⟩)), (1, tabF 92 93 xt T), (5, .int .i64 v)]) (fun _ => heapOf [nr N x ls]) (fun v => T.length - v) (fun v => v ≤ T.length ∧ ∀ i, i < v → rowOk N (T.getD i (0, [])).2 i = true) 0
    (View.of [0] [nr N x ls] _ (by decide) rfl ⟨⟨[.int .i64 N, lks x ls], by kernel_rfl, by kernel_rfl, by kernel_rfl⟩, trivial⟩ ⟨⟨by kernel_rfl, rfl⟩, ⟨by kernel_rfl, rfl⟩, ⟨by kernel_rfl, rfl⟩, trivial⟩) ⟨Nat.zero_le _, fun i hi => absurd hi (Nat.not_lt_zero _)⟩ ?_
  rintro v ⟨hle, hp⟩
  by_cases hlt : v < T.length
  · have d1 : decide ((v : Int) < N) = true := decide_eq_true (by omega)
    have g1 : 0 ≤ (v : Int) ∧ (v : Int) < T.length := by omega
    have v1 := tab_at 93 T v (0, []) hlt
    obtain ⟨p, hpT⟩ : ∃ p, p = T.getD v (0, []) := ⟨_, rfl⟩
    have hpm : p ∈ T := by
      rw [hpT, List.getD_eq_getElem?_getD, List.getElem?_eq_getElem hlt]
      exact List.getElem_mem _
    have hwp := hw p hpm
    rw [← hpT] at v1
    obtain ⟨xr, l⟩ := p
    unfold rowF at v1
    dsimp only at v1 hwp
    unfold tabF nr lks
    refine Wp.seq (Wp.seq (Wp.text ?_))
    refine kp 20 (.int IntKind.i64 (↑v : Int)) ?_
    refine kp 21 (.pointer (some ⟨0, 0, none⟩)) ?_
    refine kp 22 (.int IntKind.i64 N) ?_
    refine kp 23 (.bool true) ?_ (hop := fun _ => by_fact d1)
    refine WpOps.nil (thenK_at (on' (Wp.skip (thenK_at (Wp.seq (Wp.block (Wp.seq (Wp.seq ?_))))))))
    refine Wp.region (by kernel_rfl) ?_
    refine kp 26 (.iface 92 (Value.iface (List.length T) (Value.iface xt (Value.agg (List.toArray (List.map (fun p => rowF 93 (Prod.fst p) (Prod.snd p)) T)))))) ?_
    refine kp 27 (.int IntKind.i64 (↑v : Int)) ?_
    refine kp 28 (.iface 92 (Value.iface (Int.toNat (↑v : Int) * 1) (Value.agg (List.toArray (List.map (fun p => rowF 93 (Prod.fst p) (Prod.snd p)) T))))) ?_ (hop := fun _ => o_indexI (e := 92) (size := 1) (a := (↑v : Int)) g1)
    refine kp 29 (.iface 93 (Value.iface (List.length l) (Value.iface xr (Value.agg (List.toArray (rcs l)))))) ?_ (hop := fun _ => o_loadI1 (Int.toNat (↑v : Int) * 1) v1)
    refine kp 30 (.int IntKind.i64 (↑(List.length l) : Int)) ?_
    refine kp 31 (.pointer (some ⟨0, 0, none⟩)) ?_
    refine kp 32 (.int IntKind.i64 N) ?_
    refine kp 33 (.bool ((↑(List.length l) : Int) != N)) ?_
    refine WpOps.nil (thenK_at ?_)
    refine Wp.split ((↑(List.length l) : Int) != N) (by kernel_rfl) (fun hx2 => ?_) (fun hx2 => ?_)
    · refine Wp.seq (Wp.text ?_)
      refine kp 4 (.bool false) ?_
      refine WpOps.nil (thenK_at (Wp.ret (thenK_ret (blockK_ret (thenK_ret (thenK_ret (blockK_ret (thenK_ret ?_))))))))
      refine endK_retn [Value.bool false] (Value.bool false) (by kernel_rfl) (by kernel_rfl) ?_
      rw [tabOk_bad hlt (by rw [← hpT]; unfold rowOk; rw [hx2]; rfl)]
      rfl
    have eL : (l.length : Int) = N := by simpa using hx2
    refine Wp.skip (thenK_at (Wp.seq (Wp.text ?_)))
    refine kp 6 (.int IntKind.i64 0) ?_
    refine WpOps.nil (thenK_at (Wp.block ?_))
    refine Wp.loop (G := Nat) (fun k => layj [(2, .pointer (some ⟨0, 0, none⟩)), (1, tabF 92 93 xt T), (5, .int .i64 v), (6, .int .i64 k)]) (fun _ => heapOf [nr N x ls]) (fun k => l.length - k) (fun k => k ≤ l.length ∧ ∀ i, i < k → routeB N v i (l.getD i (0, 0)) = true) 0
      (View.of [0] [nr N x ls] _ (by decide) rfl ⟨⟨[.int .i64 N, lks x ls], by kernel_rfl, by kernel_rfl, by kernel_rfl⟩, trivial⟩ ⟨⟨by kernel_rfl, rfl⟩, ⟨by kernel_rfl, rfl⟩, ⟨by kernel_rfl, rfl⟩, ⟨by kernel_rfl, rfl⟩, trivial⟩) ⟨Nat.zero_le _, fun i hi => absurd hi (Nat.not_lt_zero _)⟩ ?_
    rintro k ⟨hk, hq⟩
    by_cases hlt2 : k < l.length
    · have d2 : decide ((k : Int) < N) = true := decide_eq_true (by omega)
      have g2 : 0 ≤ (k : Int) ∧ (k : Int) < l.length := by omega
      have v2 := rcs_cells l k (0, 0) hlt2
      have c1 := route62 N x ls v k (l.getD k (0, 0))
      unfold rc at v2
      unfold netV lks at c1
      unfold rowF nr lks
      refine Wp.seq (Wp.seq (Wp.text ?_))
      refine kp 34 (.int IntKind.i64 (↑k : Int)) ?_
      refine kp 35 (.pointer (some ⟨0, 0, none⟩)) ?_
      refine kp 36 (.int IntKind.i64 N) ?_
      refine kp 37 (.bool true) ?_ (hop := fun _ => by_fact d2)
      refine WpOps.nil (thenK_at (on' (Wp.skip (thenK_at (Wp.seq (Wp.block (Wp.seq (Wp.text ?_))))))))
      refine kp 40 (.iface 92 (Value.iface (List.length T) (Value.iface xt (Value.agg (List.toArray (List.map (fun p => rowF 93 (Prod.fst p) (Prod.snd p)) T)))))) ?_
      refine kp 41 (.int IntKind.i64 (↑v : Int)) ?_
      refine kp 42 (.iface 92 (Value.iface (Int.toNat (↑v : Int) * 1) (Value.agg (List.toArray (List.map (fun p => rowF 93 (Prod.fst p) (Prod.snd p)) T))))) ?_ (hop := fun _ => o_indexI (e := 92) (size := 1) (a := (↑v : Int)) g1)
      refine kp 43 (.iface 93 (Value.iface (List.length l) (Value.iface xr (Value.agg (List.toArray (rcs l)))))) ?_ (hop := fun _ => o_loadI1 (Int.toNat (↑v : Int) * 1) v1)
      refine kp 44 (.int IntKind.i64 (↑k : Int)) ?_
      refine kp 45 (.iface 93 (Value.iface (Int.toNat (↑k : Int) * 2) (Value.agg (List.toArray (rcs l))))) ?_ (hop := fun _ => o_indexI (e := 93) (size := 2) (a := (↑k : Int)) g2)
      refine kp 46 (.agg #[Value.int .i64 (Prod.fst (List.getD l k (0, 0))), Value.int .i64 (Prod.snd (List.getD l k (0, 0)))]) ?_ (hop := fun _ => o_loadIA (Int.toNat (↑k : Int) * 2) v2)
      refine md 7 (.pointer (some ⟨1, 0, none⟩)) (Blk.mk 93 true [Value.int .i64 0, Value.int .i64 0]) ?_
      refine ld (.tuple #[]) (1) (Blk.mk 93 true [Value.int .i64 (Prod.fst (List.getD l k (0, 0))), Value.int .i64 (Prod.snd (List.getD l k (0, 0)))]) ?_
      refine WpOps.nil (thenK_at (Wp.seq (Wp.seq (Wp.text ?_))))
      refine kp 47 (.int IntKind.i64 (↑v : Int)) ?_
      refine kp 48 (.int IntKind.i64 (↑k : Int)) ?_
      refine kp 49 (.bool ((↑v : Int) == (↑k : Int))) ?_
      refine kp 50 (.bool ((↑v : Int) == (↑k : Int))) ?_
      refine WpOps.fork 5 ((↑v : Int) == (↑k : Int)) [51, 52, 53, 54, 55] 55 (!(fun q => Prod.fst (List.getD l k (0, 0)) == 0 && q) ((fun q => Prod.snd (List.getD l k (0, 0)) == (↑v : Int) && q) true)) (false) (by kernel_rfl) (fun g55 => ?_) (fun g55 => ?_) (fun f_55 b55 hb55 => ?_)
      · refine kp 51 (.agg #[Value.int .i64 (Prod.fst (List.getD l k (0, 0))), Value.int .i64 (Prod.snd (List.getD l k (0, 0)))]) ?_ (hw := wants_tt g55)
        refine kp 52 (.int IntKind.i64 (↑v : Int)) ?_ (hw := wants_tt g55)
        refine kp 53 (.agg #[Value.int .i64 0, Value.int .i64 (↑v : Int)]) ?_ (hw := wants_tt g55)
        refine kp 54 (.bool !(fun q => Prod.fst (List.getD l k (0, 0)) == 0 && q) ((fun q => Prod.snd (List.getD l k (0, 0)) == (↑v : Int) && q) true)) ?_ (hw := wants_tt g55)
        refine kp 55 (.bool !(fun q => Prod.fst (List.getD l k (0, 0)) == 0 && q) ((fun q => Prod.snd (List.getD l k (0, 0)) == (↑v : Int) && q) true)) ?_ (hop := fun _ => o_pickT g55)
        refine WpOps.nil ?_
        exact ⟨rfl, (.upd rfl (.upd rfl (.upd rfl (.upd rfl (.upd rfl .refl))))), (by kernel_rfl)⟩
      · refine um 51 ?_ (hw := wants_ft g55)
        refine um 52 ?_ (hw := wants_ft g55)
        refine um 53 ?_ (hw := wants_ft g55)
        refine um 54 ?_ (hw := wants_ft g55)
        refine kp 55 (.bool false) ?_ (hop := fun _ => o_pickF g55)
        refine WpOps.nil ?_
        exact ⟨rfl, (.upd rfl (.upd rfl (.upd rfl (.upd rfl (.upd rfl .refl))))), (by kernel_rfl)⟩
      refine WpOps.nil (thenK_at ?_)
      have hb55' := hb55
      refine Wp.split (b55) (by kernel_rfl) (fun hx3 => ?_) (fun hx3 => ?_)
      · refine Wp.seq (Wp.text ?_)
        refine kp 4 (.bool false) ?_
        refine WpOps.nil (thenK_at (Wp.ret (thenK_ret (blockK_ret (thenK_ret (thenK_ret (blockK_ret (blockK_ret (thenK_ret (thenK_ret (blockK_ret (thenK_ret ?_))))))))))))
        refine endK_retn [Value.bool false] (Value.bool false) (by kernel_rfl) (by kernel_rfl) ?_
        have hx4 : routeB N v k (l.getD k (0, 0)) = false := ref_rt1 (hb55.symm.trans hx3)
        rw [tabOk_bad hlt (by rw [← hpT]; unfold rowOk; rw [allR_false hlt2 hx4, Bool.and_false])]
        rfl
      refine Wp.skip (thenK_at (Wp.seq (Wp.text ?_)))
      refine kp 56 (.pointer (some ⟨1, 0, none⟩)) ?_
      refine kp 57 (.int IntKind.i64 (Prod.fst (List.getD l k (0, 0)))) ?_
      refine kp 58 (.bool (Prod.fst (List.getD l k (0, 0)) == 16)) ?_
      refine kp 59 (.bool (Prod.fst (List.getD l k (0, 0)) == 16)) ?_
      refine WpOps.fork 4 (Prod.fst (List.getD l k (0, 0)) == 16) [60, 61, 62, 63] 63 (Prod.snd (List.getD l k (0, 0)) == -1) (false) (by kernel_rfl) (fun g63 => ?_) (fun g63 => ?_) (fun f_63 b63 hb63 => ?_)
      · refine kp 60 (.pointer (some ⟨1, 1, none⟩)) ?_ (hw := wants_tt g63)
        refine kp 61 (.int IntKind.i64 (Prod.snd (List.getD l k (0, 0)))) ?_ (hw := wants_tt g63)
        refine kp 62 (.bool (Prod.snd (List.getD l k (0, 0)) == -1)) ?_ (hw := wants_tt g63)
        refine kp 63 (.bool (Prod.snd (List.getD l k (0, 0)) == -1)) ?_ (hop := fun _ => o_pickT g63)
        refine WpOps.nil ?_
        exact ⟨rfl, (.upd rfl (.upd rfl (.upd rfl (.upd rfl .refl)))), (by kernel_rfl)⟩
      · refine um 60 ?_ (hw := wants_ft g63)
        refine um 61 ?_ (hw := wants_ft g63)
        refine um 62 ?_ (hw := wants_ft g63)
        refine kp 63 (.bool false) ?_ (hop := fun _ => o_pickF g63)
        refine WpOps.nil ?_
        exact ⟨rfl, (.upd rfl (.upd rfl (.upd rfl (.upd rfl .refl)))), (by kernel_rfl)⟩
      refine kp 8 (.bool b63) ?_
      refine WpOps.nil (thenK_at (Wp.seq (Wp.text ?_)))
      refine kp 64 (.pointer (some ⟨1, 0, none⟩)) ?_
      refine kp 65 (.int IntKind.i64 (Prod.fst (List.getD l k (0, 0)))) ?_
      refine kp 66 (.bool (decide (Prod.fst (List.getD l k (0, 0)) ≥ 1))) ?_
      refine kp 67 (.bool (decide (Prod.fst (List.getD l k (0, 0)) ≥ 1))) ?_
      refine WpOps.fork 4 (decide (Prod.fst (List.getD l k (0, 0)) ≥ 1)) [68, 69, 70, 71] 71 (decide (Prod.fst (List.getD l k (0, 0)) < 16)) (false) (by kernel_rfl) (fun g71 => ?_) (fun g71 => ?_) (fun f_71 b71 hb71 => ?_)
      · refine kp 68 (.pointer (some ⟨1, 0, none⟩)) ?_ (hw := wants_tt g71)
        refine kp 69 (.int IntKind.i64 (Prod.fst (List.getD l k (0, 0)))) ?_ (hw := wants_tt g71)
        refine kp 70 (.bool (decide (Prod.fst (List.getD l k (0, 0)) < 16))) ?_ (hw := wants_tt g71)
        refine kp 71 (.bool (decide (Prod.fst (List.getD l k (0, 0)) < 16))) ?_ (hop := fun _ => o_pickT g71)
        refine WpOps.nil ?_
        exact ⟨rfl, (.upd rfl (.upd rfl (.upd rfl (.upd rfl .refl)))), (by kernel_rfl)⟩
      · refine um 68 ?_ (hw := wants_ft g71)
        refine um 69 ?_ (hw := wants_ft g71)
        refine um 70 ?_ (hw := wants_ft g71)
        refine kp 71 (.bool false) ?_ (hop := fun _ => o_pickF g71)
        refine WpOps.nil ?_
        exact ⟨rfl, (.upd rfl (.upd rfl (.upd rfl (.upd rfl .refl)))), (by kernel_rfl)⟩
      refine kp 72 (.bool b71) ?_
      refine WpOps.fork 4 (b71) [73, 74, 75, 76] 76 (decide (Prod.snd (List.getD l k (0, 0)) ≥ 0)) (false) (by kernel_rfl) (fun g76 => ?_) (fun g76 => ?_) (fun f_76 b76 hb76 => ?_)
      · refine kp 73 (.pointer (some ⟨1, 1, none⟩)) ?_ (hw := wants_tt g76)
        refine kp 74 (.int IntKind.i64 (Prod.snd (List.getD l k (0, 0)))) ?_ (hw := wants_tt g76)
        refine kp 75 (.bool (decide (Prod.snd (List.getD l k (0, 0)) ≥ 0))) ?_ (hw := wants_tt g76)
        refine kp 76 (.bool (decide (Prod.snd (List.getD l k (0, 0)) ≥ 0))) ?_ (hop := fun _ => o_pickT g76)
        refine WpOps.nil ?_
        exact ⟨rfl, (.upd rfl (.upd rfl (.upd rfl (.upd rfl .refl)))), (by kernel_rfl)⟩
      · refine um 73 ?_ (hw := wants_ft g76)
        refine um 74 ?_ (hw := wants_ft g76)
        refine um 75 ?_ (hw := wants_ft g76)
        refine kp 76 (.bool false) ?_ (hop := fun _ => o_pickF g76)
        refine WpOps.nil ?_
        exact ⟨rfl, (.upd rfl (.upd rfl (.upd rfl (.upd rfl .refl)))), (by kernel_rfl)⟩
      refine kp 77 (.bool b76) ?_
      refine WpOps.fork 6 (b76) [78, 79, 80, 81, 82, 83] 83 (decide (Prod.snd (List.getD l k (0, 0)) < N)) (false) (by kernel_rfl) (fun g83 => ?_) (fun g83 => ?_) (fun f_83 b83 hb83 => ?_)
      · refine kp 78 (.pointer (some ⟨1, 1, none⟩)) ?_ (hw := wants_tt g83)
        refine kp 79 (.int IntKind.i64 (Prod.snd (List.getD l k (0, 0)))) ?_ (hw := wants_tt g83)
        refine kp 80 (.pointer (some ⟨0, 0, none⟩)) ?_ (hw := wants_tt g83)
        refine kp 81 (.int IntKind.i64 N) ?_ (hw := wants_tt g83)
        refine kp 82 (.bool (decide (Prod.snd (List.getD l k (0, 0)) < N))) ?_ (hw := wants_tt g83)
        refine kp 83 (.bool (decide (Prod.snd (List.getD l k (0, 0)) < N))) ?_ (hop := fun _ => o_pickT g83)
        refine WpOps.nil ?_
        exact ⟨rfl, (.upd rfl (.upd rfl (.upd rfl (.upd rfl (.upd rfl (.upd rfl .refl)))))), (by kernel_rfl)⟩
      · refine um 78 ?_ (hw := wants_ft g83)
        refine um 79 ?_ (hw := wants_ft g83)
        refine um 80 ?_ (hw := wants_ft g83)
        refine um 81 ?_ (hw := wants_ft g83)
        refine um 82 ?_ (hw := wants_ft g83)
        refine kp 83 (.bool false) ?_ (hop := fun _ => o_pickF g83)
        refine WpOps.nil ?_
        exact ⟨rfl, (.upd rfl (.upd rfl (.upd rfl (.upd rfl (.upd rfl (.upd rfl .refl)))))), (by kernel_rfl)⟩
      refine kp 84 (.bool b83) ?_
      refine WpOps.fork 5 (b83) [85, 86, 87, 88, 89] 89 (Prod.snd (List.getD l k (0, 0)) != (↑v : Int)) (false) (by kernel_rfl) (fun g89 => ?_) (fun g89 => ?_) (fun f_89 b89 hb89 => ?_)
      · refine kp 85 (.pointer (some ⟨1, 1, none⟩)) ?_ (hw := wants_tt g89)
        refine kp 86 (.int IntKind.i64 (Prod.snd (List.getD l k (0, 0)))) ?_ (hw := wants_tt g89)
        refine kp 87 (.int IntKind.i64 (↑v : Int)) ?_ (hw := wants_tt g89)
        refine kp 88 (.bool (Prod.snd (List.getD l k (0, 0)) != (↑v : Int))) ?_ (hw := wants_tt g89)
        refine kp 89 (.bool (Prod.snd (List.getD l k (0, 0)) != (↑v : Int))) ?_ (hop := fun _ => o_pickT g89)
        refine WpOps.nil ?_
        exact ⟨rfl, (.upd rfl (.upd rfl (.upd rfl (.upd rfl (.upd rfl .refl))))), (by kernel_rfl)⟩
      · refine um 85 ?_ (hw := wants_ft g89)
        refine um 86 ?_ (hw := wants_ft g89)
        refine um 87 ?_ (hw := wants_ft g89)
        refine um 88 ?_ (hw := wants_ft g89)
        refine kp 89 (.bool false) ?_ (hop := fun _ => o_pickF g89)
        refine WpOps.nil ?_
        exact ⟨rfl, (.upd rfl (.upd rfl (.upd rfl (.upd rfl (.upd rfl .refl))))), (by kernel_rfl)⟩
      refine kp 9 (.bool b89) ?_
      refine WpOps.nil (thenK_at (Wp.seq (Wp.text ?_)))
      refine kp 90 (.int IntKind.i64 (↑v : Int)) ?_
      refine kp 91 (.int IntKind.i64 (↑k : Int)) ?_
      refine kp 92 (.bool ((↑v : Int) != (↑k : Int))) ?_
      refine kp 93 (.bool ((↑v : Int) != (↑k : Int))) ?_
      refine WpOps.fork 3 ((↑v : Int) != (↑k : Int)) [94, 95, 96] 96 (!b63) (false) (by kernel_rfl) (fun g96 => ?_) (fun g96 => ?_) (fun f_96 b96 hb96 => ?_)
      · refine kp 94 (.bool b63) ?_ (hw := wants_tt g96)
        refine kp 95 (.bool !b63) ?_ (hw := wants_tt g96)
        refine kp 96 (.bool !b63) ?_ (hop := fun _ => o_pickT g96)
        refine WpOps.nil ?_
        exact ⟨rfl, (.upd rfl (.upd rfl (.upd rfl .refl))), (by kernel_rfl)⟩
      · refine um 94 ?_ (hw := wants_ft g96)
        refine um 95 ?_ (hw := wants_ft g96)
        refine kp 96 (.bool false) ?_ (hop := fun _ => o_pickF g96)
        refine WpOps.nil ?_
        exact ⟨rfl, (.upd rfl (.upd rfl (.upd rfl .refl))), (by kernel_rfl)⟩
      refine kp 97 (.bool b96) ?_
      refine WpOps.fork 3 (b96) [98, 99, 100] 100 (!b89) (false) (by kernel_rfl) (fun g100 => ?_) (fun g100 => ?_) (fun f_100 b100 hb100 => ?_)
      · refine kp 98 (.bool b89) ?_ (hw := wants_tt g100)
        refine kp 99 (.bool !b89) ?_ (hw := wants_tt g100)
        refine kp 100 (.bool !b89) ?_ (hop := fun _ => o_pickT g100)
        refine WpOps.nil ?_
        exact ⟨rfl, (.upd rfl (.upd rfl (.upd rfl .refl))), (by kernel_rfl)⟩
      · refine um 98 ?_ (hw := wants_ft g100)
        refine um 99 ?_ (hw := wants_ft g100)
        refine kp 100 (.bool false) ?_ (hop := fun _ => o_pickF g100)
        refine WpOps.nil ?_
        exact ⟨rfl, (.upd rfl (.upd rfl (.upd rfl .refl))), (by kernel_rfl)⟩
      refine WpOps.nil (thenK_at ?_)
      have hb : b100 = !routeB N v k (l.getD k (0, 0)) := by
        subst hb89 hb83 hb76 hb71 hb63 hb96
        rw [hb100]
        exact ref_rt2 (hb55.symm.trans hx3)
      clear hb100
      refine Wp.split (b100) (by kernel_rfl) (fun hx5 => ?_) (fun hx5 => ?_)
      · refine Wp.seq (Wp.text ?_)
        refine kp 4 (.bool false) ?_
        refine WpOps.nil (thenK_at (Wp.ret (blockK_ret (thenK_ret (thenK_ret (blockK_ret (blockK_ret (thenK_ret (thenK_ret (blockK_ret (thenK_ret ?_)))))))))))
        refine endK_retn [Value.bool false] (Value.bool false) (by kernel_rfl) (by kernel_rfl) ?_
        have hx4 : routeB N v k (l.getD k (0, 0)) = false := by rw [bnot hb, hx5]; rfl
        rw [tabOk_bad hlt (by rw [← hpT]; unfold rowOk; rw [allR_false hlt2 hx4, Bool.and_false])]
        rfl
      · refine Wp.skip (blockK_norm (thenK_at (Wp.text ?_)))
        refine kp 38 (.int IntKind.i64 (↑k : Int)) ?_
        refine kp 39 (.int IntKind.i64 (IntKind.wrap .i64 ((↑k : Int) + 1))) ?_
        refine kp 6 (.int IntKind.i64 (IntKind.wrap .i64 ((↑k : Int) + 1))) ?_
        refine WpOps.nil (thenK_at ?_)
        have hx4 : routeB N v k (l.getD k (0, 0)) = true := by rw [bnot hb, hx5]; rfl
        exact ⟨k + 1, by omega, ⟨by omega, upto hq hx4⟩, View.of [0] [nr N x ls] _ (by decide) rfl ⟨⟨[.int .i64 N, lks x ls], by kernel_rfl, by kernel_rfl, by kernel_rfl⟩, trivial⟩ ⟨⟨by kernel_rfl, rfl⟩, ⟨by kernel_rfl, rfl⟩, ⟨by kernel_rfl, rfl⟩, ⟨congrArg (Value.int .i64) (wr _ (by omega) (by omega)), rfl⟩, trivial⟩⟩
    · obtain rfl : k = l.length := by omega
      have d2 : decide ((l.length : Int) < N) = false := decide_eq_false (by omega)
      unfold nr lks
      refine Wp.seq (Wp.seq (Wp.text ?_))
      refine kp 34 (.int IntKind.i64 (↑(List.length l) : Int)) ?_
      refine kp 35 (.pointer (some ⟨0, 0, none⟩)) ?_
      refine kp 36 (.int IntKind.i64 N) ?_
      refine kp 37 (.bool false) ?_ (hop := fun _ => by_fact d2)
      refine WpOps.nil (thenK_at (off' (Wp.exit (thenK_exit (thenK_exit (blockK_hit (blockK_norm (thenK_at (Wp.text ?_)))))))))
      refine kp 24 (.int IntKind.i64 (↑v : Int)) ?_
      refine kp 25 (.int IntKind.i64 (IntKind.wrap .i64 ((↑v : Int) + 1))) ?_
      refine kp 5 (.int IntKind.i64 (IntKind.wrap .i64 ((↑v : Int) + 1))) ?_
      refine WpOps.nil (thenK_at ?_)
      exact ⟨v + 1, by omega, ⟨by omega, upto hp (by rw [← hpT]; unfold rowOk; rw [hx2, allR_true hq]; rfl)⟩, View.of [0] [nr N x ls] _ (by decide) rfl ⟨⟨[.int .i64 N, lks x ls], by kernel_rfl, by kernel_rfl, by kernel_rfl⟩, trivial⟩ ⟨⟨by kernel_rfl, rfl⟩, ⟨by kernel_rfl, rfl⟩, ⟨congrArg (Value.int .i64) (wr _ (by omega) (by omega)), rfl⟩, trivial⟩⟩
  · obtain rfl : v = T.length := by omega
    have d1 : decide ((T.length : Int) < N) = false := decide_eq_false (by omega)
    unfold nr lks
    refine Wp.seq (Wp.seq (Wp.text ?_))
    refine kp 20 (.int IntKind.i64 (↑(List.length T) : Int)) ?_
    refine kp 21 (.pointer (some ⟨0, 0, none⟩)) ?_
    refine kp 22 (.int IntKind.i64 N) ?_
    refine kp 23 (.bool false) ?_ (hop := fun _ => by_fact d1)
    refine WpOps.nil (thenK_at (off' (Wp.exit (thenK_exit (thenK_exit (blockK_hit (thenK_at (Wp.seq (Wp.text ?_)))))))))
    refine kp 4 (.bool true) ?_
    refine WpOps.nil (thenK_at (Wp.ret ?_))
    refine endK_retn [Value.bool true] (Value.bool true) (by kernel_rfl) (by kernel_rfl) ?_
    have : tabOk N ls T = true := by
      unfold tabOk
      rw [hN, allR_true hp]
      rfl
    rw [this]
    rfl
end Go.Proofs.Ytfjkanjmggbofaa.D
