/- Forwarding: the document's find, Find, Told. -/
import Derived.Test.YtpkkcpglbjbgfaaFwLem
import Derived.Test.YtpkkcpglbjbgfaaG14e
import Derived.Test.YtpkkcpglbjbgfaaG14h
namespace Go.Proofs.Ytpkkcpglbjbgfaa.D
open Go.Fw Go.RowKit

theorem better_pre {l : List En} {i : Nat} (h : enOk (l.getD i zE) = true) : (l.getD i zE).p.length ≤ 10 := by
  unfold enOk isPre at h
  simp only [Bool.and_eq_true] at h
  have := h.1.1
  rcases hx : decide (((l.getD i zE).p.length : Int) ≤ 10) with _ | _
  · rw [hx] at this; cases this
  · have := of_decide_eq_true hx
    omega
theorem f89 : E.funcs 89 = some Try.f89 := by kernel_rfl
theorem find89 (x y : Nat) (l : List En) (a : List Int) (ht : tblOk l = true) (hl : l.length ≤ 100) : Fun E 89 [ents 135 x l, sl y a, .int .i64 100] (.int .i64 (bestAt l a l.length)) := by
  refine Fun.of f89 rfl (of_decide_eq_true (by kernel_rfl)) rfl ?_
  refine Wp.seq ?_
  refine Wp.text ?_
  refine WpOps.keep 6 (Value.int IntKind.i64 0) (by kernel_rfl) (by kernel_rfl) (by kernel_rfl) ?_ (fun cf => (by kernel_rfl))
  refine WpOps.nil ?_
  refine thenK_at ?_
  refine Wp.seq ?_
  refine Wp.text ?_
  refine WpOps.keep 7 (Value.int IntKind.i64 (-1)) (by kernel_rfl) (by kernel_rfl) (by kernel_rfl) ?_ (fun cf => (by kernel_rfl))
  refine WpOps.nil ?_
  refine thenK_at ?_
  refine Wp.seq ?_
  refine Wp.seq ?_
  refine Wp.text ?_
  refine WpOps.keep 8 (Value.int IntKind.i64 0) (by kernel_rfl) (by kernel_rfl) (by kernel_rfl) ?_ (fun cf => (by kernel_rfl))
  refine WpOps.nil ?_
  refine thenK_at ?_
  refine Wp.block ?_
  refine Wp.loop (G := Nat) (fun i => layj [(0, ents 135 x l), (1, sl y a), (2, .int .i64 100), (7, .int .i64 (bestAt l a i)), (8, .int .i64 i)]) (fun _ => heapOf []) (fun i => l.length - i) (fun i => i ≤ l.length) 0
    (View.of [] [] _ List.nodup_nil rfl trivial ⟨⟨by kernel_rfl, rfl⟩, ⟨by kernel_rfl, rfl⟩, ⟨by kernel_rfl, rfl⟩, ⟨by kernel_rfl, rfl⟩, ⟨by kernel_rfl, rfl⟩, trivial⟩) (Nat.zero_le _) ?_
  intro i hi
  refine Wp.seq ?_
  refine Wp.seq ?_
  refine Wp.text ?_
  refine WpOps.keep 9 (Value.int IntKind.i64 (↑i : Int)) (by kernel_rfl) (by kernel_rfl) (by kernel_rfl) ?_ (fun cf => (by kernel_rfl))
  refine WpOps.keep 10 (Value.iface 135 (Value.iface (List.length l) (Value.iface x (Value.agg (List.toArray (List.flatMap ec l)))))) (by kernel_rfl) (by kernel_rfl) (by kernel_rfl) ?_ (fun cf => (by kernel_rfl))
  refine WpOps.keep 11 (Value.int IntKind.i64 (↑(List.length l) : Int)) (by kernel_rfl) (by kernel_rfl) (by kernel_rfl) ?_ (fun cf => (by kernel_rfl))
  refine WpOps.keep 12 (Value.bool (decide ((↑i : Int) < (↑(List.length l) : Int)))) (by kernel_rfl) (by kernel_rfl) (by kernel_rfl) ?_ (fun cf => (by kernel_rfl))
  refine WpOps.nil ?_
  refine thenK_at ?_
  refine Wp.split (decide ((↑i : Int) < (↑(List.length l) : Int))) (by kernel_rfl) (fun hc => ?_) (fun hc => ?_)
  · have hlt : (i : Int) < l.length := of_decide_eq_true hc
    have hi2 : i < l.length := by omega
    have h0 : 0 ≤ (i : Int) ∧ (i : Int) < l.length := ⟨Int.natCast_nonneg _, hlt⟩
    have ge : l.getD i zE = l[i] := by rw [List.getD_eq_getElem?_getD, List.getElem?_eq_getElem hi2]; rfl
    have hv : (List.flatMap ec l)[((i : Int)).toNat * 2 + 0]? = some (sl (l[i]).x (l[i]).p) := by
      rw [Int.toNat_natCast, flat_get ec 2 (fun _ => rfl) l i 0 hi2 (by omega)]
      rfl
    have h10 : (l.getD i zE).p.length ≤ 10 := better_pre (row_enOk hi2 ht)
    have z0 : decide (((l[i]).p.length : Int) < 100) = true := decide_eq_true (by rw [← ge]; omega)
    have c1 := begins97 (l[i]).x y (l[i]).p a (by rw [← ge]; omega)
    have hbi := best_in l a i
    by_cases hz : bestAt l a i < 0
    · have z1 : decide (bestAt l a i < 0) = true := decide_eq_true hz
      refine Wp.skip ?_
      refine thenK_at ?_
      refine Wp.seq ?_
      refine Wp.block ?_
      refine Wp.seq ?_
      refine Wp.region (by kernel_rfl) ?_
      refine WpOps.keep 15 (Value.iface 135 (Value.iface (List.length l) (Value.iface x (Value.agg (List.toArray (List.flatMap ec l)))))) (by kernel_rfl) (by kernel_rfl) (by kernel_rfl) ?_ (fun cf => (by kernel_rfl))
      refine WpOps.keep 16 (Value.int IntKind.i64 (↑i : Int)) (by kernel_rfl) (by kernel_rfl) (by kernel_rfl) ?_ (fun cf => (by kernel_rfl))
      refine WpOps.keep 17 (Value.iface 135 (Value.iface (Int.toNat (↑i : Int) * 2) (Value.agg (List.toArray (List.flatMap ec l))))) (by kernel_rfl) (by kernel_rfl) (by kernel_rfl) ?_ (fun cf => o_indexI (e := 135) (size := 2) (a := (↑i : Int)) h0 (by kernel_rfl) (by kernel_rfl) (by kernel_rfl) (by kernel_rfl))
      refine WpOps.keep 18 (Value.iface 135 (Value.iface (Int.toNat (↑i : Int) * 2 + 0) (Value.agg (List.toArray (List.flatMap ec l))))) (by kernel_rfl) (by kernel_rfl) (by kernel_rfl) ?_ (fun cf => (by kernel_rfl))
      refine WpOps.keep 19 (Value.iface 3 (Value.iface (List.length (En.p l[i])) (Value.iface (En.x l[i]) (Value.agg (List.toArray (List.map (fun n => Value.int IntKind.i64 n) (En.p l[i]))))))) (by kernel_rfl) (by kernel_rfl) (by kernel_rfl) ?_ (fun cf => o_loadI1 (Int.toNat (↑i : Int) * 2 + 0) hv (by kernel_rfl) (by kernel_rfl))
      refine WpOps.keep 20 (Value.int IntKind.i64 (↑(List.length (En.p l[i])) : Int)) (by kernel_rfl) (by kernel_rfl) (by kernel_rfl) ?_ (fun cf => (by kernel_rfl))
      refine WpOps.keep 21 (Value.int IntKind.i64 100) (by kernel_rfl) (by kernel_rfl) (by kernel_rfl) ?_ (fun cf => (by kernel_rfl))
      refine WpOps.keep 22 (Value.bool true) (by kernel_rfl) (by kernel_rfl) (by kernel_rfl) ?_ (fun cf => by_fact z0 ((by kernel_rfl)))
      refine WpOps.keep 23 (Value.bool true) (by kernel_rfl) (by kernel_rfl) (by kernel_rfl) ?_ (fun cf => (by kernel_rfl))
      refine WpOps.keep 24 (Value.iface 135 (Value.iface (List.length l) (Value.iface x (Value.agg (List.toArray (List.flatMap ec l)))))) (by kernel_rfl) (by kernel_rfl) (by kernel_rfl) ?_ (fun cf => (by kernel_rfl))
      refine WpOps.keep 25 (Value.int IntKind.i64 (↑i : Int)) (by kernel_rfl) (by kernel_rfl) (by kernel_rfl) ?_ (fun cf => (by kernel_rfl))
      refine WpOps.keep 26 (Value.iface 135 (Value.iface (Int.toNat (↑i : Int) * 2) (Value.agg (List.toArray (List.flatMap ec l))))) (by kernel_rfl) (by kernel_rfl) (by kernel_rfl) ?_ (fun cf => o_indexI (e := 135) (size := 2) (a := (↑i : Int)) h0 (by kernel_rfl) (by kernel_rfl) (by kernel_rfl) (by kernel_rfl))
      refine WpOps.keep 27 (Value.iface 135 (Value.iface (Int.toNat (↑i : Int) * 2 + 0) (Value.agg (List.toArray (List.flatMap ec l))))) (by kernel_rfl) (by kernel_rfl) (by kernel_rfl) ?_ (fun cf => (by kernel_rfl))
      refine WpOps.keep 28 (Value.iface 3 (Value.iface (List.length (En.p l[i])) (Value.iface (En.x l[i]) (Value.agg (List.toArray (List.map (fun n => Value.int IntKind.i64 n) (En.p l[i]))))))) (by kernel_rfl) (by kernel_rfl) (by kernel_rfl) ?_ (fun cf => o_loadI1 (Int.toNat (↑i : Int) * 2 + 0) hv (by kernel_rfl) (by kernel_rfl))
      refine WpOps.keep 29 (Value.iface 3 (Value.iface (List.length a) (Value.iface y (Value.agg (List.toArray (List.map (fun n => Value.int IntKind.i64 n) a)))))) (by kernel_rfl) (by kernel_rfl) (by kernel_rfl) ?_ (fun cf => (by kernel_rfl))
      refine WpOps.framed 30 97 [Value.iface 3 (Value.iface (List.length (En.p l[i])) (Value.iface (En.x l[i]) (Value.agg (List.toArray (List.map (fun n => Value.int IntKind.i64 n) (En.p l[i])))))), Value.iface 3 (Value.iface (List.length a) (Value.iface y (Value.agg (List.toArray (List.map (fun n => Value.int IntKind.i64 n) a)))))] (by kernel_rfl) (by kernel_rfl) (by kernel_rfl) (by kernel_rfl) (by kernel_rfl) (fun cf => (by kernel_rfl)) ?_
      refine WpFun.of (c1) ?_
      refine WpOps.keep 31 (Value.bool (beginsB a (En.p l[i]))) (by kernel_rfl) (by kernel_rfl) (by kernel_rfl) ?_ (fun cf => (by kernel_rfl))
      refine WpOps.keep 32 (Value.bool (beginsB a (En.p l[i]))) (by kernel_rfl) (by kernel_rfl) (by kernel_rfl) ?_ (fun cf => (by kernel_rfl))
      refine WpOps.fork 18 (beginsB a (En.p l[i])) [33, 34, 35, 36, 37, 38, 39, 40, 41, 42, 43, 44, 45, 46, 47, 48, 49, 50] 50 (true) (false) (by kernel_rfl) (fun g50 => ?_) (fun g50 => ?_) (fun f_50 b50 hb50 => ?_)
      · refine WpOps.keep 33 (Value.int IntKind.i64 (bestAt l a i)) (by kernel_rfl) (by kernel_rfl) (wants_tt g50 (by kernel_rfl)) ?_ (fun cf => (by kernel_rfl))
        refine WpOps.keep 34 (Value.bool true) (by kernel_rfl) (by kernel_rfl) (wants_tt g50 (by kernel_rfl)) ?_ (fun cf => by_fact z1 ((by kernel_rfl)))
        refine WpOps.keep 35 (Value.bool true) (by kernel_rfl) (by kernel_rfl) (wants_tt g50 (by kernel_rfl)) ?_ (fun cf => (by kernel_rfl))
        refine WpOps.unmet 36 (by kernel_rfl) (by kernel_rfl) (by kernel_rfl) ?_
        refine WpOps.unmet 37 (by kernel_rfl) (by kernel_rfl) (by kernel_rfl) ?_
        refine WpOps.unmet 38 (by kernel_rfl) (by kernel_rfl) (by kernel_rfl) ?_
        refine WpOps.unmet 39 (by kernel_rfl) (by kernel_rfl) (by kernel_rfl) ?_
        refine WpOps.unmet 40 (by kernel_rfl) (by kernel_rfl) (by kernel_rfl) ?_
        refine WpOps.unmet 41 (by kernel_rfl) (by kernel_rfl) (by kernel_rfl) ?_
        refine WpOps.unmet 42 (by kernel_rfl) (by kernel_rfl) (by kernel_rfl) ?_
        refine WpOps.unmet 43 (by kernel_rfl) (by kernel_rfl) (by kernel_rfl) ?_
        refine WpOps.unmet 44 (by kernel_rfl) (by kernel_rfl) (by kernel_rfl) ?_
        refine WpOps.unmet 45 (by kernel_rfl) (by kernel_rfl) (by kernel_rfl) ?_
        refine WpOps.unmet 46 (by kernel_rfl) (by kernel_rfl) (by kernel_rfl) ?_
        refine WpOps.unmet 47 (by kernel_rfl) (by kernel_rfl) (by kernel_rfl) ?_
        refine WpOps.unmet 48 (by kernel_rfl) (by kernel_rfl) (by kernel_rfl) ?_
        refine WpOps.keep 49 (Value.bool true) (by kernel_rfl) (by kernel_rfl) (wants_tt g50 (by kernel_rfl)) ?_ (fun cf => (by kernel_rfl))
        refine WpOps.keep 50 (Value.bool true) (by kernel_rfl) (by kernel_rfl) (by kernel_rfl) ?_ (fun cf => o_pickT g50 (by kernel_rfl) (by kernel_rfl))
        refine WpOps.nil ?_
        exact ⟨rfl, (.upd rfl (.upd rfl (.upd rfl (.upd rfl (.upd rfl (.upd rfl (.upd rfl (.upd rfl (.upd rfl (.upd rfl (.upd rfl (.upd rfl (.upd rfl (.upd rfl (.upd rfl (.upd rfl (.upd rfl (.upd rfl .refl)))))))))))))))))), (by kernel_rfl)⟩
      · refine WpOps.unmet 33 (by kernel_rfl) (by kernel_rfl) (wants_ft g50 (by kernel_rfl)) ?_
        refine WpOps.unmet 34 (by kernel_rfl) (by kernel_rfl) (wants_ft g50 (by kernel_rfl)) ?_
        refine WpOps.unmet 35 (by kernel_rfl) (by kernel_rfl) (wants_ft g50 (by kernel_rfl)) ?_
        refine WpOps.unmet 36 (by kernel_rfl) (by kernel_rfl) (by kernel_rfl) ?_
        refine WpOps.unmet 37 (by kernel_rfl) (by kernel_rfl) (by kernel_rfl) ?_
        refine WpOps.unmet 38 (by kernel_rfl) (by kernel_rfl) (by kernel_rfl) ?_
        refine WpOps.unmet 39 (by kernel_rfl) (by kernel_rfl) (by kernel_rfl) ?_
        refine WpOps.unmet 40 (by kernel_rfl) (by kernel_rfl) (by kernel_rfl) ?_
        refine WpOps.unmet 41 (by kernel_rfl) (by kernel_rfl) (by kernel_rfl) ?_
        refine WpOps.unmet 42 (by kernel_rfl) (by kernel_rfl) (by kernel_rfl) ?_
        refine WpOps.unmet 43 (by kernel_rfl) (by kernel_rfl) (by kernel_rfl) ?_
        refine WpOps.unmet 44 (by kernel_rfl) (by kernel_rfl) (by kernel_rfl) ?_
        refine WpOps.unmet 45 (by kernel_rfl) (by kernel_rfl) (by kernel_rfl) ?_
        refine WpOps.unmet 46 (by kernel_rfl) (by kernel_rfl) (by kernel_rfl) ?_
        refine WpOps.unmet 47 (by kernel_rfl) (by kernel_rfl) (by kernel_rfl) ?_
        refine WpOps.unmet 48 (by kernel_rfl) (by kernel_rfl) (by kernel_rfl) ?_
        refine WpOps.unmet 49 (by kernel_rfl) (by kernel_rfl) (wants_ft g50 (by kernel_rfl)) ?_
        refine WpOps.keep 50 (Value.bool false) (by kernel_rfl) (by kernel_rfl) (by kernel_rfl) ?_ (fun cf => o_pickF g50 (by kernel_rfl) (by kernel_rfl))
        refine WpOps.nil ?_
        exact ⟨rfl, (.upd rfl (.upd rfl (.upd rfl (.upd rfl (.upd rfl (.upd rfl (.upd rfl (.upd rfl (.upd rfl (.upd rfl (.upd rfl (.upd rfl (.upd rfl (.upd rfl (.upd rfl (.upd rfl (.upd rfl (.upd rfl .refl)))))))))))))))))), (by kernel_rfl)⟩
      refine WpOps.nil ?_
      refine thenK_at ?_
      have hr : b50 = better l a (bestAt l a i) i := by
        rw [hb50]
        unfold better
        rw [decide_eq_true h10, ge, z1]
        cases beginsB a (l[i]).p <;> rfl
      refine Wp.split (b50) (by kernel_rfl) (fun hb => ?_) (fun hb => ?_)
      · have e1 : bestAt l a (i + 1) = i := if_pos (by rw [← hr]; exact hb)
        refine Wp.text ?_
        refine WpOps.keep 51 (Value.int IntKind.i64 (↑i : Int)) (by kernel_rfl) (by kernel_rfl) (by kernel_rfl) ?_ (fun cf => (by kernel_rfl))
        refine WpOps.keep 7 (Value.int IntKind.i64 (↑i : Int)) (by kernel_rfl) (by kernel_rfl) (by kernel_rfl) ?_ (fun cf => (by kernel_rfl))
        refine WpOps.nil ?_
        refine blockK_norm ?_
        refine thenK_at ?_
        refine Wp.text ?_
        refine WpOps.keep 13 (Value.int IntKind.i64 (↑i : Int)) (by kernel_rfl) (by kernel_rfl) (by kernel_rfl) ?_ (fun cf => (by kernel_rfl))
        refine WpOps.keep 14 (Value.int IntKind.i64 (IntKind.wrap IntKind.i64 ((↑i : Int) + 1))) (by kernel_rfl) (by kernel_rfl) (by kernel_rfl) ?_ (fun cf => (by kernel_rfl))
        refine WpOps.keep 8 (Value.int IntKind.i64 (IntKind.wrap IntKind.i64 ((↑i : Int) + 1))) (by kernel_rfl) (by kernel_rfl) (by kernel_rfl) ?_ (fun cf => (by kernel_rfl))
        refine WpOps.nil ?_
        refine thenK_at ?_
        exact ⟨i + 1, by omega, by omega, View.of [] [] _ List.nodup_nil rfl trivial ⟨⟨by kernel_rfl, rfl⟩, ⟨by kernel_rfl, rfl⟩, ⟨by kernel_rfl, rfl⟩, ⟨congrArg (Value.int .i64) e1.symm, rfl⟩, ⟨congrArg (Value.int .i64) (wrap_i64 ((i : Int) + 1) (by omega) (by omega)), rfl⟩, trivial⟩⟩
      · have e1 : bestAt l a (i + 1) = bestAt l a i := if_neg (by rw [← hr, hb]; decide)
        refine Wp.skip ?_
        refine blockK_norm ?_
        refine thenK_at ?_
        refine Wp.text ?_
        refine WpOps.keep 13 (Value.int IntKind.i64 (↑i : Int)) (by kernel_rfl) (by kernel_rfl) (by kernel_rfl) ?_ (fun cf => (by kernel_rfl))
        refine WpOps.keep 14 (Value.int IntKind.i64 (IntKind.wrap IntKind.i64 ((↑i : Int) + 1))) (by kernel_rfl) (by kernel_rfl) (by kernel_rfl) ?_ (fun cf => (by kernel_rfl))
        refine WpOps.keep 8 (Value.int IntKind.i64 (IntKind.wrap IntKind.i64 ((↑i : Int) + 1))) (by kernel_rfl) (by kernel_rfl) (by kernel_rfl) ?_ (fun cf => (by kernel_rfl))
        refine WpOps.nil ?_
        refine thenK_at ?_
        exact ⟨i + 1, by omega, by omega, View.of [] [] _ List.nodup_nil rfl trivial ⟨⟨by kernel_rfl, rfl⟩, ⟨by kernel_rfl, rfl⟩, ⟨by kernel_rfl, rfl⟩, ⟨congrArg (Value.int .i64) e1.symm, rfl⟩, ⟨congrArg (Value.int .i64) (wrap_i64 ((i : Int) + 1) (by omega) (by omega)), rfl⟩, trivial⟩⟩
    · have z1 : decide (bestAt l a i < 0) = false := decide_eq_false hz
      have h1 : 0 ≤ bestAt l a i ∧ bestAt l a i < l.length := by omega
      have gb : l.getD (bestAt l a i).toNat zE = l[(bestAt l a i).toNat]'(by omega) := by rw [List.getD_eq_getElem?_getD, List.getElem?_eq_getElem (show (bestAt l a i).toNat < l.length by omega)]; rfl
      have hw : (List.flatMap ec l)[(bestAt l a i).toNat * 2 + 0]? = some (sl (l[(bestAt l a i).toNat]'(by omega)).x (l[(bestAt l a i).toNat]'(by omega)).p) := by
        rw [flat_get ec 2 (fun _ => rfl) l (bestAt l a i).toNat 0 (by omega) (by omega)]
        rfl
      refine Wp.skip ?_
      refine thenK_at ?_
      refine Wp.seq ?_
      refine Wp.block ?_
      refine Wp.seq ?_
      refine Wp.region (by kernel_rfl) ?_
      refine WpOps.keep 15 (Value.iface 135 (Value.iface (List.length l) (Value.iface x (Value.agg (List.toArray (List.flatMap ec l)))))) (by kernel_rfl) (by kernel_rfl) (by kernel_rfl) ?_ (fun cf => (by kernel_rfl))
      refine WpOps.keep 16 (Value.int IntKind.i64 (↑i : Int)) (by kernel_rfl) (by kernel_rfl) (by kernel_rfl) ?_ (fun cf => (by kernel_rfl))
      refine WpOps.keep 17 (Value.iface 135 (Value.iface (Int.toNat (↑i : Int) * 2) (Value.agg (List.toArray (List.flatMap ec l))))) (by kernel_rfl) (by kernel_rfl) (by kernel_rfl) ?_ (fun cf => o_indexI (e := 135) (size := 2) (a := (↑i : Int)) h0 (by kernel_rfl) (by kernel_rfl) (by kernel_rfl) (by kernel_rfl))
      refine WpOps.keep 18 (Value.iface 135 (Value.iface (Int.toNat (↑i : Int) * 2 + 0) (Value.agg (List.toArray (List.flatMap ec l))))) (by kernel_rfl) (by kernel_rfl) (by kernel_rfl) ?_ (fun cf => (by kernel_rfl))
      refine WpOps.keep 19 (Value.iface 3 (Value.iface (List.length (En.p l[i])) (Value.iface (En.x l[i]) (Value.agg (List.toArray (List.map (fun n => Value.int IntKind.i64 n) (En.p l[i]))))))) (by kernel_rfl) (by kernel_rfl) (by kernel_rfl) ?_ (fun cf => o_loadI1 (Int.toNat (↑i : Int) * 2 + 0) hv (by kernel_rfl) (by kernel_rfl))
      refine WpOps.keep 20 (Value.int IntKind.i64 (↑(List.length (En.p l[i])) : Int)) (by kernel_rfl) (by kernel_rfl) (by kernel_rfl) ?_ (fun cf => (by kernel_rfl))
      refine WpOps.keep 21 (Value.int IntKind.i64 100) (by kernel_rfl) (by kernel_rfl) (by kernel_rfl) ?_ (fun cf => (by kernel_rfl))
      refine WpOps.keep 22 (Value.bool true) (by kernel_rfl) (by kernel_rfl) (by kernel_rfl) ?_ (fun cf => by_fact z0 ((by kernel_rfl)))
      refine WpOps.keep 23 (Value.bool true) (by kernel_rfl) (by kernel_rfl) (by kernel_rfl) ?_ (fun cf => (by kernel_rfl))
      refine WpOps.keep 24 (Value.iface 135 (Value.iface (List.length l) (Value.iface x (Value.agg (List.toArray (List.flatMap ec l)))))) (by kernel_rfl) (by kernel_rfl) (by kernel_rfl) ?_ (fun cf => (by kernel_rfl))
      refine WpOps.keep 25 (Value.int IntKind.i64 (↑i : Int)) (by kernel_rfl) (by kernel_rfl) (by kernel_rfl) ?_ (fun cf => (by kernel_rfl))
      refine WpOps.keep 26 (Value.iface 135 (Value.iface (Int.toNat (↑i : Int) * 2) (Value.agg (List.toArray (List.flatMap ec l))))) (by kernel_rfl) (by kernel_rfl) (by kernel_rfl) ?_ (fun cf => o_indexI (e := 135) (size := 2) (a := (↑i : Int)) h0 (by kernel_rfl) (by kernel_rfl) (by kernel_rfl) (by kernel_rfl))
      refine WpOps.keep 27 (Value.iface 135 (Value.iface (Int.toNat (↑i : Int) * 2 + 0) (Value.agg (List.toArray (List.flatMap ec l))))) (by kernel_rfl) (by kernel_rfl) (by kernel_rfl) ?_ (fun cf => (by kernel_rfl))
      refine WpOps.keep 28 (Value.iface 3 (Value.iface (List.length (En.p l[i])) (Value.iface (En.x l[i]) (Value.agg (List.toArray (List.map (fun n => Value.int IntKind.i64 n) (En.p l[i]))))))) (by kernel_rfl) (by kernel_rfl) (by kernel_rfl) ?_ (fun cf => o_loadI1 (Int.toNat (↑i : Int) * 2 + 0) hv (by kernel_rfl) (by kernel_rfl))
      refine WpOps.keep 29 (Value.iface 3 (Value.iface (List.length a) (Value.iface y (Value.agg (List.toArray (List.map (fun n => Value.int IntKind.i64 n) a)))))) (by kernel_rfl) (by kernel_rfl) (by kernel_rfl) ?_ (fun cf => (by kernel_rfl))
      refine WpOps.framed 30 97 [Value.iface 3 (Value.iface (List.length (En.p l[i])) (Value.iface (En.x l[i]) (Value.agg (List.toArray (List.map (fun n => Value.int IntKind.i64 n) (En.p l[i])))))), Value.iface 3 (Value.iface (List.length a) (Value.iface y (Value.agg (List.toArray (List.map (fun n => Value.int IntKind.i64 n) a)))))] (by kernel_rfl) (by kernel_rfl) (by kernel_rfl) (by kernel_rfl) (by kernel_rfl) (fun cf => (by kernel_rfl)) ?_
      refine WpFun.of (c1) ?_
      refine WpOps.keep 31 (Value.bool (beginsB a (En.p l[i]))) (by kernel_rfl) (by kernel_rfl) (by kernel_rfl) ?_ (fun cf => (by kernel_rfl))
      refine WpOps.keep 32 (Value.bool (beginsB a (En.p l[i]))) (by kernel_rfl) (by kernel_rfl) (by kernel_rfl) ?_ (fun cf => (by kernel_rfl))
      refine WpOps.fork 18 (beginsB a (En.p l[i])) [33, 34, 35, 36, 37, 38, 39, 40, 41, 42, 43, 44, 45, 46, 47, 48, 49, 50] 50 (decide ((↑(List.length (En.p l[i])) : Int) > (↑(List.length (En.p l[Int.toNat (bestAt l a i)])) : Int))) (false) (by kernel_rfl) (fun g50 => ?_) (fun g50 => ?_) (fun f_50 b50 hb50 => ?_)
      · refine WpOps.keep 33 (Value.int IntKind.i64 (bestAt l a i)) (by kernel_rfl) (by kernel_rfl) (wants_tt g50 (by kernel_rfl)) ?_ (fun cf => (by kernel_rfl))
        refine WpOps.keep 34 (Value.bool false) (by kernel_rfl) (by kernel_rfl) (wants_tt g50 (by kernel_rfl)) ?_ (fun cf => by_fact z1 ((by kernel_rfl)))
        refine WpOps.keep 35 (Value.bool false) (by kernel_rfl) (by kernel_rfl) (wants_tt g50 (by kernel_rfl)) ?_ (fun cf => (by kernel_rfl))
        refine WpOps.keep 36 (Value.iface 135 (Value.iface (List.length l) (Value.iface x (Value.agg (List.toArray (List.flatMap ec l)))))) (by kernel_rfl) (by kernel_rfl) (by kernel_rfl) ?_ (fun cf => (by kernel_rfl))
        refine WpOps.keep 37 (Value.int IntKind.i64 (↑i : Int)) (by kernel_rfl) (by kernel_rfl) (by kernel_rfl) ?_ (fun cf => (by kernel_rfl))
        refine WpOps.keep 38 (Value.iface 135 (Value.iface (Int.toNat (↑i : Int) * 2) (Value.agg (List.toArray (List.flatMap ec l))))) (by kernel_rfl) (by kernel_rfl) (by kernel_rfl) ?_ (fun cf => o_indexI (e := 135) (size := 2) (a := (↑i : Int)) h0 (by kernel_rfl) (by kernel_rfl) (by kernel_rfl) (by kernel_rfl))
        refine WpOps.keep 39 (Value.iface 135 (Value.iface (Int.toNat (↑i : Int) * 2 + 0) (Value.agg (List.toArray (List.flatMap ec l))))) (by kernel_rfl) (by kernel_rfl) (by kernel_rfl) ?_ (fun cf => (by kernel_rfl))
        refine WpOps.keep 40 (Value.iface 3 (Value.iface (List.length (En.p l[i])) (Value.iface (En.x l[i]) (Value.agg (List.toArray (List.map (fun n => Value.int IntKind.i64 n) (En.p l[i]))))))) (by kernel_rfl) (by kernel_rfl) (by kernel_rfl) ?_ (fun cf => o_loadI1 (Int.toNat (↑i : Int) * 2 + 0) hv (by kernel_rfl) (by kernel_rfl))
        refine WpOps.keep 41 (Value.int IntKind.i64 (↑(List.length (En.p l[i])) : Int)) (by kernel_rfl) (by kernel_rfl) (by kernel_rfl) ?_ (fun cf => (by kernel_rfl))
        refine WpOps.keep 42 (Value.iface 135 (Value.iface (List.length l) (Value.iface x (Value.agg (List.toArray (List.flatMap ec l)))))) (by kernel_rfl) (by kernel_rfl) (by kernel_rfl) ?_ (fun cf => (by kernel_rfl))
        refine WpOps.keep 43 (Value.int IntKind.i64 (bestAt l a i)) (by kernel_rfl) (by kernel_rfl) (by kernel_rfl) ?_ (fun cf => (by kernel_rfl))
        refine WpOps.keep 44 (Value.iface 135 (Value.iface (Int.toNat (bestAt l a i) * 2) (Value.agg (List.toArray (List.flatMap ec l))))) (by kernel_rfl) (by kernel_rfl) (by kernel_rfl) ?_ (fun cf => o_indexI (e := 135) (size := 2) (a := bestAt l a i) h1 (by kernel_rfl) (by kernel_rfl) (by kernel_rfl) (by kernel_rfl))
        refine WpOps.keep 45 (Value.iface 135 (Value.iface (Int.toNat (bestAt l a i) * 2 + 0) (Value.agg (List.toArray (List.flatMap ec l))))) (by kernel_rfl) (by kernel_rfl) (by kernel_rfl) ?_ (fun cf => (by kernel_rfl))
        refine WpOps.keep 46 (Value.iface 3 (Value.iface (List.length (En.p l[Int.toNat (bestAt l a i)])) (Value.iface (En.x l[Int.toNat (bestAt l a i)]) (Value.agg (List.toArray (List.map (fun n => Value.int IntKind.i64 n) (En.p l[Int.toNat (bestAt l a i)]))))))) (by kernel_rfl) (by kernel_rfl) (by kernel_rfl) ?_ (fun cf => o_loadI1 (Int.toNat (bestAt l a i) * 2 + 0) hw (by kernel_rfl) (by kernel_rfl))
        refine WpOps.keep 47 (Value.int IntKind.i64 (↑(List.length (En.p l[Int.toNat (bestAt l a i)])) : Int)) (by kernel_rfl) (by kernel_rfl) (by kernel_rfl) ?_ (fun cf => (by kernel_rfl))
        refine WpOps.keep 48 (Value.bool (decide ((↑(List.length (En.p l[i])) : Int) > (↑(List.length (En.p l[Int.toNat (bestAt l a i)])) : Int)))) (by kernel_rfl) (by kernel_rfl) (by kernel_rfl) ?_ (fun cf => (by kernel_rfl))
        refine WpOps.keep 49 (Value.bool (decide ((↑(List.length (En.p l[i])) : Int) > (↑(List.length (En.p l[Int.toNat (bestAt l a i)])) : Int)))) (by kernel_rfl) (by kernel_rfl) (wants_tt g50 (by kernel_rfl)) ?_ (fun cf => (by kernel_rfl))
        refine WpOps.keep 50 (Value.bool (decide ((↑(List.length (En.p l[i])) : Int) > (↑(List.length (En.p l[Int.toNat (bestAt l a i)])) : Int)))) (by kernel_rfl) (by kernel_rfl) (by kernel_rfl) ?_ (fun cf => o_pickT g50 (by kernel_rfl) (by kernel_rfl))
        refine WpOps.nil ?_
        exact ⟨rfl, (.upd rfl (.upd rfl (.upd rfl (.upd rfl (.upd rfl (.upd rfl (.upd rfl (.upd rfl (.upd rfl (.upd rfl (.upd rfl (.upd rfl (.upd rfl (.upd rfl (.upd rfl (.upd rfl (.upd rfl (.upd rfl .refl)))))))))))))))))), (by kernel_rfl)⟩
      · refine WpOps.unmet 33 (by kernel_rfl) (by kernel_rfl) (wants_ft g50 (by kernel_rfl)) ?_
        refine WpOps.unmet 34 (by kernel_rfl) (by kernel_rfl) (wants_ft g50 (by kernel_rfl)) ?_
        refine WpOps.unmet 35 (by kernel_rfl) (by kernel_rfl) (wants_ft g50 (by kernel_rfl)) ?_
        refine WpOps.unmet 36 (by kernel_rfl) (by kernel_rfl) (by kernel_rfl) ?_
        refine WpOps.unmet 37 (by kernel_rfl) (by kernel_rfl) (by kernel_rfl) ?_
        refine WpOps.unmet 38 (by kernel_rfl) (by kernel_rfl) (by kernel_rfl) ?_
        refine WpOps.unmet 39 (by kernel_rfl) (by kernel_rfl) (by kernel_rfl) ?_
        refine WpOps.unmet 40 (by kernel_rfl) (by kernel_rfl) (by kernel_rfl) ?_
        refine WpOps.unmet 41 (by kernel_rfl) (by kernel_rfl) (by kernel_rfl) ?_
        refine WpOps.unmet 42 (by kernel_rfl) (by kernel_rfl) (by kernel_rfl) ?_
        refine WpOps.unmet 43 (by kernel_rfl) (by kernel_rfl) (by kernel_rfl) ?_
        refine WpOps.unmet 44 (by kernel_rfl) (by kernel_rfl) (by kernel_rfl) ?_
        refine WpOps.unmet 45 (by kernel_rfl) (by kernel_rfl) (by kernel_rfl) ?_
        refine WpOps.unmet 46 (by kernel_rfl) (by kernel_rfl) (by kernel_rfl) ?_
        refine WpOps.unmet 47 (by kernel_rfl) (by kernel_rfl) (by kernel_rfl) ?_
        refine WpOps.unmet 48 (by kernel_rfl) (by kernel_rfl) (by kernel_rfl) ?_
        refine WpOps.unmet 49 (by kernel_rfl) (by kernel_rfl) (wants_ft g50 (by kernel_rfl)) ?_
        refine WpOps.keep 50 (Value.bool false) (by kernel_rfl) (by kernel_rfl) (by kernel_rfl) ?_ (fun cf => o_pickF g50 (by kernel_rfl) (by kernel_rfl))
        refine WpOps.nil ?_
        exact ⟨rfl, (.upd rfl (.upd rfl (.upd rfl (.upd rfl (.upd rfl (.upd rfl (.upd rfl (.upd rfl (.upd rfl (.upd rfl (.upd rfl (.upd rfl (.upd rfl (.upd rfl (.upd rfl (.upd rfl (.upd rfl (.upd rfl .refl)))))))))))))))))), (by kernel_rfl)⟩
      refine WpOps.nil ?_
      refine thenK_at ?_
      have hr : b50 = better l a (bestAt l a i) i := by
        have d2 : decide (((l[i]).p.length : Int) > ((l[(bestAt l a i).toNat]'(by omega)).p.length : Int)) = decide ((l[i]).p.length > (l[(bestAt l a i).toNat]'(by omega)).p.length) := decide_eq_decide.2 (by omega)
        rw [hb50, d2]
        unfold better
        rw [decide_eq_true h10, ge, gb, z1]
        cases beginsB a (l[i]).p <;> rfl
      refine Wp.split (b50) (by kernel_rfl) (fun hb => ?_) (fun hb => ?_)
      · have e1 : bestAt l a (i + 1) = i := if_pos (by rw [← hr]; exact hb)
        refine Wp.text ?_
        refine WpOps.keep 51 (Value.int IntKind.i64 (↑i : Int)) (by kernel_rfl) (by kernel_rfl) (by kernel_rfl) ?_ (fun cf => (by kernel_rfl))
        refine WpOps.keep 7 (Value.int IntKind.i64 (↑i : Int)) (by kernel_rfl) (by kernel_rfl) (by kernel_rfl) ?_ (fun cf => (by kernel_rfl))
        refine WpOps.nil ?_
        refine blockK_norm ?_
        refine thenK_at ?_
        refine Wp.text ?_
        refine WpOps.keep 13 (Value.int IntKind.i64 (↑i : Int)) (by kernel_rfl) (by kernel_rfl) (by kernel_rfl) ?_ (fun cf => (by kernel_rfl))
        refine WpOps.keep 14 (Value.int IntKind.i64 (IntKind.wrap IntKind.i64 ((↑i : Int) + 1))) (by kernel_rfl) (by kernel_rfl) (by kernel_rfl) ?_ (fun cf => (by kernel_rfl))
        refine WpOps.keep 8 (Value.int IntKind.i64 (IntKind.wrap IntKind.i64 ((↑i : Int) + 1))) (by kernel_rfl) (by kernel_rfl) (by kernel_rfl) ?_ (fun cf => (by kernel_rfl))
        refine WpOps.nil ?_
        refine thenK_at ?_
        exact ⟨i + 1, by omega, by omega, View.of [] [] _ List.nodup_nil rfl trivial ⟨⟨by kernel_rfl, rfl⟩, ⟨by kernel_rfl, rfl⟩, ⟨by kernel_rfl, rfl⟩, ⟨congrArg (Value.int .i64) e1.symm, rfl⟩, ⟨congrArg (Value.int .i64) (wrap_i64 ((i : Int) + 1) (by omega) (by omega)), rfl⟩, trivial⟩⟩
      · have e1 : bestAt l a (i + 1) = bestAt l a i := if_neg (by rw [← hr, hb]; decide)
        refine Wp.skip ?_
        refine blockK_norm ?_
        refine thenK_at ?_
        refine Wp.text ?_
        refine WpOps.keep 13 (Value.int IntKind.i64 (↑i : Int)) (by kernel_rfl) (by kernel_rfl) (by kernel_rfl) ?_ (fun cf => (by kernel_rfl))
        refine WpOps.keep 14 (Value.int IntKind.i64 (IntKind.wrap IntKind.i64 ((↑i : Int) + 1))) (by kernel_rfl) (by kernel_rfl) (by kernel_rfl) ?_ (fun cf => (by kernel_rfl))
        refine WpOps.keep 8 (Value.int IntKind.i64 (IntKind.wrap IntKind.i64 ((↑i : Int) + 1))) (by kernel_rfl) (by kernel_rfl) (by kernel_rfl) ?_ (fun cf => (by kernel_rfl))
        refine WpOps.nil ?_
        refine thenK_at ?_
        exact ⟨i + 1, by omega, by omega, View.of [] [] _ List.nodup_nil rfl trivial ⟨⟨by kernel_rfl, rfl⟩, ⟨by kernel_rfl, rfl⟩, ⟨by kernel_rfl, rfl⟩, ⟨congrArg (Value.int .i64) e1.symm, rfl⟩, ⟨congrArg (Value.int .i64) (wrap_i64 ((i : Int) + 1) (by omega) (by omega)), rfl⟩, trivial⟩⟩
  · obtain rfl : i = l.length := by have := of_decide_eq_false hc; omega
    refine Wp.exit ?_
    refine thenK_exit ?_
    refine thenK_exit ?_
    refine blockK_hit ?_
    refine thenK_at ?_
    refine Wp.seq ?_
    refine Wp.text ?_
    refine WpOps.keep 52 (Value.int IntKind.i64 (bestAt l a (List.length l))) (by kernel_rfl) (by kernel_rfl) (by kernel_rfl) ?_ (fun cf => (by kernel_rfl))
    refine WpOps.keep 6 (Value.int IntKind.i64 (bestAt l a (List.length l))) (by kernel_rfl) (by kernel_rfl) (by kernel_rfl) ?_ (fun cf => (by kernel_rfl))
    refine WpOps.nil ?_
    refine thenK_at ?_
    refine Wp.ret ?_
    refine endK_retn [Value.int IntKind.i64 (bestAt l a (List.length l))] (Value.int IntKind.i64 (bestAt l a (List.length l))) (by kernel_rfl) (by kernel_rfl) ?_
    rfl
theorem f90 : E.funcs 90 = some Try.f90 := by kernel_rfl
theorem ice_own {hp : Heap} {a : Option Addr} {n c : Nat} {u : Value} (to : Int) (h1 : iceV E hp (.slice a n c) = some u) : iceV E hp (.agg #[.slice a n c, .int .i64 to]) = some (.agg #[u, .int .i64 to]) := by
  have h2 : iceC E hp 4 (.slice a n c) = some u := h1
  show (mapO (iceC E hp 4) [.slice a n c, .int .i64 to]).map _ = _
  simp only [mapO, h2]
  rfl
theorem own90 (e : En) (hl : e.p.length ≤ 10) : Fun E 90 [evl e] (evl { e with x := 0 }) := by
  refine Fun.of f90 rfl (of_decide_eq_true (by kernel_rfl)) rfl ?_
  refine Wp.seq ?_
  refine Wp.text ?_
  refine WpOps.made 1 (Value.pointer (some (Addr.mk 0 0 none))) (Blk.mk 135 true [Value.iface 3 (Value.iface (List.length (En.p e)) (Value.iface (En.x e) (Value.agg (List.toArray (List.map (fun n => Value.int IntKind.i64 n) (En.p e)))))), Value.int IntKind.i64 (En.to e)]) (by kernel_rfl) (by kernel_rfl) (by kernel_rfl) ?_ (fun cf => (by kernel_rfl))
  refine WpOps.made 2 (Value.pointer (some (Addr.mk 1 0 none))) (Blk.mk 135 true [Value.slice none 0 0, Value.int IntKind.i64 0]) (by kernel_rfl) (by kernel_rfl) (by kernel_rfl) ?_ (fun cf => (by kernel_rfl))
  refine WpOps.nil ?_
  refine thenK_at ?_
  refine Wp.seq ?_
  by_cases h0 : e.p.length = 0
  · have hp : e.p = [] := List.eq_nil_of_length_eq_zero h0
    obtain ⟨ex, ep, eto⟩ := e
    dsimp only at hp
    subst hp
    refine Wp.regionV [[0, 1, 2, 3, 4, 5, 6, 7], [0, 1, 2, 4, 5, 3, 6, 7]] (by kernel_rfl) [(2, .pointer (some ⟨0, 0, none⟩))] [⟨135, true, [.slice (some ⟨1, 0, none⟩) 0 0, .int .i64 eto]⟩, ⟨3, true, []⟩] (allC ?_ (all1 ?_)) ?_
    rotate_right
    · refine thenK_at ?_
      refine Wp.ret ?_
      refine endK_retn [Value.agg #[Value.slice (some (Addr.mk 1 0 none)) 0 0, Value.int IntKind.i64 eto]] (Value.agg #[Value.slice (some (Addr.mk 1 0 none)) 0 0, Value.int IntKind.i64 eto]) (by kernel_rfl) (by kernel_rfl) ?_
      kernel_rfl
    · refine WpOps.made 3 (Value.slice (some (Addr.mk 2 0 none)) 0 0) (Blk.mk 3 true []) (by kernel_rfl) (by kernel_rfl) (by kernel_rfl) ?_ (fun cf => (by kernel_rfl))
      refine WpOps.keep 4 (Value.pointer (some (Addr.mk 0 0 none))) (by kernel_rfl) (by kernel_rfl) (by kernel_rfl) ?_ (fun cf => (by kernel_rfl))
      refine WpOps.keep 5 (Value.iface 3 (Value.iface (List.length (En.p (En.mk ex [] eto))) (Value.iface (En.x (En.mk ex [] eto)) (Value.agg (List.toArray (List.map (fun n => Value.int IntKind.i64 n) (En.p (En.mk ex [] eto)))))))) (by kernel_rfl) (by kernel_rfl) (by kernel_rfl) ?_ (fun cf => (by kernel_rfl))
      refine WpOps.keep 6 (Value.slice (some (Addr.mk 2 0 none)) 0 0) (by kernel_rfl) (by kernel_rfl) (by kernel_rfl) ?_ (fun cf => by kernel_rfl)
      refine WpOps.keep 7 (Value.pointer (some (Addr.mk 0 1 none))) (by kernel_rfl) (by kernel_rfl) (by kernel_rfl) ?_ (fun cf => (by kernel_rfl))
      refine WpOps.keep 8 (Value.int IntKind.i64 (En.to (En.mk ex [] eto))) (by kernel_rfl) (by kernel_rfl) (by kernel_rfl) ?_ (fun cf => (by kernel_rfl))
      refine WpOps.keep 9 (Value.agg #[Value.slice (some (Addr.mk 2 0 none)) 0 0, Value.int IntKind.i64 (En.to (En.mk ex [] eto))]) (by kernel_rfl) (by kernel_rfl) (by kernel_rfl) ?_ (fun cf => (by kernel_rfl))
      refine WpOps.laid (Value.tuple #[]) (1) (Blk.mk 135 true [Value.slice (some (Addr.mk 2 0 none)) 0 0, Value.int IntKind.i64 (En.to (En.mk ex [] eto))]) (by kernel_rfl) (by kernel_rfl) (by kernel_rfl) ?_ (fun cf => (by kernel_rfl))
      refine WpOps.nil ?_
      exact View.of [1, 2] [⟨135, true, [.slice (some ⟨1, 0, none⟩) 0 0, .int .i64 eto]⟩, ⟨3, true, []⟩] _ (by decide) rfl ⟨⟨[.slice (some ⟨2, 0, none⟩) 0 0, .int .i64 eto], by kernel_rfl, ⟨by kernel_rfl, by kernel_rfl⟩⟩, ⟨[], by kernel_rfl, ⟨by kernel_rfl, by kernel_rfl⟩⟩, trivial⟩ ⟨⟨by kernel_rfl, rfl⟩, trivial⟩
    · refine WpOps.made 3 (Value.slice (some (Addr.mk 2 0 none)) 0 0) (Blk.mk 3 true []) (by kernel_rfl) (by kernel_rfl) (by kernel_rfl) ?_ (fun cf => (by kernel_rfl))
      refine WpOps.keep 4 (Value.pointer (some (Addr.mk 0 0 none))) (by kernel_rfl) (by kernel_rfl) (by kernel_rfl) ?_ (fun cf => (by kernel_rfl))
      refine WpOps.keep 5 (Value.iface 3 (Value.iface (List.length (En.p (En.mk ex [] eto))) (Value.iface (En.x (En.mk ex [] eto)) (Value.agg (List.toArray (List.map (fun n => Value.int IntKind.i64 n) (En.p (En.mk ex [] eto)))))))) (by kernel_rfl) (by kernel_rfl) (by kernel_rfl) ?_ (fun cf => (by kernel_rfl))
      refine WpOps.keep 7 (Value.pointer (some (Addr.mk 0 1 none))) (by kernel_rfl) (by kernel_rfl) (by kernel_rfl) ?_ (fun cf => (by kernel_rfl))
      refine WpOps.keep 8 (Value.int IntKind.i64 (En.to (En.mk ex [] eto))) (by kernel_rfl) (by kernel_rfl) (by kernel_rfl) ?_ (fun cf => (by kernel_rfl))
      refine WpOps.keep 6 (Value.slice (some (Addr.mk 2 0 none)) 0 0) (by kernel_rfl) (by kernel_rfl) (by kernel_rfl) ?_ (fun cf => by kernel_rfl)
      refine WpOps.keep 9 (Value.agg #[Value.slice (some (Addr.mk 2 0 none)) 0 0, Value.int IntKind.i64 (En.to (En.mk ex [] eto))]) (by kernel_rfl) (by kernel_rfl) (by kernel_rfl) ?_ (fun cf => (by kernel_rfl))
      refine WpOps.laid (Value.tuple #[]) (1) (Blk.mk 135 true [Value.slice (some (Addr.mk 2 0 none)) 0 0, Value.int IntKind.i64 (En.to (En.mk ex [] eto))]) (by kernel_rfl) (by kernel_rfl) (by kernel_rfl) ?_ (fun cf => (by kernel_rfl))
      refine WpOps.nil ?_
      exact View.of [1, 2] [⟨135, true, [.slice (some ⟨1, 0, none⟩) 0 0, .int .i64 eto]⟩, ⟨3, true, []⟩] _ (by decide) rfl ⟨⟨[.slice (some ⟨2, 0, none⟩) 0 0, .int .i64 eto], by kernel_rfl, ⟨by kernel_rfl, by kernel_rfl⟩⟩, ⟨[], by kernel_rfl, ⟨by kernel_rfl, by kernel_rfl⟩⟩, trivial⟩ ⟨⟨by kernel_rfl, rfl⟩, trivial⟩
  · have s1 : ¬ (0 + e.p.length ≤ 0) := by omega
    have s2 : 1 ≤ 8 ∧ (0 + e.p.length) * 8 ≤ 140737488355328 ∧ 1 = 1 ∧ 0 + e.p.length ≤ 9223372036854775807 := by omega
    refine Wp.regionV [[0, 1, 2, 3, 4, 5, 6, 7], [0, 1, 2, 4, 5, 3, 6, 7]] (by kernel_rfl) [(2, .pointer (some ⟨0, 0, none⟩))] [⟨135, true, [.slice (some ⟨1, 0, none⟩) (0 + e.p.length) (0 + e.p.length), .int .i64 e.to]⟩, ⟨3, true, e.p.map fun n => Value.int .i64 n⟩] (allC ?_ (all1 ?_)) ?_
    rotate_right
    · refine thenK_at ?_
      refine Wp.ret ?_
      refine endK_retn [Value.agg #[Value.slice (some (Addr.mk 1 0 none)) (0 + List.length (En.p e)) (0 + List.length (En.p e)), Value.int IntKind.i64 (En.to e)]] (Value.agg #[Value.slice (some (Addr.mk 1 0 none)) (0 + List.length (En.p e)) (0 + List.length (En.p e)), Value.int IntKind.i64 (En.to e)]) (by kernel_rfl) (by kernel_rfl) ?_
      have hr := ice_row (hp := heapOf [⟨135, true, [.slice (some ⟨1, 0, none⟩) (0 + e.p.length) (0 + e.p.length), .int .i64 e.to]⟩, ⟨3, true, e.p.map fun n => Value.int .i64 n⟩]) (b := 1) (n := 0 + e.p.length) (c := 0 + e.p.length) e.p (Nat.zero_add _) (by kernel_rfl)
      exact ice_own _ hr
    · refine WpOps.made 3 (Value.slice (some (Addr.mk 2 0 none)) 0 0) (Blk.mk 3 true []) (by kernel_rfl) (by kernel_rfl) (by kernel_rfl) ?_ (fun cf => (by kernel_rfl))
      refine WpOps.keep 4 (Value.pointer (some (Addr.mk 0 0 none))) (by kernel_rfl) (by kernel_rfl) (by kernel_rfl) ?_ (fun cf => (by kernel_rfl))
      refine WpOps.keep 5 (Value.iface 3 (Value.iface (List.length (En.p e)) (Value.iface (En.x e) (Value.agg (List.toArray (List.map (fun n => Value.int IntKind.i64 n) (En.p e))))))) (by kernel_rfl) (by kernel_rfl) (by kernel_rfl) ?_ (fun cf => (by kernel_rfl))
      refine WpOps.chg 6 (Value.slice (some (Addr.mk 3 0 none)) (0 + List.length (En.p e)) (0 + List.length (En.p e))) (Heap.alloc (Heap.set (Heap.alloc (Heap.alloc (Heap.alloc Heap.none (Blk.mk 135 true [Value.iface 3 (Value.iface (List.length (En.p e)) (Value.iface (En.x e) (Value.agg (List.toArray (List.map (fun n => Value.int IntKind.i64 n) (En.p e)))))), Value.int IntKind.i64 (En.to e)])) (Blk.mk 135 true [Value.slice none 0 0, Value.int IntKind.i64 0])) (Blk.mk 3 true [])) 2 none) (Blk.mk 3 true ([] ++ Array.toList (List.toArray (List.map (fun n => Value.int IntKind.i64 n) (En.p e)))))) (by kernel_rfl) (by kernel_rfl) (by kernel_rfl) ?_ (fun cf => o_append (e := 3) 2 (0) (0) _ (0) s1 s2 (by kernel_rfl) (by kernel_rfl) (by kernel_rfl) (by kernel_rfl) (by kernel_rfl))
      refine WpOps.keep 7 (Value.pointer (some (Addr.mk 0 1 none))) (by kernel_rfl) (by kernel_rfl) (by kernel_rfl) ?_ (fun cf => (by kernel_rfl))
      refine WpOps.keep 8 (Value.int IntKind.i64 (En.to e)) (by kernel_rfl) (by kernel_rfl) (by kernel_rfl) ?_ (fun cf => (by kernel_rfl))
      refine WpOps.keep 9 (Value.agg #[Value.slice (some (Addr.mk 3 0 none)) (0 + List.length (En.p e)) (0 + List.length (En.p e)), Value.int IntKind.i64 (En.to e)]) (by kernel_rfl) (by kernel_rfl) (by kernel_rfl) ?_ (fun cf => (by kernel_rfl))
      refine WpOps.laid (Value.tuple #[]) (1) (Blk.mk 135 true [Value.slice (some (Addr.mk 3 0 none)) (0 + List.length (En.p e)) (0 + List.length (En.p e)), Value.int IntKind.i64 (En.to e)]) (by kernel_rfl) (by kernel_rfl) (by kernel_rfl) ?_ (fun cf => (by kernel_rfl))
      refine WpOps.nil ?_
      exact View.of [1, 3] [⟨135, true, [.slice (some ⟨1, 0, none⟩) (0 + e.p.length) (0 + e.p.length), .int .i64 e.to]⟩, ⟨3, true, e.p.map fun n => Value.int .i64 n⟩] _ (by decide) rfl ⟨⟨[.slice (some ⟨3, 0, none⟩) (0 + e.p.length) (0 + e.p.length), .int .i64 e.to], by kernel_rfl, ⟨by kernel_rfl, by kernel_rfl⟩⟩, ⟨e.p.map fun n => Value.int .i64 n, by kernel_rfl, CellsOk.eq rfl (by rw [List.all_eq_true]; exact sl_flat e.p)⟩, trivial⟩ ⟨⟨by kernel_rfl, rfl⟩, trivial⟩
    · refine WpOps.made 3 (Value.slice (some (Addr.mk 2 0 none)) 0 0) (Blk.mk 3 true []) (by kernel_rfl) (by kernel_rfl) (by kernel_rfl) ?_ (fun cf => (by kernel_rfl))
      refine WpOps.keep 4 (Value.pointer (some (Addr.mk 0 0 none))) (by kernel_rfl) (by kernel_rfl) (by kernel_rfl) ?_ (fun cf => (by kernel_rfl))
      refine WpOps.keep 5 (Value.iface 3 (Value.iface (List.length (En.p e)) (Value.iface (En.x e) (Value.agg (List.toArray (List.map (fun n => Value.int IntKind.i64 n) (En.p e))))))) (by kernel_rfl) (by kernel_rfl) (by kernel_rfl) ?_ (fun cf => (by kernel_rfl))
      refine WpOps.keep 7 (Value.pointer (some (Addr.mk 0 1 none))) (by kernel_rfl) (by kernel_rfl) (by kernel_rfl) ?_ (fun cf => (by kernel_rfl))
      refine WpOps.keep 8 (Value.int IntKind.i64 (En.to e)) (by kernel_rfl) (by kernel_rfl) (by kernel_rfl) ?_ (fun cf => (by kernel_rfl))
      refine WpOps.chg 6 (Value.slice (some (Addr.mk 3 0 none)) (0 + List.length (En.p e)) (0 + List.length (En.p e))) (Heap.alloc (Heap.set (Heap.alloc (Heap.alloc (Heap.alloc Heap.none (Blk.mk 135 true [Value.iface 3 (Value.iface (List.length (En.p e)) (Value.iface (En.x e) (Value.agg (List.toArray (List.map (fun n => Value.int IntKind.i64 n) (En.p e)))))), Value.int IntKind.i64 (En.to e)])) (Blk.mk 135 true [Value.slice none 0 0, Value.int IntKind.i64 0])) (Blk.mk 3 true [])) 2 none) (Blk.mk 3 true ([] ++ Array.toList (List.toArray (List.map (fun n => Value.int IntKind.i64 n) (En.p e)))))) (by kernel_rfl) (by kernel_rfl) (by kernel_rfl) ?_ (fun cf => o_append (e := 3) 2 (0) (0) _ (0) s1 s2 (by kernel_rfl) (by kernel_rfl) (by kernel_rfl) (by kernel_rfl) (by kernel_rfl))
      refine WpOps.keep 9 (Value.agg #[Value.slice (some (Addr.mk 3 0 none)) (0 + List.length (En.p e)) (0 + List.length (En.p e)), Value.int IntKind.i64 (En.to e)]) (by kernel_rfl) (by kernel_rfl) (by kernel_rfl) ?_ (fun cf => (by kernel_rfl))
      refine WpOps.laid (Value.tuple #[]) (1) (Blk.mk 135 true [Value.slice (some (Addr.mk 3 0 none)) (0 + List.length (En.p e)) (0 + List.length (En.p e)), Value.int IntKind.i64 (En.to e)]) (by kernel_rfl) (by kernel_rfl) (by kernel_rfl) ?_ (fun cf => (by kernel_rfl))
      refine WpOps.nil ?_
      exact View.of [1, 3] [⟨135, true, [.slice (some ⟨1, 0, none⟩) (0 + e.p.length) (0 + e.p.length), .int .i64 e.to]⟩, ⟨3, true, e.p.map fun n => Value.int .i64 n⟩] _ (by decide) rfl ⟨⟨[.slice (some ⟨3, 0, none⟩) (0 + e.p.length) (0 + e.p.length), .int .i64 e.to], by kernel_rfl, ⟨by kernel_rfl, by kernel_rfl⟩⟩, ⟨e.p.map fun n => Value.int .i64 n, by kernel_rfl, CellsOk.eq rfl (by rw [List.all_eq_true]; exact sl_flat e.p)⟩, trivial⟩ ⟨⟨by kernel_rfl, rfl⟩, trivial⟩
/-- What Find of the document comes to. -/
def findR (l : List En) (a : List Int) : Value := match found l a with
    | some e => .tuple #[evl { e with x := 0 }, .int .i64 0]
    | none => .tuple #[zV, .int .i64 3]
theorem findR_ice (l : List En) (a : List Int) : iceV E Heap.none (findR l a) = some (findR l a) := by
  unfold findR
  split <;> rfl
theorem f76 : E.funcs 76 = some Try.f76 := by kernel_rfl
theorem find76 (x y : Nat) (l : List En) (a : List Int) (ok : ∀ e ∈ l, OkEn e) (ht : tblOk l = true) (ha : isAddr a = true) : Fun E 76 [ents 135 x l, sl y a] (findR l a) := by
  refine Fun.of f76 rfl (of_decide_eq_true (by kernel_rfl)) (findR_ice l a) ?_
  have c1 := table74 x l ok
  rw [ht] at c1
  have c2 := valid55 y a
  rw [ha] at c2
  have hl : l.length ≤ 100 := by
    unfold tblOk at ht
    simp only [Bool.and_eq_true, decide_eq_true_eq] at ht
    exact ht.1
  have c3 := find89 x y l a ht hl
  have hb := best_in l a l.length
  unfold findR found
  by_cases hz : bestAt l a l.length < 0
  · have z1 : decide (bestAt l a l.length < 0) = true := decide_eq_true hz
    rw [if_pos hz]
    refine Wp.seq ?_
    refine Wp.text ?_
    refine WpOps.made 4 (Value.pointer (some (Addr.mk 0 0 none))) (Blk.mk 135 true [Value.slice none 0 0, Value.int IntKind.i64 0]) (by kernel_rfl) (by kernel_rfl) (by kernel_rfl) ?_ (fun cf => (by kernel_rfl))
    refine WpOps.keep 5 (Value.int IntKind.i64 0) (by kernel_rfl) (by kernel_rfl) (by kernel_rfl) ?_ (fun cf => (by kernel_rfl))
    refine WpOps.nil ?_
    refine thenK_at ?_
    refine Wp.seq ?_
    refine Wp.seq ?_
    refine Wp.text ?_
    refine WpOps.keep 7 (Value.iface 135 (Value.iface (List.length l) (Value.iface x (Value.agg (List.toArray (List.flatMap ec l)))))) (by kernel_rfl) (by kernel_rfl) (by kernel_rfl) ?_ (fun cf => (by kernel_rfl))
    refine WpOps.framed 8 74 [Value.iface 135 (Value.iface (List.length l) (Value.iface x (Value.agg (List.toArray (List.flatMap ec l)))))] (by kernel_rfl) (by kernel_rfl) (by kernel_rfl) (by kernel_rfl) (by kernel_rfl) (fun cf => (by kernel_rfl)) ?_
    refine WpFun.of (c1) ?_
    refine WpOps.keep 9 (Value.bool false) (by kernel_rfl) (by kernel_rfl) (by kernel_rfl) ?_ (fun cf => (by kernel_rfl))
    refine WpOps.keep 10 (Value.bool false) (by kernel_rfl) (by kernel_rfl) (by kernel_rfl) ?_ (fun cf => (by kernel_rfl))
    refine WpOps.keep 11 (Value.iface 3 (Value.iface (List.length a) (Value.iface y (Value.agg (List.toArray (List.map (fun n => Value.int IntKind.i64 n) a)))))) (by kernel_rfl) (by kernel_rfl) (by kernel_rfl) ?_ (fun cf => (by kernel_rfl))
    refine WpOps.framed 12 55 [Value.iface 3 (Value.iface (List.length a) (Value.iface y (Value.agg (List.toArray (List.map (fun n => Value.int IntKind.i64 n) a)))))] (by kernel_rfl) (by kernel_rfl) (by kernel_rfl) (by kernel_rfl) (by kernel_rfl) (fun cf => (by kernel_rfl)) ?_
    refine WpFun.of (c2) ?_
    refine WpOps.keep 13 (Value.bool false) (by kernel_rfl) (by kernel_rfl) (by kernel_rfl) ?_ (fun cf => (by kernel_rfl))
    refine WpOps.keep 14 (Value.bool false) (by kernel_rfl) (by kernel_rfl) (by kernel_rfl) ?_ (fun cf => (by kernel_rfl))
    refine WpOps.nil ?_
    refine thenK_at ?_
    refine Wp.off (by kernel_rfl) ?_
    refine Wp.skip ?_
    refine thenK_at ?_
    refine Wp.seq ?_
    refine Wp.text ?_
    refine WpOps.keep 16 (Value.iface 135 (Value.iface (List.length l) (Value.iface x (Value.agg (List.toArray (List.flatMap ec l)))))) (by kernel_rfl) (by kernel_rfl) (by kernel_rfl) ?_ (fun cf => (by kernel_rfl))
    refine WpOps.keep 17 (Value.iface 3 (Value.iface (List.length a) (Value.iface y (Value.agg (List.toArray (List.map (fun n => Value.int IntKind.i64 n) a)))))) (by kernel_rfl) (by kernel_rfl) (by kernel_rfl) ?_ (fun cf => (by kernel_rfl))
    refine WpOps.framed 18 89 [Value.iface 135 (Value.iface (List.length l) (Value.iface x (Value.agg (List.toArray (List.flatMap ec l))))), Value.iface 3 (Value.iface (List.length a) (Value.iface y (Value.agg (List.toArray (List.map (fun n => Value.int IntKind.i64 n) a))))), Value.int IntKind.i64 100] (by kernel_rfl) (by kernel_rfl) (by kernel_rfl) (by kernel_rfl) (by kernel_rfl) (fun cf => (by kernel_rfl)) ?_
    refine WpFun.of (c3) ?_
    refine WpOps.keep 6 (Value.int IntKind.i64 (bestAt l a (List.length l))) (by kernel_rfl) (by kernel_rfl) (by kernel_rfl) ?_ (fun cf => (by kernel_rfl))
    refine WpOps.nil ?_
    refine thenK_at ?_
    refine Wp.seq ?_
    refine Wp.seq ?_
    refine Wp.text ?_
    refine WpOps.keep 19 (Value.int IntKind.i64 (bestAt l a (List.length l))) (by kernel_rfl) (by kernel_rfl) (by kernel_rfl) ?_ (fun cf => (by kernel_rfl))
    refine WpOps.keep 20 (Value.bool true) (by kernel_rfl) (by kernel_rfl) (by kernel_rfl) ?_ (fun cf => by_fact z1 ((by kernel_rfl)))
    refine WpOps.nil ?_
    refine thenK_at ?_
    refine Wp.on (by kernel_rfl) ?_
    refine Wp.seq ?_
    refine Wp.text ?_
    refine WpOps.keep 21 (Value.agg #[Value.slice none 0 0, Value.int IntKind.i64 0]) (by kernel_rfl) (by kernel_rfl) (by kernel_rfl) ?_ (fun cf => (by kernel_rfl))
    refine WpOps.laid (Value.tuple #[]) (0) (Blk.mk 135 true [Value.slice none 0 0, Value.int IntKind.i64 0]) (by kernel_rfl) (by kernel_rfl) (by kernel_rfl) ?_ (fun cf => (by kernel_rfl))
    refine WpOps.keep 5 (Value.int IntKind.i64 3) (by kernel_rfl) (by kernel_rfl) (by kernel_rfl) ?_ (fun cf => (by kernel_rfl))
    refine WpOps.nil ?_
    refine thenK_at ?_
    refine Wp.ret ?_
    refine thenK_ret ?_
    refine endK_retn [Value.agg #[Value.slice none 0 0, Value.int IntKind.i64 0], Value.int IntKind.i64 3] (Value.tuple #[Value.agg #[Value.slice none 0 0, Value.int IntKind.i64 0], Value.int IntKind.i64 3]) (by kernel_rfl) (by kernel_rfl) ?_
    kernel_rfl
  · have z1 : decide (bestAt l a l.length < 0) = false := decide_eq_false hz
    rw [if_neg hz]
    have hi : (bestAt l a l.length).toNat < l.length := by omega
    have h1 : 0 ≤ bestAt l a l.length ∧ bestAt l a l.length < l.length := by omega
    have ge : l.getD (bestAt l a l.length).toNat zE = l[(bestAt l a l.length).toNat] := by rw [List.getD_eq_getElem?_getD, List.getElem?_eq_getElem hi]; rfl
    have hv : cellsAt (l.flatMap ec) ((bestAt l a l.length).toNat * 2) 2 = some (ec (l.getD (bestAt l a l.length).toNat zE)) := by
      rw [ge]
      exact flat_at ec 2 (fun _ => rfl) l (bestAt l a l.length).toNat hi
    have c4 := own90 (l.getD (bestAt l a l.length).toNat zE) (better_pre (row_enOk hi ht))
    refine Wp.seq ?_
    refine Wp.text ?_
    refine WpOps.made 4 (Value.pointer (some (Addr.mk 0 0 none))) (Blk.mk 135 true [Value.slice none 0 0, Value.int IntKind.i64 0]) (by kernel_rfl) (by kernel_rfl) (by kernel_rfl) ?_ (fun cf => (by kernel_rfl))
    refine WpOps.keep 5 (Value.int IntKind.i64 0) (by kernel_rfl) (by kernel_rfl) (by kernel_rfl) ?_ (fun cf => (by kernel_rfl))
    refine WpOps.nil ?_
    refine thenK_at ?_
    refine Wp.seq ?_
    refine Wp.seq ?_
    refine Wp.text ?_
    refine WpOps.keep 7 (Value.iface 135 (Value.iface (List.length l) (Value.iface x (Value.agg (List.toArray (List.flatMap ec l)))))) (by kernel_rfl) (by kernel_rfl) (by kernel_rfl) ?_ (fun cf => (by kernel_rfl))
    refine WpOps.framed 8 74 [Value.iface 135 (Value.iface (List.length l) (Value.iface x (Value.agg (List.toArray (List.flatMap ec l)))))] (by kernel_rfl) (by kernel_rfl) (by kernel_rfl) (by kernel_rfl) (by kernel_rfl) (fun cf => (by kernel_rfl)) ?_
    refine WpFun.of (c1) ?_
    refine WpOps.keep 9 (Value.bool false) (by kernel_rfl) (by kernel_rfl) (by kernel_rfl) ?_ (fun cf => (by kernel_rfl))
    refine WpOps.keep 10 (Value.bool false) (by kernel_rfl) (by kernel_rfl) (by kernel_rfl) ?_ (fun cf => (by kernel_rfl))
    refine WpOps.keep 11 (Value.iface 3 (Value.iface (List.length a) (Value.iface y (Value.agg (List.toArray (List.map (fun n => Value.int IntKind.i64 n) a)))))) (by kernel_rfl) (by kernel_rfl) (by kernel_rfl) ?_ (fun cf => (by kernel_rfl))
    refine WpOps.framed 12 55 [Value.iface 3 (Value.iface (List.length a) (Value.iface y (Value.agg (List.toArray (List.map (fun n => Value.int IntKind.i64 n) a)))))] (by kernel_rfl) (by kernel_rfl) (by kernel_rfl) (by kernel_rfl) (by kernel_rfl) (fun cf => (by kernel_rfl)) ?_
    refine WpFun.of (c2) ?_
    refine WpOps.keep 13 (Value.bool false) (by kernel_rfl) (by kernel_rfl) (by kernel_rfl) ?_ (fun cf => (by kernel_rfl))
    refine WpOps.keep 14 (Value.bool false) (by kernel_rfl) (by kernel_rfl) (by kernel_rfl) ?_ (fun cf => (by kernel_rfl))
    refine WpOps.nil ?_
    refine thenK_at ?_
    refine Wp.off (by kernel_rfl) ?_
    refine Wp.skip ?_
    refine thenK_at ?_
    refine Wp.seq ?_
    refine Wp.text ?_
    refine WpOps.keep 16 (Value.iface 135 (Value.iface (List.length l) (Value.iface x (Value.agg (List.toArray (List.flatMap ec l)))))) (by kernel_rfl) (by kernel_rfl) (by kernel_rfl) ?_ (fun cf => (by kernel_rfl))
    refine WpOps.keep 17 (Value.iface 3 (Value.iface (List.length a) (Value.iface y (Value.agg (List.toArray (List.map (fun n => Value.int IntKind.i64 n) a)))))) (by kernel_rfl) (by kernel_rfl) (by kernel_rfl) ?_ (fun cf => (by kernel_rfl))
    refine WpOps.framed 18 89 [Value.iface 135 (Value.iface (List.length l) (Value.iface x (Value.agg (List.toArray (List.flatMap ec l))))), Value.iface 3 (Value.iface (List.length a) (Value.iface y (Value.agg (List.toArray (List.map (fun n => Value.int IntKind.i64 n) a))))), Value.int IntKind.i64 100] (by kernel_rfl) (by kernel_rfl) (by kernel_rfl) (by kernel_rfl) (by kernel_rfl) (fun cf => (by kernel_rfl)) ?_
    refine WpFun.of (c3) ?_
    refine WpOps.keep 6 (Value.int IntKind.i64 (bestAt l a (List.length l))) (by kernel_rfl) (by kernel_rfl) (by kernel_rfl) ?_ (fun cf => (by kernel_rfl))
    refine WpOps.nil ?_
    refine thenK_at ?_
    refine Wp.seq ?_
    refine Wp.seq ?_
    refine Wp.text ?_
    refine WpOps.keep 19 (Value.int IntKind.i64 (bestAt l a (List.length l))) (by kernel_rfl) (by kernel_rfl) (by kernel_rfl) ?_ (fun cf => (by kernel_rfl))
    refine WpOps.keep 20 (Value.bool false) (by kernel_rfl) (by kernel_rfl) (by kernel_rfl) ?_ (fun cf => by_fact z1 ((by kernel_rfl)))
    refine WpOps.nil ?_
    refine thenK_at ?_
    refine Wp.off (by kernel_rfl) ?_
    refine Wp.skip ?_
    refine thenK_at ?_
    refine Wp.seq ?_
    refine Wp.text ?_
    refine WpOps.keep 22 (Value.iface 135 (Value.iface (List.length l) (Value.iface x (Value.agg (List.toArray (List.flatMap ec l)))))) (by kernel_rfl) (by kernel_rfl) (by kernel_rfl) ?_ (fun cf => (by kernel_rfl))
    refine WpOps.keep 23 (Value.int IntKind.i64 (bestAt l a (List.length l))) (by kernel_rfl) (by kernel_rfl) (by kernel_rfl) ?_ (fun cf => (by kernel_rfl))
    refine WpOps.keep 24 (Value.iface 135 (Value.iface (Int.toNat (bestAt l a (List.length l)) * 2) (Value.agg (List.toArray (List.flatMap ec l))))) (by kernel_rfl) (by kernel_rfl) (by kernel_rfl) ?_ (fun cf => o_indexI (e := 135) (size := 2) (a := bestAt l a (List.length l)) h1 (by kernel_rfl) (by kernel_rfl) (by kernel_rfl) (by kernel_rfl))
    refine WpOps.keep 25 (Value.agg (List.toArray (ec (List.getD l (Int.toNat (bestAt l a (List.length l))) zE)))) (by kernel_rfl) (by kernel_rfl) (by kernel_rfl) ?_ (fun cf => o_loadIA (Int.toNat (bestAt l a (List.length l)) * 2) hv (by kernel_rfl) (by kernel_rfl))
    refine WpOps.framed 26 90 [Value.agg (List.toArray (ec (List.getD l (Int.toNat (bestAt l a (List.length l))) zE)))] (by kernel_rfl) (by kernel_rfl) (by kernel_rfl) (by kernel_rfl) (by kernel_rfl) (fun cf => (by kernel_rfl)) ?_
    refine WpFun.of (c4) ?_
    refine WpOps.laid (Value.tuple #[]) (0) (Blk.mk 135 true [Value.iface 3 (Value.iface (List.length (En.p (En.mk 0 (En.p (List.getD l (Int.toNat (bestAt l a (List.length l))) zE)) (En.to (List.getD l (Int.toNat (bestAt l a (List.length l))) zE))))) (Value.iface (En.x (En.mk 0 (En.p (List.getD l (Int.toNat (bestAt l a (List.length l))) zE)) (En.to (List.getD l (Int.toNat (bestAt l a (List.length l))) zE)))) (Value.agg (List.toArray (List.map (fun n => Value.int IntKind.i64 n) (En.p (En.mk 0 (En.p (List.getD l (Int.toNat (bestAt l a (List.length l))) zE)) (En.to (List.getD l (Int.toNat (bestAt l a (List.length l))) zE))))))))), Value.int IntKind.i64 (En.to (En.mk 0 (En.p (List.getD l (Int.toNat (bestAt l a (List.length l))) zE)) (En.to (List.getD l (Int.toNat (bestAt l a (List.length l))) zE))))]) (by kernel_rfl) (by kernel_rfl) (by kernel_rfl) ?_ (fun cf => (by kernel_rfl))
    refine WpOps.keep 5 (Value.int IntKind.i64 0) (by kernel_rfl) (by kernel_rfl) (by kernel_rfl) ?_ (fun cf => (by kernel_rfl))
    refine WpOps.nil ?_
    refine thenK_at ?_
    refine Wp.ret ?_
    refine endK_retn [Value.agg #[Value.iface 3 (Value.iface (List.length (En.p (En.mk 0 (En.p (List.getD l (Int.toNat (bestAt l a (List.length l))) zE)) (En.to (List.getD l (Int.toNat (bestAt l a (List.length l))) zE))))) (Value.iface (En.x (En.mk 0 (En.p (List.getD l (Int.toNat (bestAt l a (List.length l))) zE)) (En.to (List.getD l (Int.toNat (bestAt l a (List.length l))) zE)))) (Value.agg (List.toArray (List.map (fun n => Value.int IntKind.i64 n) (En.p (En.mk 0 (En.p (List.getD l (Int.toNat (bestAt l a (List.length l))) zE)) (En.to (List.getD l (Int.toNat (bestAt l a (List.length l))) zE))))))))), Value.int IntKind.i64 (En.to (En.mk 0 (En.p (List.getD l (Int.toNat (bestAt l a (List.length l))) zE)) (En.to (List.getD l (Int.toNat (bestAt l a (List.length l))) zE))))], Value.int IntKind.i64 0] (Value.tuple #[Value.agg #[Value.iface 3 (Value.iface (List.length (En.p (En.mk 0 (En.p (List.getD l (Int.toNat (bestAt l a (List.length l))) zE)) (En.to (List.getD l (Int.toNat (bestAt l a (List.length l))) zE))))) (Value.iface (En.x (En.mk 0 (En.p (List.getD l (Int.toNat (bestAt l a (List.length l))) zE)) (En.to (List.getD l (Int.toNat (bestAt l a (List.length l))) zE)))) (Value.agg (List.toArray (List.map (fun n => Value.int IntKind.i64 n) (En.p (En.mk 0 (En.p (List.getD l (Int.toNat (bestAt l a (List.length l))) zE)) (En.to (List.getD l (Int.toNat (bestAt l a (List.length l))) zE))))))))), Value.int IntKind.i64 (En.to (En.mk 0 (En.p (List.getD l (Int.toNat (bestAt l a (List.length l))) zE)) (En.to (List.getD l (Int.toNat (bestAt l a (List.length l))) zE))))], Value.int IntKind.i64 0]) (by kernel_rfl) (by kernel_rfl) ?_
    kernel_rfl
theorem f75 : E.funcs 75 = some Try.f75 := by kernel_rfl
theorem E32 : ∃ ti, E.types 32 = some ti := by
  obtain ⟨ti, h, _⟩ := Option.map_eq_some_iff.1 types32
  exact ⟨ti, h⟩
theorem told75 (x : Nat) (me : List Int) (g : Gr) (k : Int) (hl : me.length ≤ 17592186044416) (ok : OkGr g) (hd : g.data.size ≤ 4000) : Fun E 75 [sl x me, gv (toR g), .int .i64 k] (repV 32 0 me (toR g) k) := by
  refine Fun.ofN f75 rfl (of_decide_eq_true (by kernel_rfl)) rfl ?_
  unfold repV repL wx
  cases hw : (toR g).wants with
  | false =>
    obtain ⟨ti, ht⟩ := E32
    refine Wp.seq ?_
    refine Wp.text ?_
    refine WpOps.made 4 (Value.pointer (some (Addr.mk 0 0 none))) (Blk.mk 32 true [Value.iface 3 (Value.iface (List.length (Gr.fr (toR g))) (Value.iface (Gr.fx (toR g)) (Value.agg (List.toArray (List.map (fun n => Value.int IntKind.i64 n) (Gr.fr (toR g))))))), Value.iface 3 (Value.iface (List.length (Gr.to (toR g))) (Value.iface (Gr.tx (toR g)) (Value.agg (List.toArray (List.map (fun n => Value.int IntKind.i64 n) (Gr.to (toR g))))))), Value.int IntKind.i64 (Gr.number (toR g)), Value.int IntKind.i64 (Gr.life (toR g)), Value.int IntKind.i64 (Gr.at' (toR g)), Value.int IntKind.i64 (Gr.total (toR g)), Value.int IntKind.i64 (Gr.report (toR g)), Value.bool (Gr.more (toR g)), Value.bool (Gr.may (toR g)), Value.bool (Gr.wants (toR g)), Value.string (Gr.data (toR g))]) (by kernel_rfl) (by kernel_rfl) (by kernel_rfl) ?_ (fun cf => (by kernel_rfl))
    refine WpOps.keep 6 (Value.slice none 0 0) (by kernel_rfl) (by kernel_rfl) (by kernel_rfl) ?_ (fun cf => (by kernel_rfl))
    refine WpOps.nil ?_
    refine thenK_at ?_
    refine Wp.seq ?_
    refine Wp.seq ?_
    refine Wp.text ?_
    refine WpOps.keep 8 (Value.pointer (some (Addr.mk 0 9 none))) (by kernel_rfl) (by kernel_rfl) (by kernel_rfl) ?_ (fun cf => (by kernel_rfl))
    refine WpOps.keep 9 (Value.bool false) (by kernel_rfl) (by kernel_rfl) (by kernel_rfl) ?_ (fun cf => by_fact hw ((by kernel_rfl)))
    refine WpOps.keep 10 (Value.bool true) (by kernel_rfl) (by kernel_rfl) (by kernel_rfl) ?_ (fun cf => (by kernel_rfl))
    refine WpOps.nil ?_
    refine thenK_at ?_
    refine Wp.on (by kernel_rfl) ?_
    refine Wp.seq ?_
    refine Wp.text ?_
    refine WpOps.keep 6 (Value.slice none 0 0) (by kernel_rfl) (by kernel_rfl) (by kernel_rfl) ?_ (fun cf => (by kernel_rfl))
    refine WpOps.nil ?_
    refine thenK_at ?_
    refine Wp.ret ?_
    refine thenK_ret ?_
    refine endK_retn [Value.slice none 0 0] (Value.slice none 0 0) (by kernel_rfl) (by kernel_rfl) ?_
    exact ⟨_, rfl, .w (.c (.inr ⟨rfl, 32, ti, ht, rfl⟩))⟩
  | true =>
    have c1 := copy31 x me hl
    have c2 : Fun E 31 [sl (toR g).fx (toR g).fr] (sl 0 (toR g).fr) := copy31 0 g.fr ok.fl
    have hd2 : (toR g).data.size ≤ 4000 := hd
    have h0 : (0 ≤ if ((toR g).data.size : Int) < 16 then ((toR g).data.size : Int) else 16) ∧ (if ((toR g).data.size : Int) < 16 then ((toR g).data.size : Int) else 16) ≤ (toR g).data.size := by split <;> omega
    refine Wp.seq ?_
    refine Wp.text ?_
    refine WpOps.made 4 (Value.pointer (some (Addr.mk 0 0 none))) (Blk.mk 32 true [Value.iface 3 (Value.iface (List.length (Gr.fr (toR g))) (Value.iface (Gr.fx (toR g)) (Value.agg (List.toArray (List.map (fun n => Value.int IntKind.i64 n) (Gr.fr (toR g))))))), Value.iface 3 (Value.iface (List.length (Gr.to (toR g))) (Value.iface (Gr.tx (toR g)) (Value.agg (List.toArray (List.map (fun n => Value.int IntKind.i64 n) (Gr.to (toR g))))))), Value.int IntKind.i64 (Gr.number (toR g)), Value.int IntKind.i64 (Gr.life (toR g)), Value.int IntKind.i64 (Gr.at' (toR g)), Value.int IntKind.i64 (Gr.total (toR g)), Value.int IntKind.i64 (Gr.report (toR g)), Value.bool (Gr.more (toR g)), Value.bool (Gr.may (toR g)), Value.bool (Gr.wants (toR g)), Value.string (Gr.data (toR g))]) (by kernel_rfl) (by kernel_rfl) (by kernel_rfl) ?_ (fun cf => (by kernel_rfl))
    refine WpOps.keep 6 (Value.slice none 0 0) (by kernel_rfl) (by kernel_rfl) (by kernel_rfl) ?_ (fun cf => (by kernel_rfl))
    refine WpOps.nil ?_
    refine thenK_at ?_
    refine Wp.seq ?_
    refine Wp.seq ?_
    refine Wp.text ?_
    refine WpOps.keep 8 (Value.pointer (some (Addr.mk 0 9 none))) (by kernel_rfl) (by kernel_rfl) (by kernel_rfl) ?_ (fun cf => (by kernel_rfl))
    refine WpOps.keep 9 (Value.bool true) (by kernel_rfl) (by kernel_rfl) (by kernel_rfl) ?_ (fun cf => by_fact hw ((by kernel_rfl)))
    refine WpOps.keep 10 (Value.bool false) (by kernel_rfl) (by kernel_rfl) (by kernel_rfl) ?_ (fun cf => (by kernel_rfl))
    refine WpOps.nil ?_
    refine thenK_at ?_
    refine Wp.off (by kernel_rfl) ?_
    refine Wp.skip ?_
    refine thenK_at ?_
    refine Wp.seq ?_
    refine Wp.text ?_
    refine WpOps.keep 11 (Value.pointer (some (Addr.mk 0 10 none))) (by kernel_rfl) (by kernel_rfl) (by kernel_rfl) ?_ (fun cf => (by kernel_rfl))
    refine WpOps.keep 12 (Value.string (Gr.data (toR g))) (by kernel_rfl) (by kernel_rfl) (by kernel_rfl) ?_ (fun cf => (by kernel_rfl))
    refine WpOps.keep 13 (Value.pointer (some (Addr.mk 0 10 none))) (by kernel_rfl) (by kernel_rfl) (by kernel_rfl) ?_ (fun cf => (by kernel_rfl))
    refine WpOps.keep 14 (Value.string (Gr.data (toR g))) (by kernel_rfl) (by kernel_rfl) (by kernel_rfl) ?_ (fun cf => (by kernel_rfl))
    refine WpOps.keep 15 (Value.int IntKind.i64 (↑(ByteArray.size (Gr.data (toR g))) : Int)) (by kernel_rfl) (by kernel_rfl) (by kernel_rfl) ?_ (fun cf => (by kernel_rfl))
    refine WpOps.keep 16 (Value.int IntKind.i64 (if (↑(ByteArray.size (Gr.data (toR g))) : Int) < 16 then (↑(ByteArray.size (Gr.data (toR g))) : Int) else 16)) (by kernel_rfl) (by kernel_rfl) (by kernel_rfl) ?_ (fun cf => (by kernel_rfl))
    refine WpOps.keep 17 (Value.string (ByteArray.extract (Gr.data (toR g)) 0 (Int.toNat (if (↑(ByteArray.size (Gr.data (toR g))) : Int) < 16 then (↑(ByteArray.size (Gr.data (toR g))) : Int) else 16)))) (by kernel_rfl) (by kernel_rfl) (by kernel_rfl) ?_ (fun cf => o_cut_hi h0 (by kernel_rfl) (by kernel_rfl) (by kernel_rfl))
    refine WpOps.keep 7 (Value.string (ByteArray.extract (Gr.data (toR g)) 0 (Int.toNat (if (↑(ByteArray.size (Gr.data (toR g))) : Int) < 16 then (↑(ByteArray.size (Gr.data (toR g))) : Int) else 16)))) (by kernel_rfl) (by kernel_rfl) (by kernel_rfl) ?_ (fun cf => (by kernel_rfl))
    refine WpOps.nil ?_
    refine thenK_at ?_
    refine Wp.seq ?_
    refine Wp.region (by kernel_rfl) ?_
    refine WpOps.keep 18 (Value.iface 3 (Value.iface (List.length me) (Value.iface x (Value.agg (List.toArray (List.map (fun n => Value.int IntKind.i64 n) me)))))) (by kernel_rfl) (by kernel_rfl) (by kernel_rfl) ?_ (fun cf => (by kernel_rfl))
    refine WpOps.framed 19 31 [Value.iface 3 (Value.iface (List.length me) (Value.iface x (Value.agg (List.toArray (List.map (fun n => Value.int IntKind.i64 n) me)))))] (by kernel_rfl) (by kernel_rfl) (by kernel_rfl) (by kernel_rfl) (by kernel_rfl) (fun cf => (by kernel_rfl)) ?_
    refine WpFun.of (c1) ?_
    refine WpOps.keep 20 (Value.pointer (some (Addr.mk 0 0 none))) (by kernel_rfl) (by kernel_rfl) (by kernel_rfl) ?_ (fun cf => (by kernel_rfl))
    refine WpOps.keep 21 (Value.iface 3 (Value.iface (List.length (Gr.fr (toR g))) (Value.iface (Gr.fx (toR g)) (Value.agg (List.toArray (List.map (fun n => Value.int IntKind.i64 n) (Gr.fr (toR g)))))))) (by kernel_rfl) (by kernel_rfl) (by kernel_rfl) ?_ (fun cf => (by kernel_rfl))
    refine WpOps.framed 22 31 [Value.iface 3 (Value.iface (List.length (Gr.fr (toR g))) (Value.iface (Gr.fx (toR g)) (Value.agg (List.toArray (List.map (fun n => Value.int IntKind.i64 n) (Gr.fr (toR g)))))))] (by kernel_rfl) (by kernel_rfl) (by kernel_rfl) (by kernel_rfl) (by kernel_rfl) (fun cf => (by kernel_rfl)) ?_
    refine WpFun.of (c2) ?_
    refine WpOps.keep 23 (Value.pointer (some (Addr.mk 0 2 none))) (by kernel_rfl) (by kernel_rfl) (by kernel_rfl) ?_ (fun cf => (by kernel_rfl))
    refine WpOps.keep 24 (Value.int IntKind.i64 (Gr.number (toR g))) (by kernel_rfl) (by kernel_rfl) (by kernel_rfl) ?_ (fun cf => (by kernel_rfl))
    refine WpOps.keep 25 (Value.string (ByteArray.extract (Gr.data (toR g)) 0 (Int.toNat (if (↑(ByteArray.size (Gr.data (toR g))) : Int) < 16 then (↑(ByteArray.size (Gr.data (toR g))) : Int) else 16)))) (by kernel_rfl) (by kernel_rfl) (by kernel_rfl) ?_ (fun cf => (by kernel_rfl))
    refine WpOps.keep 26 (Value.int IntKind.i64 (↑(ByteArray.size (ByteArray.extract (Gr.data (toR g)) 0 (Int.toNat (if (↑(ByteArray.size (Gr.data (toR g))) : Int) < 16 then (↑(ByteArray.size (Gr.data (toR g))) : Int) else 16)))) : Int)) (by kernel_rfl) (by kernel_rfl) (by kernel_rfl) ?_ (fun cf => (by kernel_rfl))
    refine WpOps.keep 27 (Value.int IntKind.i64 k) (by kernel_rfl) (by kernel_rfl) (by kernel_rfl) ?_ (fun cf => (by kernel_rfl))
    refine WpOps.keep 28 (Value.string (ByteArray.extract (Gr.data (toR g)) 0 (Int.toNat (if (↑(ByteArray.size (Gr.data (toR g))) : Int) < 16 then (↑(ByteArray.size (Gr.data (toR g))) : Int) else 16)))) (by kernel_rfl) (by kernel_rfl) (by kernel_rfl) ?_ (fun cf => (by kernel_rfl))
    refine WpOps.keep 29 (Value.agg #[Value.iface 3 (Value.iface (List.length me) (Value.iface 0 (Value.agg (List.toArray (List.map (fun n => Value.int IntKind.i64 n) me))))), Value.iface 3 (Value.iface (List.length (Gr.fr (toR g))) (Value.iface 0 (Value.agg (List.toArray (List.map (fun n => Value.int IntKind.i64 n) (Gr.fr (toR g))))))), Value.int IntKind.i64 (Gr.number (toR g)), Value.int IntKind.i64 60, Value.int IntKind.i64 0, Value.int IntKind.i64 (↑(ByteArray.size (ByteArray.extract (Gr.data (toR g)) 0 (Int.toNat (if (↑(ByteArray.size (Gr.data (toR g))) : Int) < 16 then (↑(ByteArray.size (Gr.data (toR g))) : Int) else 16)))) : Int), Value.int IntKind.i64 k, Value.bool false, Value.bool false, Value.bool false, Value.string (ByteArray.extract (Gr.data (toR g)) 0 (Int.toNat (if (↑(ByteArray.size (Gr.data (toR g))) : Int) < 16 then (↑(ByteArray.size (Gr.data (toR g))) : Int) else 16)))]) (by kernel_rfl) (by kernel_rfl) (by kernel_rfl) ?_ (fun cf => (by kernel_rfl))
    refine WpOps.made 30 (Value.slice (some (Addr.mk 1 0 none)) 1 1) (Blk.mk 32 true [Value.iface 3 (Value.iface (List.length me) (Value.iface 0 (Value.agg (List.toArray (List.map (fun n => Value.int IntKind.i64 n) me))))), Value.iface 3 (Value.iface (List.length (Gr.fr (toR g))) (Value.iface 0 (Value.agg (List.toArray (List.map (fun n => Value.int IntKind.i64 n) (Gr.fr (toR g))))))), Value.int IntKind.i64 (Gr.number (toR g)), Value.int IntKind.i64 60, Value.int IntKind.i64 0, Value.int IntKind.i64 (↑(ByteArray.size (ByteArray.extract (Gr.data (toR g)) 0 (Int.toNat (if (↑(ByteArray.size (Gr.data (toR g))) : Int) < 16 then (↑(ByteArray.size (Gr.data (toR g))) : Int) else 16)))) : Int), Value.int IntKind.i64 k, Value.bool false, Value.bool false, Value.bool false, Value.string (ByteArray.extract (Gr.data (toR g)) 0 (Int.toNat (if (↑(ByteArray.size (Gr.data (toR g))) : Int) < 16 then (↑(ByteArray.size (Gr.data (toR g))) : Int) else 16)))]) (by kernel_rfl) (by kernel_rfl) (by kernel_rfl) ?_ (fun cf => (by kernel_rfl))
    refine WpOps.keep 6 (Value.slice (some (Addr.mk 1 0 none)) 1 1) (by kernel_rfl) (by kernel_rfl) (by kernel_rfl) ?_ (fun cf => (by kernel_rfl))
    refine WpOps.nil ?_
    refine thenK_at ?_
    refine Wp.ret ?_
    refine endK_retn [Value.slice (some (Addr.mk 1 0 none)) 1 1] (Value.slice (some (Addr.mk 1 0 none)) 1 1) (by kernel_rfl) (by kernel_rfl) ?_
    refine ⟨FS 32 1 0 (cellsG [rep 0 me (toR g) k]).toArray, ?_, .w (.c (.inl rfl))⟩
    kernel_rfl
end Go.Proofs.Ytpkkcpglbjbgfaa.D
