/- Addresses: address.Valid and the document's IsPrefix, Valid. -/
import Derived.Test.YtpkkcpglbjbgfaaFwLem
import Derived.Test.YtpkkcpglbjbgfaaF14b
namespace Go.Proofs.Ytpkkcpglbjbgfaa.D
open Go.Fw Go.RowKit

theorem f49 : E.funcs 49 = some Try.f49 := by kernel_rfl
theorem valid49 (x : Nat) (l : List Int) (hl : l.length ≤ 9223372036854775806) : Fun E 49 [sl x l] (.bool (isAddr l)) := by
  refine Fun.of f49 rfl (of_decide_eq_true (by kernel_rfl)) rfl ?_
  have h1 := prefix78 x l hl
  refine Wp.seq ?_
  refine Wp.text ?_
  refine WpOps.keep 2 (Value.bool false) (by kernel_rfl) (by kernel_rfl) (by kernel_rfl) ?_ (fun cf => (by kernel_rfl))
  refine WpOps.nil ?_
  refine thenK_at ?_
  refine Wp.seq ?_
  refine Wp.text ?_
  refine WpOps.keep 3 (Value.iface 3 (Value.iface (List.length l) (Value.iface x (Value.agg (List.toArray (List.map (fun n => Value.int IntKind.i64 n) l)))))) (by kernel_rfl) (by kernel_rfl) (by kernel_rfl) ?_ (fun cf => (by kernel_rfl))
  refine WpOps.keep 4 (Value.int IntKind.i64 (↑(List.length l) : Int)) (by kernel_rfl) (by kernel_rfl) (by kernel_rfl) ?_ (fun cf => (by kernel_rfl))
  refine WpOps.keep 5 (Value.bool (decide ((↑(List.length l) : Int) > 0))) (by kernel_rfl) (by kernel_rfl) (by kernel_rfl) ?_ (fun cf => (by kernel_rfl))
  refine WpOps.keep 6 (Value.bool (decide ((↑(List.length l) : Int) > 0))) (by kernel_rfl) (by kernel_rfl) (by kernel_rfl) ?_ (fun cf => (by kernel_rfl))
  refine WpOps.fork 3 (decide ((↑(List.length l) : Int) > 0)) [7, 8, 9] 9 (isPre l) (false) (by kernel_rfl) (fun g9 => ?_) (fun g9 => ?_) (fun f_9 b9 hb9 => ?_)
  · refine WpOps.keep 7 (Value.iface 3 (Value.iface (List.length l) (Value.iface x (Value.agg (List.toArray (List.map (fun n => Value.int IntKind.i64 n) l)))))) (by kernel_rfl) (by kernel_rfl) (wants_tt g9 (by kernel_rfl)) ?_ (fun cf => (by kernel_rfl))
    refine WpOps.framed 8 78 [Value.iface 3 (Value.iface (List.length l) (Value.iface x (Value.agg (List.toArray (List.map (fun n => Value.int IntKind.i64 n) l)))))] (by kernel_rfl) (by kernel_rfl) (wants_tt g9 (by kernel_rfl)) (by kernel_rfl) (by kernel_rfl) (fun cf => (by kernel_rfl)) ?_
    refine WpFun.of (h1) ?_
    refine WpOps.keep 9 (Value.bool (isPre l)) (by kernel_rfl) (by kernel_rfl) (by kernel_rfl) ?_ (fun cf => o_pickT g9 (by kernel_rfl) (by kernel_rfl))
    refine WpOps.nil ?_
    exact ⟨rfl, (.upd rfl (.upd rfl (.upd rfl .refl))), (by kernel_rfl)⟩
  · refine WpOps.unmet 7 (by kernel_rfl) (by kernel_rfl) (wants_ft g9 (by kernel_rfl)) ?_
    refine WpOps.unmet 8 (by kernel_rfl) (by kernel_rfl) (wants_ft g9 (by kernel_rfl)) ?_
    refine WpOps.keep 9 (Value.bool false) (by kernel_rfl) (by kernel_rfl) (by kernel_rfl) ?_ (fun cf => o_pickF g9 (by kernel_rfl) (by kernel_rfl))
    refine WpOps.nil ?_
    exact ⟨rfl, (.upd rfl (.upd rfl (.upd rfl .refl))), (by kernel_rfl)⟩
  refine WpOps.keep 2 (Value.bool b9) (by kernel_rfl) (by kernel_rfl) (by kernel_rfl) ?_ (fun cf => (by kernel_rfl))
  refine WpOps.nil ?_
  refine thenK_at ?_
  refine Wp.ret ?_
  refine endK_retn [Value.bool b9] (Value.bool b9) (by kernel_rfl) (by kernel_rfl) ?_
  subst_vars
  rfl

theorem f46 : E.funcs 46 = some Try.f46 := by kernel_rfl
theorem in46 (n lo hi : Int) : Fun E 46 [.int .i64 n, .int .i64 lo, .int .i64 hi] (.bool (inR n lo hi)) := by
  refine Fun.of f46 rfl (of_decide_eq_true (by kernel_rfl)) rfl ?_
  refine Wp.seq ?_
  refine Wp.text ?_
  refine WpOps.keep 6 (Value.bool false) (by kernel_rfl) (by kernel_rfl) (by kernel_rfl) ?_ (fun cf => (by kernel_rfl))
  refine WpOps.nil ?_
  refine thenK_at ?_
  refine Wp.seq ?_
  refine Wp.text ?_
  refine WpOps.keep 7 (Value.int IntKind.i64 n) (by kernel_rfl) (by kernel_rfl) (by kernel_rfl) ?_ (fun cf => (by kernel_rfl))
  refine WpOps.keep 8 (Value.int IntKind.i64 lo) (by kernel_rfl) (by kernel_rfl) (by kernel_rfl) ?_ (fun cf => (by kernel_rfl))
  refine WpOps.keep 9 (Value.bool (decide (n ≥ lo))) (by kernel_rfl) (by kernel_rfl) (by kernel_rfl) ?_ (fun cf => (by kernel_rfl))
  refine WpOps.keep 10 (Value.bool (decide (n ≥ lo))) (by kernel_rfl) (by kernel_rfl) (by kernel_rfl) ?_ (fun cf => (by kernel_rfl))
  refine WpOps.fork 4 (decide (n ≥ lo)) [11, 12, 13, 14] 14 (decide (n ≤ hi)) (false) (by kernel_rfl) (fun g14 => ?_) (fun g14 => ?_) (fun f_14 b14 hb14 => ?_)
  · refine WpOps.keep 11 (Value.int IntKind.i64 n) (by kernel_rfl) (by kernel_rfl) (wants_tt g14 (by kernel_rfl)) ?_ (fun cf => (by kernel_rfl))
    refine WpOps.keep 12 (Value.int IntKind.i64 hi) (by kernel_rfl) (by kernel_rfl) (wants_tt g14 (by kernel_rfl)) ?_ (fun cf => (by kernel_rfl))
    refine WpOps.keep 13 (Value.bool (decide (n ≤ hi))) (by kernel_rfl) (by kernel_rfl) (wants_tt g14 (by kernel_rfl)) ?_ (fun cf => (by kernel_rfl))
    refine WpOps.keep 14 (Value.bool (decide (n ≤ hi))) (by kernel_rfl) (by kernel_rfl) (by kernel_rfl) ?_ (fun cf => o_pickT g14 (by kernel_rfl) (by kernel_rfl))
    refine WpOps.nil ?_
    exact ⟨rfl, (.upd rfl (.upd rfl (.upd rfl (.upd rfl .refl)))), (by kernel_rfl)⟩
  · refine WpOps.unmet 11 (by kernel_rfl) (by kernel_rfl) (wants_ft g14 (by kernel_rfl)) ?_
    refine WpOps.unmet 12 (by kernel_rfl) (by kernel_rfl) (wants_ft g14 (by kernel_rfl)) ?_
    refine WpOps.unmet 13 (by kernel_rfl) (by kernel_rfl) (wants_ft g14 (by kernel_rfl)) ?_
    refine WpOps.keep 14 (Value.bool false) (by kernel_rfl) (by kernel_rfl) (by kernel_rfl) ?_ (fun cf => o_pickF g14 (by kernel_rfl) (by kernel_rfl))
    refine WpOps.nil ?_
    exact ⟨rfl, (.upd rfl (.upd rfl (.upd rfl (.upd rfl .refl)))), (by kernel_rfl)⟩
  refine WpOps.keep 6 (Value.bool b14) (by kernel_rfl) (by kernel_rfl) (by kernel_rfl) ?_ (fun cf => (by kernel_rfl))
  refine WpOps.nil ?_
  refine thenK_at ?_
  refine Wp.ret ?_
  refine endK_retn [Value.bool b14] (Value.bool b14) (by kernel_rfl) (by kernel_rfl) ?_
  subst_vars
  rfl

theorem f79 : E.funcs 79 = some Try.f79 := by kernel_rfl
theorem prefix79 (x : Nat) (l : List Int) : Fun E 79 [sl x l] (.bool (isPre l)) := by
  refine Fun.of f79 rfl (of_decide_eq_true (by kernel_rfl)) rfl ?_
  refine Wp.seq ?_
  refine Wp.text ?_
  refine WpOps.keep 2 (Value.bool false) (by kernel_rfl) (by kernel_rfl) (by kernel_rfl) ?_ (fun cf => (by kernel_rfl))
  refine WpOps.nil ?_
  refine thenK_at ?_
  refine Wp.seq ?_
  refine Wp.seq ?_
  refine Wp.text ?_
  refine WpOps.keep 4 (Value.iface 3 (Value.iface (List.length l) (Value.iface x (Value.agg (List.toArray (List.map (fun n => Value.int IntKind.i64 n) l)))))) (by kernel_rfl) (by kernel_rfl) (by kernel_rfl) ?_ (fun cf => (by kernel_rfl))
  refine WpOps.keep 5 (Value.int IntKind.i64 (↑(List.length l) : Int)) (by kernel_rfl) (by kernel_rfl) (by kernel_rfl) ?_ (fun cf => (by kernel_rfl))
  refine WpOps.keep 6 (Value.bool (decide ((↑(List.length l) : Int) > 10))) (by kernel_rfl) (by kernel_rfl) (by kernel_rfl) ?_ (fun cf => (by kernel_rfl))
  refine WpOps.nil ?_
  refine thenK_at ?_
  refine Wp.split (decide ((↑(List.length l) : Int) > 10)) (by kernel_rfl) (fun hc => ?_) (fun hc => ?_)
  · refine Wp.seq ?_
    refine Wp.text ?_
    refine WpOps.keep 2 (Value.bool false) (by kernel_rfl) (by kernel_rfl) (by kernel_rfl) ?_ (fun cf => (by kernel_rfl))
    refine WpOps.nil ?_
    refine thenK_at ?_
    refine Wp.ret ?_
    refine thenK_ret ?_
    refine endK_retn [Value.bool false] (Value.bool false) (by kernel_rfl) (by kernel_rfl) ?_
    have : isPre l = false := by
      have := of_decide_eq_true hc
      simp only [isPre, decide_eq_false (show ¬ ((l.length : Int) ≤ 10) by omega), cond_false]
    rw [this]
    rfl
  · refine Wp.skip ?_
    refine thenK_at ?_
    refine Wp.seq ?_
    refine Wp.seq ?_
    refine Wp.text ?_
    refine WpOps.keep 3 (Value.int IntKind.i64 0) (by kernel_rfl) (by kernel_rfl) (by kernel_rfl) ?_ (fun cf => (by kernel_rfl))
    refine WpOps.nil ?_
    refine thenK_at ?_
    refine Wp.block ?_
    have h10 : (l.length : Int) ≤ 10 := by
      have := of_decide_eq_false hc
      omega
    refine Wp.loop (G := Nat) (fun i => layj [(0, sl x l), (3, .int .i64 i)]) (fun _ => heapOf []) (fun i => l.length - i) (fun i => i ≤ l.length ∧ ∀ j, j < i → bad (l.getD j 0) = false) 0
      (View.of [] [] _ List.nodup_nil rfl trivial ⟨⟨by kernel_rfl, rfl⟩, ⟨by kernel_rfl, rfl⟩, trivial⟩) ⟨Nat.zero_le _, fun j hj => absurd hj (Nat.not_lt_zero _)⟩ ?_
    rintro i ⟨hi, hp⟩
    refine Wp.seq ?_
    refine Wp.seq ?_
    refine Wp.text ?_
    refine WpOps.keep 7 (Value.int IntKind.i64 (↑i : Int)) (by kernel_rfl) (by kernel_rfl) (by kernel_rfl) ?_ (fun cf => (by kernel_rfl))
    refine WpOps.keep 8 (Value.iface 3 (Value.iface (List.length l) (Value.iface x (Value.agg (List.toArray (List.map (fun n => Value.int IntKind.i64 n) l)))))) (by kernel_rfl) (by kernel_rfl) (by kernel_rfl) ?_ (fun cf => (by kernel_rfl))
    refine WpOps.keep 9 (Value.int IntKind.i64 (↑(List.length l) : Int)) (by kernel_rfl) (by kernel_rfl) (by kernel_rfl) ?_ (fun cf => (by kernel_rfl))
    refine WpOps.keep 10 (Value.bool (decide ((↑i : Int) < (↑(List.length l) : Int)))) (by kernel_rfl) (by kernel_rfl) (by kernel_rfl) ?_ (fun cf => (by kernel_rfl))
    refine WpOps.nil ?_
    refine thenK_at ?_
    refine Wp.split (decide ((↑i : Int) < (↑(List.length l) : Int))) (by kernel_rfl) (fun hd => ?_) (fun hd => ?_)
    · have hlt : (i : Int) < l.length := of_decide_eq_true hd
      have h0 : 0 ≤ (i : Int) ∧ (i : Int) < l.length := ⟨Int.natCast_nonneg _, hlt⟩
      have hv := sl_at l i (by omega)
      refine Wp.skip ?_
      refine thenK_at ?_
      refine Wp.seq ?_
      refine Wp.block ?_
      refine Wp.seq ?_
      refine Wp.text ?_
      refine WpOps.keep 13 (Value.iface 3 (Value.iface (List.length l) (Value.iface x (Value.agg (List.toArray (List.map (fun n => Value.int IntKind.i64 n) l)))))) (by kernel_rfl) (by kernel_rfl) (by kernel_rfl) ?_ (fun cf => (by kernel_rfl))
      refine WpOps.keep 14 (Value.int IntKind.i64 (↑i : Int)) (by kernel_rfl) (by kernel_rfl) (by kernel_rfl) ?_ (fun cf => (by kernel_rfl))
      refine WpOps.keep 15 (Value.iface 3 (Value.iface (Int.toNat (↑i : Int) * 1) (Value.agg (List.toArray (List.map (fun n => Value.int IntKind.i64 n) l))))) (by kernel_rfl) (by kernel_rfl) (by kernel_rfl) ?_ (fun cf => o_indexI h0 (by kernel_rfl) (by kernel_rfl) (by kernel_rfl) (by kernel_rfl))
      refine WpOps.keep 16 (Value.int IntKind.i64 (List.getD l i 0)) (by kernel_rfl) (by kernel_rfl) (by kernel_rfl) ?_ (fun cf => o_loadI1 (Int.toNat (↑i : Int) * 1) hv (by kernel_rfl) (by kernel_rfl))
      refine WpOps.keep 17 (Value.bool (decide (List.getD l i 0 < 0))) (by kernel_rfl) (by kernel_rfl) (by kernel_rfl) ?_ (fun cf => (by kernel_rfl))
      refine WpOps.keep 18 (Value.bool (decide (List.getD l i 0 < 0))) (by kernel_rfl) (by kernel_rfl) (by kernel_rfl) ?_ (fun cf => (by kernel_rfl))
      refine WpOps.fork 6 (decide (List.getD l i 0 < 0)) [19, 20, 21, 22, 23, 24] 24 (true) (decide (List.getD l i 0 > 999)) (by kernel_rfl) (fun g24 => ?_) (fun g24 => ?_) (fun f_24 b24 hb24 => ?_)
      · refine WpOps.unmet 19 (by kernel_rfl) (by kernel_rfl) (wants_tf g24 (by kernel_rfl)) ?_
        refine WpOps.unmet 20 (by kernel_rfl) (by kernel_rfl) (wants_tf g24 (by kernel_rfl)) ?_
        refine WpOps.unmet 21 (by kernel_rfl) (by kernel_rfl) (wants_tf g24 (by kernel_rfl)) ?_
        refine WpOps.unmet 22 (by kernel_rfl) (by kernel_rfl) (wants_tf g24 (by kernel_rfl)) ?_
        refine WpOps.unmet 23 (by kernel_rfl) (by kernel_rfl) (wants_tf g24 (by kernel_rfl)) ?_
        refine WpOps.keep 24 (Value.bool true) (by kernel_rfl) (by kernel_rfl) (by kernel_rfl) ?_ (fun cf => o_pickT g24 (by kernel_rfl) (by kernel_rfl))
        refine WpOps.nil ?_
        exact ⟨rfl, (.upd rfl (.upd rfl (.upd rfl (.upd rfl (.upd rfl (.upd rfl .refl)))))), (by kernel_rfl)⟩
      · refine WpOps.keep 19 (Value.iface 3 (Value.iface (List.length l) (Value.iface x (Value.agg (List.toArray (List.map (fun n => Value.int IntKind.i64 n) l)))))) (by kernel_rfl) (by kernel_rfl) (wants_ff g24 (by kernel_rfl)) ?_ (fun cf => (by kernel_rfl))
        refine WpOps.keep 20 (Value.int IntKind.i64 (↑i : Int)) (by kernel_rfl) (by kernel_rfl) (wants_ff g24 (by kernel_rfl)) ?_ (fun cf => (by kernel_rfl))
        refine WpOps.keep 21 (Value.iface 3 (Value.iface (Int.toNat (↑i : Int) * 1) (Value.agg (List.toArray (List.map (fun n => Value.int IntKind.i64 n) l))))) (by kernel_rfl) (by kernel_rfl) (wants_ff g24 (by kernel_rfl)) ?_ (fun cf => o_indexI h0 (by kernel_rfl) (by kernel_rfl) (by kernel_rfl) (by kernel_rfl))
        refine WpOps.keep 22 (Value.int IntKind.i64 (List.getD l i 0)) (by kernel_rfl) (by kernel_rfl) (wants_ff g24 (by kernel_rfl)) ?_ (fun cf => o_loadI1 (Int.toNat (↑i : Int) * 1) hv (by kernel_rfl) (by kernel_rfl))
        refine WpOps.keep 23 (Value.bool (decide (List.getD l i 0 > 999))) (by kernel_rfl) (by kernel_rfl) (wants_ff g24 (by kernel_rfl)) ?_ (fun cf => (by kernel_rfl))
        refine WpOps.keep 24 (Value.bool (decide (List.getD l i 0 > 999))) (by kernel_rfl) (by kernel_rfl) (by kernel_rfl) ?_ (fun cf => o_pickF g24 (by kernel_rfl) (by kernel_rfl))
        refine WpOps.nil ?_
        exact ⟨rfl, (.upd rfl (.upd rfl (.upd rfl (.upd rfl (.upd rfl (.upd rfl .refl)))))), (by kernel_rfl)⟩
      refine WpOps.nil ?_
      refine thenK_at ?_
      refine Wp.split (b24) (by kernel_rfl) (fun hb => ?_) (fun hb => ?_)
      · refine Wp.seq ?_
        refine Wp.text ?_
        refine WpOps.keep 2 (Value.bool false) (by kernel_rfl) (by kernel_rfl) (by kernel_rfl) ?_ (fun cf => (by kernel_rfl))
        refine WpOps.nil ?_
        refine thenK_at ?_
        refine Wp.ret ?_
        refine blockK_ret ?_
        refine thenK_ret ?_
        refine thenK_ret ?_
        refine blockK_ret ?_
        refine thenK_ret ?_
        refine endK_retn [Value.bool false] (Value.bool false) (by kernel_rfl) (by kernel_rfl) ?_
        have hbad : bad (l.getD i 0) = true := hb24.symm.trans hb
        have : l.any bad = true := List.any_eq_true.2 ⟨l[i]'(by omega), List.getElem_mem _, by simpa [List.getElem?_eq_getElem (show i < l.length by omega)] using hbad⟩
        simp only [isPre, this, decide_eq_true h10, cond_true]
        rfl
      · refine Wp.skip ?_
        refine blockK_norm ?_
        refine thenK_at ?_
        refine Wp.text ?_
        refine WpOps.keep 11 (Value.int IntKind.i64 (↑i : Int)) (by kernel_rfl) (by kernel_rfl) (by kernel_rfl) ?_ (fun cf => (by kernel_rfl))
        refine WpOps.keep 12 (Value.int IntKind.i64 (IntKind.wrap IntKind.i64 ((↑i : Int) + 1))) (by kernel_rfl) (by kernel_rfl) (by kernel_rfl) ?_ (fun cf => (by kernel_rfl))
        refine WpOps.keep 3 (Value.int IntKind.i64 (IntKind.wrap IntKind.i64 ((↑i : Int) + 1))) (by kernel_rfl) (by kernel_rfl) (by kernel_rfl) ?_ (fun cf => (by kernel_rfl))
        refine WpOps.nil ?_
        refine thenK_at ?_
        refine ⟨i + 1, by omega, ⟨by omega, fun j hj => ?_⟩, View.of [] [] _ List.nodup_nil rfl trivial ⟨⟨by kernel_rfl, rfl⟩, ⟨congrArg (Value.int .i64) (wrap_i64 ((i : Int) + 1) (by omega) (by omega)), rfl⟩, trivial⟩⟩
        rcases Nat.lt_or_ge j i with h | h
        · exact hp j h
        · obtain rfl : j = i := by omega
          exact hb24.symm.trans hb
    · refine Wp.exit ?_
      refine thenK_exit ?_
      refine thenK_exit ?_
      refine blockK_hit ?_
      refine thenK_at ?_
      refine Wp.seq ?_
      refine Wp.text ?_
      refine WpOps.keep 2 (Value.bool true) (by kernel_rfl) (by kernel_rfl) (by kernel_rfl) ?_ (fun cf => (by kernel_rfl))
      refine WpOps.nil ?_
      refine thenK_at ?_
      refine Wp.ret ?_
      refine endK_retn [Value.bool true] (Value.bool true) (by kernel_rfl) (by kernel_rfl) ?_
      have hlen : ¬ ((i : Int) < l.length) := of_decide_eq_false hd
      have : l.any bad = false := by
        rw [List.any_eq_false]
        intro v hv
        obtain ⟨j, hj, rfl⟩ := List.getElem_of_mem hv
        have := hp j (by omega)
        simpa [List.getElem?_eq_getElem hj] using this
      simp only [isPre, this, decide_eq_true h10, cond_true]
      rfl

theorem f55 : E.funcs 55 = some Try.f55 := by kernel_rfl
theorem valid55 (x : Nat) (l : List Int) : Fun E 55 [sl x l] (.bool (isAddr l)) := by
  refine Fun.of f55 rfl (of_decide_eq_true (by kernel_rfl)) rfl ?_
  have h1 := prefix79 x l
  refine Wp.seq ?_
  refine Wp.text ?_
  refine WpOps.keep 2 (Value.bool false) (by kernel_rfl) (by kernel_rfl) (by kernel_rfl) ?_ (fun cf => (by kernel_rfl))
  refine WpOps.nil ?_
  refine thenK_at ?_
  refine Wp.seq ?_
  refine Wp.text ?_
  refine WpOps.keep 3 (Value.iface 3 (Value.iface (List.length l) (Value.iface x (Value.agg (List.toArray (List.map (fun n => Value.int IntKind.i64 n) l)))))) (by kernel_rfl) (by kernel_rfl) (by kernel_rfl) ?_ (fun cf => (by kernel_rfl))
  refine WpOps.keep 4 (Value.int IntKind.i64 (↑(List.length l) : Int)) (by kernel_rfl) (by kernel_rfl) (by kernel_rfl) ?_ (fun cf => (by kernel_rfl))
  refine WpOps.keep 5 (Value.bool (decide ((↑(List.length l) : Int) ≥ 1))) (by kernel_rfl) (by kernel_rfl) (by kernel_rfl) ?_ (fun cf => (by kernel_rfl))
  refine WpOps.keep 6 (Value.bool (decide ((↑(List.length l) : Int) ≥ 1))) (by kernel_rfl) (by kernel_rfl) (by kernel_rfl) ?_ (fun cf => (by kernel_rfl))
  refine WpOps.fork 3 (decide ((↑(List.length l) : Int) ≥ 1)) [7, 8, 9] 9 (isPre l) (false) (by kernel_rfl) (fun g9 => ?_) (fun g9 => ?_) (fun f_9 b9 hb9 => ?_)
  · refine WpOps.keep 7 (Value.iface 3 (Value.iface (List.length l) (Value.iface x (Value.agg (List.toArray (List.map (fun n => Value.int IntKind.i64 n) l)))))) (by kernel_rfl) (by kernel_rfl) (wants_tt g9 (by kernel_rfl)) ?_ (fun cf => (by kernel_rfl))
    refine WpOps.framed 8 79 [Value.iface 3 (Value.iface (List.length l) (Value.iface x (Value.agg (List.toArray (List.map (fun n => Value.int IntKind.i64 n) l)))))] (by kernel_rfl) (by kernel_rfl) (wants_tt g9 (by kernel_rfl)) (by kernel_rfl) (by kernel_rfl) (fun cf => (by kernel_rfl)) ?_
    refine WpFun.of (h1) ?_
    refine WpOps.keep 9 (Value.bool (isPre l)) (by kernel_rfl) (by kernel_rfl) (by kernel_rfl) ?_ (fun cf => o_pickT g9 (by kernel_rfl) (by kernel_rfl))
    refine WpOps.nil ?_
    exact ⟨rfl, (.upd rfl (.upd rfl (.upd rfl .refl))), (by kernel_rfl)⟩
  · refine WpOps.unmet 7 (by kernel_rfl) (by kernel_rfl) (wants_ft g9 (by kernel_rfl)) ?_
    refine WpOps.unmet 8 (by kernel_rfl) (by kernel_rfl) (wants_ft g9 (by kernel_rfl)) ?_
    refine WpOps.keep 9 (Value.bool false) (by kernel_rfl) (by kernel_rfl) (by kernel_rfl) ?_ (fun cf => o_pickF g9 (by kernel_rfl) (by kernel_rfl))
    refine WpOps.nil ?_
    exact ⟨rfl, (.upd rfl (.upd rfl (.upd rfl .refl))), (by kernel_rfl)⟩
  refine WpOps.keep 2 (Value.bool b9) (by kernel_rfl) (by kernel_rfl) (by kernel_rfl) ?_ (fun cf => (by kernel_rfl))
  refine WpOps.nil ?_
  refine thenK_at ?_
  refine Wp.ret ?_
  refine endK_retn [Value.bool b9] (Value.bool b9) (by kernel_rfl) (by kernel_rfl) ?_
  have : decide ((l.length : Int) ≥ 1) = decide ((l.length : Int) > 0) := decide_eq_decide.2 (by omega)
  rw [this] at hb9
  subst_vars
  rfl

/-- A datagram. -/
structure Gr where
  fx : Nat
  fr : List Int
  tx : Nat
  to : List Int
  number : Int
  life : Int
  at' : Int
  total : Int
  report : Int
  more : Bool
  may : Bool
  wants : Bool
  data : ByteArray
def gc (g : Gr) : List Value := [sl g.fx g.fr, sl g.tx g.to, .int .i64 g.number, .int .i64 g.life, .int .i64 g.at', .int .i64 g.total, .int .i64 g.report, .bool g.more, .bool g.may, .bool g.wants, .string g.data]
def gv (g : Gr) : Value := .agg (gc g).toArray
/-- Is it valid? -/
def okG (g : Gr) : Bool := isAddr g.fr && isAddr g.to && inR g.number 0 65535 && inR g.life 0 60 && inR g.report 0 4 && !(decide (g.report > 0) && g.wants) && inR g.total 0 4000 && inR g.at' 0 g.total &&
  decide ((g.data.size : Int) ≤ IntKind.i64.wrap (g.total - g.at')) && (g.more == decide (IntKind.i64.wrap (g.at' + g.data.size) < g.total))

theorem f20 : E.funcs 20 = some Try.f20 := by kernel_rfl
theorem okG_1 {g : Gr} (h : (isAddr g.fr && isAddr g.to && inR g.number 0 65535 && inR g.life 0 60 && inR g.report 0 4 && !(decide (g.report > 0) && g.wants)) = false) : okG g = false := by
  simp only [okG, h, Bool.false_and]
theorem okG_2 {g : Gr} (h : (inR g.total 0 4000 && inR g.at' 0 g.total && !decide ((g.data.size : Int) > IntKind.i64.wrap (g.total - g.at'))) = false) : okG g = false := by
  have e : decide ((g.data.size : Int) ≤ IntKind.i64.wrap (g.total - g.at')) = !decide ((g.data.size : Int) > IntKind.i64.wrap (g.total - g.at')) := by
    rw [← decide_not]; exact decide_eq_decide.2 (by omega)
  rw [← e] at h
  simp only [okG]
  revert h
  cases inR g.total 0 4000 <;> cases inR g.at' 0 g.total <;> cases decide ((g.data.size : Int) ≤ IntKind.i64.wrap (g.total - g.at')) <;> simp
theorem okG_3 {g : Gr} (h1 : (isAddr g.fr && isAddr g.to && inR g.number 0 65535 && inR g.life 0 60 && inR g.report 0 4 && !(decide (g.report > 0) && g.wants)) = true) (h2 : (inR g.total 0 4000 && inR g.at' 0 g.total && !decide ((g.data.size : Int) > IntKind.i64.wrap (g.total - g.at'))) = true) :
    okG g = (g.more == decide (IntKind.i64.wrap (g.at' + g.data.size) < g.total)) := by
  have e : decide ((g.data.size : Int) ≤ IntKind.i64.wrap (g.total - g.at')) = !decide ((g.data.size : Int) > IntKind.i64.wrap (g.total - g.at')) := by
    rw [← decide_not]; exact decide_eq_decide.2 (by omega)
  rw [← e] at h2
  simp only [okG, h1, Bool.true_and, h2]
theorem chain6 (a b c d e r w : Bool) : cond (cond (cond (cond (cond (!a) true (!b)) true (!c)) true (!d)) true (!e)) true (cond r w false) = !(a && b && c && d && e && !(r && w)) := by
  cases a <;> cases b <;> cases c <;> cases d <;> cases e <;> cases r <;> cases w <;> rfl
theorem chain3 (a b c : Bool) : cond (cond (!a) true (!b)) true c = !(a && b && !c) := by
  cases a <;> cases b <;> cases c <;> rfl

theorem valid20 (g : Gr) (h1 : g.fr.length ≤ 9223372036854775806) (h2 : g.to.length ≤ 9223372036854775806) : Fun E 20 [gv g] (.bool (okG g)) := by
  refine Fun.of f20 rfl (of_decide_eq_true (by kernel_rfl)) rfl ?_
  have v1 := valid49 g.fx g.fr h1
  have v2 := valid49 g.tx g.to h2
  have i1 := in44
  refine Wp.seq ?_
  refine Wp.text ?_
  refine WpOps.made 1 (Value.pointer (some (Addr.mk 0 0 none))) (Blk.mk 24 true (Array.toList (List.toArray (gc g)))) (by kernel_rfl) (by kernel_rfl) (by kernel_rfl) ?_ (fun cf => (by kernel_rfl))
  refine WpOps.keep 2 (Value.bool false) (by kernel_rfl) (by kernel_rfl) (by kernel_rfl) ?_ (fun cf => (by kernel_rfl))
  refine WpOps.nil ?_
  refine thenK_at ?_
  refine Wp.seq ?_
  refine Wp.seq ?_
  refine Wp.text ?_
  refine WpOps.keep 3 (Value.pointer (some (Addr.mk 0 0 none))) (by kernel_rfl) (by kernel_rfl) (by kernel_rfl) ?_ (fun cf => (by kernel_rfl))
  refine WpOps.keep 4 (Value.iface 3 (Value.iface (List.length (Gr.fr g)) (Value.iface (Gr.fx g) (Value.agg (List.toArray (List.map (fun n => Value.int IntKind.i64 n) (Gr.fr g))))))) (by kernel_rfl) (by kernel_rfl) (by kernel_rfl) ?_ (fun cf => (by kernel_rfl))
  refine WpOps.framed 5 49 [Value.iface 3 (Value.iface (List.length (Gr.fr g)) (Value.iface (Gr.fx g) (Value.agg (List.toArray (List.map (fun n => Value.int IntKind.i64 n) (Gr.fr g))))))] (by kernel_rfl) (by kernel_rfl) (by kernel_rfl) (by kernel_rfl) (by kernel_rfl) (fun cf => (by kernel_rfl)) ?_
  refine WpFun.of (v1) ?_
  refine WpOps.keep 6 (Value.bool !isAddr (Gr.fr g)) (by kernel_rfl) (by kernel_rfl) (by kernel_rfl) ?_ (fun cf => (by kernel_rfl))
  refine WpOps.keep 7 (Value.bool !isAddr (Gr.fr g)) (by kernel_rfl) (by kernel_rfl) (by kernel_rfl) ?_ (fun cf => (by kernel_rfl))
  refine WpOps.fork 5 (!isAddr (Gr.fr g)) [8, 9, 10, 11, 12] 12 (true) (!isAddr (Gr.to g)) (by kernel_rfl) (fun g12 => ?_) (fun g12 => ?_) (fun f_12 b12 hb12 => ?_)
  · refine WpOps.unmet 8 (by kernel_rfl) (by kernel_rfl) (wants_tf g12 (by kernel_rfl)) ?_
    refine WpOps.unmet 9 (by kernel_rfl) (by kernel_rfl) (wants_tf g12 (by kernel_rfl)) ?_
    refine WpOps.unmet 10 (by kernel_rfl) (by kernel_rfl) (wants_tf g12 (by kernel_rfl)) ?_
    refine WpOps.unmet 11 (by kernel_rfl) (by kernel_rfl) (wants_tf g12 (by kernel_rfl)) ?_
    refine WpOps.keep 12 (Value.bool true) (by kernel_rfl) (by kernel_rfl) (by kernel_rfl) ?_ (fun cf => o_pickT g12 (by kernel_rfl) (by kernel_rfl))
    refine WpOps.nil ?_
    exact ⟨rfl, (.upd rfl (.upd rfl (.upd rfl (.upd rfl (.upd rfl .refl))))), (by kernel_rfl)⟩
  · refine WpOps.keep 8 (Value.pointer (some (Addr.mk 0 1 none))) (by kernel_rfl) (by kernel_rfl) (wants_ff g12 (by kernel_rfl)) ?_ (fun cf => (by kernel_rfl))
    refine WpOps.keep 9 (Value.iface 3 (Value.iface (List.length (Gr.to g)) (Value.iface (Gr.tx g) (Value.agg (List.toArray (List.map (fun n => Value.int IntKind.i64 n) (Gr.to g))))))) (by kernel_rfl) (by kernel_rfl) (wants_ff g12 (by kernel_rfl)) ?_ (fun cf => (by kernel_rfl))
    refine WpOps.framed 10 49 [Value.iface 3 (Value.iface (List.length (Gr.to g)) (Value.iface (Gr.tx g) (Value.agg (List.toArray (List.map (fun n => Value.int IntKind.i64 n) (Gr.to g))))))] (by kernel_rfl) (by kernel_rfl) (wants_ff g12 (by kernel_rfl)) (by kernel_rfl) (by kernel_rfl) (fun cf => (by kernel_rfl)) ?_
    refine WpFun.of (v2) ?_
    refine WpOps.keep 11 (Value.bool !isAddr (Gr.to g)) (by kernel_rfl) (by kernel_rfl) (wants_ff g12 (by kernel_rfl)) ?_ (fun cf => (by kernel_rfl))
    refine WpOps.keep 12 (Value.bool !isAddr (Gr.to g)) (by kernel_rfl) (by kernel_rfl) (by kernel_rfl) ?_ (fun cf => o_pickF g12 (by kernel_rfl) (by kernel_rfl))
    refine WpOps.nil ?_
    exact ⟨rfl, (.upd rfl (.upd rfl (.upd rfl (.upd rfl (.upd rfl .refl))))), (by kernel_rfl)⟩
  refine WpOps.keep 13 (Value.bool b12) (by kernel_rfl) (by kernel_rfl) (by kernel_rfl) ?_ (fun cf => (by kernel_rfl))
  refine WpOps.fork 5 (b12) [14, 15, 16, 17, 18] 18 (true) (!inR (Gr.number g) 0 65535) (by kernel_rfl) (fun g18 => ?_) (fun g18 => ?_) (fun f_18 b18 hb18 => ?_)
  · refine WpOps.unmet 14 (by kernel_rfl) (by kernel_rfl) (wants_tf g18 (by kernel_rfl)) ?_
    refine WpOps.unmet 15 (by kernel_rfl) (by kernel_rfl) (wants_tf g18 (by kernel_rfl)) ?_
    refine WpOps.unmet 16 (by kernel_rfl) (by kernel_rfl) (wants_tf g18 (by kernel_rfl)) ?_
    refine WpOps.unmet 17 (by kernel_rfl) (by kernel_rfl) (wants_tf g18 (by kernel_rfl)) ?_
    refine WpOps.keep 18 (Value.bool true) (by kernel_rfl) (by kernel_rfl) (by kernel_rfl) ?_ (fun cf => o_pickT g18 (by kernel_rfl) (by kernel_rfl))
    refine WpOps.nil ?_
    exact ⟨rfl, (.upd rfl (.upd rfl (.upd rfl (.upd rfl (.upd rfl .refl))))), (by kernel_rfl)⟩
  · refine WpOps.keep 14 (Value.pointer (some (Addr.mk 0 2 none))) (by kernel_rfl) (by kernel_rfl) (wants_ff g18 (by kernel_rfl)) ?_ (fun cf => (by kernel_rfl))
    refine WpOps.keep 15 (Value.int IntKind.i64 (Gr.number g)) (by kernel_rfl) (by kernel_rfl) (wants_ff g18 (by kernel_rfl)) ?_ (fun cf => (by kernel_rfl))
    refine WpOps.framed 16 44 [Value.int IntKind.i64 (Gr.number g), Value.int IntKind.i64 0, Value.int IntKind.i64 65535] (by kernel_rfl) (by kernel_rfl) (wants_ff g18 (by kernel_rfl)) (by kernel_rfl) (by kernel_rfl) (fun cf => (by kernel_rfl)) ?_
    refine WpFun.of (i1 _ _ _) ?_
    refine WpOps.keep 17 (Value.bool !inR (Gr.number g) 0 65535) (by kernel_rfl) (by kernel_rfl) (wants_ff g18 (by kernel_rfl)) ?_ (fun cf => (by kernel_rfl))
    refine WpOps.keep 18 (Value.bool !inR (Gr.number g) 0 65535) (by kernel_rfl) (by kernel_rfl) (by kernel_rfl) ?_ (fun cf => o_pickF g18 (by kernel_rfl) (by kernel_rfl))
    refine WpOps.nil ?_
    exact ⟨rfl, (.upd rfl (.upd rfl (.upd rfl (.upd rfl (.upd rfl .refl))))), (by kernel_rfl)⟩
  refine WpOps.keep 19 (Value.bool b18) (by kernel_rfl) (by kernel_rfl) (by kernel_rfl) ?_ (fun cf => (by kernel_rfl))
  refine WpOps.fork 5 (b18) [20, 21, 22, 23, 24] 24 (true) (!inR (Gr.life g) 0 60) (by kernel_rfl) (fun g24 => ?_) (fun g24 => ?_) (fun f_24 b24 hb24 => ?_)
  · refine WpOps.unmet 20 (by kernel_rfl) (by kernel_rfl) (wants_tf g24 (by kernel_rfl)) ?_
    refine WpOps.unmet 21 (by kernel_rfl) (by kernel_rfl) (wants_tf g24 (by kernel_rfl)) ?_
    refine WpOps.unmet 22 (by kernel_rfl) (by kernel_rfl) (wants_tf g24 (by kernel_rfl)) ?_
    refine WpOps.unmet 23 (by kernel_rfl) (by kernel_rfl) (wants_tf g24 (by kernel_rfl)) ?_
    refine WpOps.keep 24 (Value.bool true) (by kernel_rfl) (by kernel_rfl) (by kernel_rfl) ?_ (fun cf => o_pickT g24 (by kernel_rfl) (by kernel_rfl))
    refine WpOps.nil ?_
    exact ⟨rfl, (.upd rfl (.upd rfl (.upd rfl (.upd rfl (.upd rfl .refl))))), (by kernel_rfl)⟩
  · refine WpOps.keep 20 (Value.pointer (some (Addr.mk 0 3 none))) (by kernel_rfl) (by kernel_rfl) (wants_ff g24 (by kernel_rfl)) ?_ (fun cf => (by kernel_rfl))
    refine WpOps.keep 21 (Value.int IntKind.i64 (Gr.life g)) (by kernel_rfl) (by kernel_rfl) (wants_ff g24 (by kernel_rfl)) ?_ (fun cf => (by kernel_rfl))
    refine WpOps.framed 22 44 [Value.int IntKind.i64 (Gr.life g), Value.int IntKind.i64 0, Value.int IntKind.i64 60] (by kernel_rfl) (by kernel_rfl) (wants_ff g24 (by kernel_rfl)) (by kernel_rfl) (by kernel_rfl) (fun cf => (by kernel_rfl)) ?_
    refine WpFun.of (i1 _ _ _) ?_
    refine WpOps.keep 23 (Value.bool !inR (Gr.life g) 0 60) (by kernel_rfl) (by kernel_rfl) (wants_ff g24 (by kernel_rfl)) ?_ (fun cf => (by kernel_rfl))
    refine WpOps.keep 24 (Value.bool !inR (Gr.life g) 0 60) (by kernel_rfl) (by kernel_rfl) (by kernel_rfl) ?_ (fun cf => o_pickF g24 (by kernel_rfl) (by kernel_rfl))
    refine WpOps.nil ?_
    exact ⟨rfl, (.upd rfl (.upd rfl (.upd rfl (.upd rfl (.upd rfl .refl))))), (by kernel_rfl)⟩
  refine WpOps.keep 25 (Value.bool b24) (by kernel_rfl) (by kernel_rfl) (by kernel_rfl) ?_ (fun cf => (by kernel_rfl))
  refine WpOps.fork 5 (b24) [26, 27, 28, 29, 30] 30 (true) (!inR (Gr.report g) 0 4) (by kernel_rfl) (fun g30 => ?_) (fun g30 => ?_) (fun f_30 b30 hb30 => ?_)
  · refine WpOps.unmet 26 (by kernel_rfl) (by kernel_rfl) (wants_tf g30 (by kernel_rfl)) ?_
    refine WpOps.unmet 27 (by kernel_rfl) (by kernel_rfl) (wants_tf g30 (by kernel_rfl)) ?_
    refine WpOps.unmet 28 (by kernel_rfl) (by kernel_rfl) (wants_tf g30 (by kernel_rfl)) ?_
    refine WpOps.unmet 29 (by kernel_rfl) (by kernel_rfl) (wants_tf g30 (by kernel_rfl)) ?_
    refine WpOps.keep 30 (Value.bool true) (by kernel_rfl) (by kernel_rfl) (by kernel_rfl) ?_ (fun cf => o_pickT g30 (by kernel_rfl) (by kernel_rfl))
    refine WpOps.nil ?_
    exact ⟨rfl, (.upd rfl (.upd rfl (.upd rfl (.upd rfl (.upd rfl .refl))))), (by kernel_rfl)⟩
  · refine WpOps.keep 26 (Value.pointer (some (Addr.mk 0 6 none))) (by kernel_rfl) (by kernel_rfl) (wants_ff g30 (by kernel_rfl)) ?_ (fun cf => (by kernel_rfl))
    refine WpOps.keep 27 (Value.int IntKind.i64 (Gr.report g)) (by kernel_rfl) (by kernel_rfl) (wants_ff g30 (by kernel_rfl)) ?_ (fun cf => (by kernel_rfl))
    refine WpOps.framed 28 44 [Value.int IntKind.i64 (Gr.report g), Value.int IntKind.i64 0, Value.int IntKind.i64 4] (by kernel_rfl) (by kernel_rfl) (wants_ff g30 (by kernel_rfl)) (by kernel_rfl) (by kernel_rfl) (fun cf => (by kernel_rfl)) ?_
    refine WpFun.of (i1 _ _ _) ?_
    refine WpOps.keep 29 (Value.bool !inR (Gr.report g) 0 4) (by kernel_rfl) (by kernel_rfl) (wants_ff g30 (by kernel_rfl)) ?_ (fun cf => (by kernel_rfl))
    refine WpOps.keep 30 (Value.bool !inR (Gr.report g) 0 4) (by kernel_rfl) (by kernel_rfl) (by kernel_rfl) ?_ (fun cf => o_pickF g30 (by kernel_rfl) (by kernel_rfl))
    refine WpOps.nil ?_
    exact ⟨rfl, (.upd rfl (.upd rfl (.upd rfl (.upd rfl (.upd rfl .refl))))), (by kernel_rfl)⟩
  refine WpOps.keep 31 (Value.bool b30) (by kernel_rfl) (by kernel_rfl) (by kernel_rfl) ?_ (fun cf => (by kernel_rfl))
  refine WpOps.fork 8 (b30) [32, 33, 34, 35, 36, 37, 38, 39] 39 (true) (bif decide (Gr.report g > 0) then Gr.wants g else false) (by kernel_rfl) (fun g39 => ?_) (fun g39 => ?_) (fun f_39 b39 hb39 => ?_)
  · refine WpOps.unmet 32 (by kernel_rfl) (by kernel_rfl) (wants_tf g39 (by kernel_rfl)) ?_
    refine WpOps.unmet 33 (by kernel_rfl) (by kernel_rfl) (wants_tf g39 (by kernel_rfl)) ?_
    refine WpOps.unmet 34 (by kernel_rfl) (by kernel_rfl) (wants_tf g39 (by kernel_rfl)) ?_
    refine WpOps.unmet 35 (by kernel_rfl) (by kernel_rfl) (wants_tf g39 (by kernel_rfl)) ?_
    refine WpOps.unmet 36 (by kernel_rfl) (by kernel_rfl) (by kernel_rfl) ?_
    refine WpOps.unmet 37 (by kernel_rfl) (by kernel_rfl) (by kernel_rfl) ?_
    refine WpOps.unmet 38 (by kernel_rfl) (by kernel_rfl) (wants_tf g39 (by kernel_rfl)) ?_
    refine WpOps.keep 39 (Value.bool true) (by kernel_rfl) (by kernel_rfl) (by kernel_rfl) ?_ (fun cf => o_pickT g39 (by kernel_rfl) (by kernel_rfl))
    refine WpOps.nil ?_
    exact ⟨rfl, (.upd rfl (.upd rfl (.upd rfl (.upd rfl (.upd rfl (.upd rfl (.upd rfl (.upd rfl .refl)))))))), (by kernel_rfl)⟩
  · refine WpOps.keep 32 (Value.pointer (some (Addr.mk 0 6 none))) (by kernel_rfl) (by kernel_rfl) (wants_ff g39 (by kernel_rfl)) ?_ (fun cf => (by kernel_rfl))
    refine WpOps.keep 33 (Value.int IntKind.i64 (Gr.report g)) (by kernel_rfl) (by kernel_rfl) (wants_ff g39 (by kernel_rfl)) ?_ (fun cf => (by kernel_rfl))
    refine WpOps.keep 34 (Value.bool (decide (Gr.report g > 0))) (by kernel_rfl) (by kernel_rfl) (wants_ff g39 (by kernel_rfl)) ?_ (fun cf => (by kernel_rfl))
    refine WpOps.keep 35 (Value.bool (decide (Gr.report g > 0))) (by kernel_rfl) (by kernel_rfl) (wants_ff g39 (by kernel_rfl)) ?_ (fun cf => (by kernel_rfl))
    refine WpOps.forkE 4 (decide (Gr.report g > 0)) [36, 37, 38, 39] 39 (Gr.wants g) (false) (by kernel_rfl) (fun g39' => ?_) (fun g39' => ?_) (fun f_39 => ?_)
    · refine WpOps.keep 36 (Value.pointer (some (Addr.mk 0 9 none))) (by kernel_rfl) (by kernel_rfl) (wants_tt g39' (by kernel_rfl)) ?_ (fun cf => (by kernel_rfl))
      refine WpOps.keep 37 (Value.bool (Gr.wants g)) (by kernel_rfl) (by kernel_rfl) (wants_tt g39' (by kernel_rfl)) ?_ (fun cf => (by kernel_rfl))
      refine WpOps.keep 38 (Value.bool (Gr.wants g)) (by kernel_rfl) (by kernel_rfl) (wants_ff g39 (by kernel_rfl)) ?_ (fun cf => o_pickT g39' (by kernel_rfl) (by kernel_rfl))
      refine WpOps.keep 39 (Value.bool (Gr.wants g)) (by kernel_rfl) (by kernel_rfl) (by kernel_rfl) ?_ (fun cf => o_pickF g39 (by kernel_rfl) (by kernel_rfl))
      refine WpOps.nil ?_
      exact ⟨rfl, (.upd rfl (.upd rfl (.upd rfl (.upd rfl .refl)))), (by kernel_rfl)⟩
    · refine WpOps.unmet 36 (by kernel_rfl) (by kernel_rfl) (wants_ft g39' (by kernel_rfl)) ?_
      refine WpOps.unmet 37 (by kernel_rfl) (by kernel_rfl) (wants_ft g39' (by kernel_rfl)) ?_
      refine WpOps.keep 38 (Value.bool false) (by kernel_rfl) (by kernel_rfl) (wants_ff g39 (by kernel_rfl)) ?_ (fun cf => o_pickF g39' (by kernel_rfl) (by kernel_rfl))
      refine WpOps.keep 39 (Value.bool false) (by kernel_rfl) (by kernel_rfl) (by kernel_rfl) ?_ (fun cf => o_pickF g39 (by kernel_rfl) (by kernel_rfl))
      refine WpOps.nil ?_
      exact ⟨rfl, (.upd rfl (.upd rfl (.upd rfl (.upd rfl .refl)))), (by kernel_rfl)⟩
    refine WpOps.nil ?_
    exact ⟨rfl, (.upd rfl (.mix rfl (.upd rfl (.upd rfl (.upd rfl (.upd rfl .refl)))))), (by kernel_rfl)⟩
  refine WpOps.nil ?_
  refine thenK_at ?_
  refine Wp.split (b39) (by kernel_rfl) (fun hc => ?_) (fun hc => ?_)
  · refine Wp.seq ?_
    refine Wp.text ?_
    refine WpOps.keep 2 (Value.bool false) (by kernel_rfl) (by kernel_rfl) (by kernel_rfl) ?_ (fun cf => (by kernel_rfl))
    refine WpOps.nil ?_
    refine thenK_at ?_
    refine Wp.ret ?_
    refine thenK_ret ?_
    refine endK_retn [Value.bool false] (Value.bool false) (by kernel_rfl) (by kernel_rfl) ?_
    rw [hb39, hb30, hb24, hb18, hb12, chain6] at hc
    rw [okG_1 (by rwa [Bool.not_eq_true'] at hc)]
    rfl
  · refine Wp.skip ?_
    refine thenK_at ?_
    refine Wp.seq ?_
    refine Wp.seq ?_
    refine Wp.text ?_
    refine WpOps.keep 40 (Value.pointer (some (Addr.mk 0 5 none))) (by kernel_rfl) (by kernel_rfl) (by kernel_rfl) ?_ (fun cf => (by kernel_rfl))
    refine WpOps.keep 41 (Value.int IntKind.i64 (Gr.total g)) (by kernel_rfl) (by kernel_rfl) (by kernel_rfl) ?_ (fun cf => (by kernel_rfl))
    refine WpOps.framed 42 44 [Value.int IntKind.i64 (Gr.total g), Value.int IntKind.i64 0, Value.int IntKind.i64 4000] (by kernel_rfl) (by kernel_rfl) (by kernel_rfl) (by kernel_rfl) (by kernel_rfl) (fun cf => (by kernel_rfl)) ?_
    refine WpFun.of (i1 _ _ _) ?_
    refine WpOps.keep 43 (Value.bool !inR (Gr.total g) 0 4000) (by kernel_rfl) (by kernel_rfl) (by kernel_rfl) ?_ (fun cf => (by kernel_rfl))
    refine WpOps.keep 44 (Value.bool !inR (Gr.total g) 0 4000) (by kernel_rfl) (by kernel_rfl) (by kernel_rfl) ?_ (fun cf => (by kernel_rfl))
    refine WpOps.fork 7 (!inR (Gr.total g) 0 4000) [45, 46, 47, 48, 49, 50, 51] 51 (true) (!inR (Gr.at' g) 0 (Gr.total g)) (by kernel_rfl) (fun g51 => ?_) (fun g51 => ?_) (fun f_51 b51 hb51 => ?_)
    · refine WpOps.unmet 45 (by kernel_rfl) (by kernel_rfl) (wants_tf g51 (by kernel_rfl)) ?_
      refine WpOps.unmet 46 (by kernel_rfl) (by kernel_rfl) (wants_tf g51 (by kernel_rfl)) ?_
      refine WpOps.unmet 47 (by kernel_rfl) (by kernel_rfl) (wants_tf g51 (by kernel_rfl)) ?_
      refine WpOps.unmet 48 (by kernel_rfl) (by kernel_rfl) (wants_tf g51 (by kernel_rfl)) ?_
      refine WpOps.unmet 49 (by kernel_rfl) (by kernel_rfl) (wants_tf g51 (by kernel_rfl)) ?_
      refine WpOps.unmet 50 (by kernel_rfl) (by kernel_rfl) (wants_tf g51 (by kernel_rfl)) ?_
      refine WpOps.keep 51 (Value.bool true) (by kernel_rfl) (by kernel_rfl) (by kernel_rfl) ?_ (fun cf => o_pickT g51 (by kernel_rfl) (by kernel_rfl))
      refine WpOps.nil ?_
      exact ⟨rfl, (.upd rfl (.upd rfl (.upd rfl (.upd rfl (.upd rfl (.upd rfl (.upd rfl .refl))))))), (by kernel_rfl)⟩
    · refine WpOps.keep 45 (Value.pointer (some (Addr.mk 0 4 none))) (by kernel_rfl) (by kernel_rfl) (wants_ff g51 (by kernel_rfl)) ?_ (fun cf => (by kernel_rfl))
      refine WpOps.keep 46 (Value.int IntKind.i64 (Gr.at' g)) (by kernel_rfl) (by kernel_rfl) (wants_ff g51 (by kernel_rfl)) ?_ (fun cf => (by kernel_rfl))
      refine WpOps.keep 47 (Value.pointer (some (Addr.mk 0 5 none))) (by kernel_rfl) (by kernel_rfl) (wants_ff g51 (by kernel_rfl)) ?_ (fun cf => (by kernel_rfl))
      refine WpOps.keep 48 (Value.int IntKind.i64 (Gr.total g)) (by kernel_rfl) (by kernel_rfl) (wants_ff g51 (by kernel_rfl)) ?_ (fun cf => (by kernel_rfl))
      refine WpOps.framed 49 44 [Value.int IntKind.i64 (Gr.at' g), Value.int IntKind.i64 0, Value.int IntKind.i64 (Gr.total g)] (by kernel_rfl) (by kernel_rfl) (wants_ff g51 (by kernel_rfl)) (by kernel_rfl) (by kernel_rfl) (fun cf => (by kernel_rfl)) ?_
      refine WpFun.of (i1 _ _ _) ?_
      refine WpOps.keep 50 (Value.bool !inR (Gr.at' g) 0 (Gr.total g)) (by kernel_rfl) (by kernel_rfl) (wants_ff g51 (by kernel_rfl)) ?_ (fun cf => (by kernel_rfl))
      refine WpOps.keep 51 (Value.bool !inR (Gr.at' g) 0 (Gr.total g)) (by kernel_rfl) (by kernel_rfl) (by kernel_rfl) ?_ (fun cf => o_pickF g51 (by kernel_rfl) (by kernel_rfl))
      refine WpOps.nil ?_
      exact ⟨rfl, (.upd rfl (.upd rfl (.upd rfl (.upd rfl (.upd rfl (.upd rfl (.upd rfl .refl))))))), (by kernel_rfl)⟩
    refine WpOps.keep 52 (Value.bool b51) (by kernel_rfl) (by kernel_rfl) (by kernel_rfl) ?_ (fun cf => (by kernel_rfl))
    refine WpOps.fork 10 (b51) [53, 54, 55, 56, 57, 58, 59, 60, 61, 62] 62 (true) (decide ((↑(ByteArray.size (Gr.data g)) : Int) > IntKind.wrap IntKind.i64 (Gr.total g - Gr.at' g))) (by kernel_rfl) (fun g62 => ?_) (fun g62 => ?_) (fun f_62 b62 hb62 => ?_)
    · refine WpOps.unmet 53 (by kernel_rfl) (by kernel_rfl) (wants_tf g62 (by kernel_rfl)) ?_
      refine WpOps.unmet 54 (by kernel_rfl) (by kernel_rfl) (wants_tf g62 (by kernel_rfl)) ?_
      refine WpOps.unmet 55 (by kernel_rfl) (by kernel_rfl) (wants_tf g62 (by kernel_rfl)) ?_
      refine WpOps.unmet 56 (by kernel_rfl) (by kernel_rfl) (wants_tf g62 (by kernel_rfl)) ?_
      refine WpOps.unmet 57 (by kernel_rfl) (by kernel_rfl) (wants_tf g62 (by kernel_rfl)) ?_
      refine WpOps.unmet 58 (by kernel_rfl) (by kernel_rfl) (wants_tf g62 (by kernel_rfl)) ?_
      refine WpOps.unmet 59 (by kernel_rfl) (by kernel_rfl) (wants_tf g62 (by kernel_rfl)) ?_
      refine WpOps.unmet 60 (by kernel_rfl) (by kernel_rfl) (wants_tf g62 (by kernel_rfl)) ?_
      refine WpOps.unmet 61 (by kernel_rfl) (by kernel_rfl) (wants_tf g62 (by kernel_rfl)) ?_
      refine WpOps.keep 62 (Value.bool true) (by kernel_rfl) (by kernel_rfl) (by kernel_rfl) ?_ (fun cf => o_pickT g62 (by kernel_rfl) (by kernel_rfl))
      refine WpOps.nil ?_
      exact ⟨rfl, (.upd rfl (.upd rfl (.upd rfl (.upd rfl (.upd rfl (.upd rfl (.upd rfl (.upd rfl (.upd rfl (.upd rfl .refl)))))))))), (by kernel_rfl)⟩
    · refine WpOps.keep 53 (Value.pointer (some (Addr.mk 0 10 none))) (by kernel_rfl) (by kernel_rfl) (wants_ff g62 (by kernel_rfl)) ?_ (fun cf => (by kernel_rfl))
      refine WpOps.keep 54 (Value.string (Gr.data g)) (by kernel_rfl) (by kernel_rfl) (wants_ff g62 (by kernel_rfl)) ?_ (fun cf => (by kernel_rfl))
      refine WpOps.keep 55 (Value.int IntKind.i64 (↑(ByteArray.size (Gr.data g)) : Int)) (by kernel_rfl) (by kernel_rfl) (wants_ff g62 (by kernel_rfl)) ?_ (fun cf => (by kernel_rfl))
      refine WpOps.keep 56 (Value.pointer (some (Addr.mk 0 5 none))) (by kernel_rfl) (by kernel_rfl) (wants_ff g62 (by kernel_rfl)) ?_ (fun cf => (by kernel_rfl))
      refine WpOps.keep 57 (Value.int IntKind.i64 (Gr.total g)) (by kernel_rfl) (by kernel_rfl) (wants_ff g62 (by kernel_rfl)) ?_ (fun cf => (by kernel_rfl))
      refine WpOps.keep 58 (Value.pointer (some (Addr.mk 0 4 none))) (by kernel_rfl) (by kernel_rfl) (wants_ff g62 (by kernel_rfl)) ?_ (fun cf => (by kernel_rfl))
      refine WpOps.keep 59 (Value.int IntKind.i64 (Gr.at' g)) (by kernel_rfl) (by kernel_rfl) (wants_ff g62 (by kernel_rfl)) ?_ (fun cf => (by kernel_rfl))
      refine WpOps.keep 60 (Value.int IntKind.i64 (IntKind.wrap IntKind.i64 (Gr.total g - Gr.at' g))) (by kernel_rfl) (by kernel_rfl) (wants_ff g62 (by kernel_rfl)) ?_ (fun cf => (by kernel_rfl))
      refine WpOps.keep 61 (Value.bool (decide ((↑(ByteArray.size (Gr.data g)) : Int) > IntKind.wrap IntKind.i64 (Gr.total g - Gr.at' g)))) (by kernel_rfl) (by kernel_rfl) (wants_ff g62 (by kernel_rfl)) ?_ (fun cf => (by kernel_rfl))
      refine WpOps.keep 62 (Value.bool (decide ((↑(ByteArray.size (Gr.data g)) : Int) > IntKind.wrap IntKind.i64 (Gr.total g - Gr.at' g)))) (by kernel_rfl) (by kernel_rfl) (by kernel_rfl) ?_ (fun cf => o_pickF g62 (by kernel_rfl) (by kernel_rfl))
      refine WpOps.nil ?_
      exact ⟨rfl, (.upd rfl (.upd rfl (.upd rfl (.upd rfl (.upd rfl (.upd rfl (.upd rfl (.upd rfl (.upd rfl (.upd rfl .refl)))))))))), (by kernel_rfl)⟩
    refine WpOps.nil ?_
    refine thenK_at ?_
    rw [hb39, hb30, hb24, hb18, hb12, chain6] at hc
    refine Wp.split (b62) (by kernel_rfl) (fun hd => ?_) (fun hd => ?_)
    · refine Wp.seq ?_
      refine Wp.text ?_
      refine WpOps.keep 2 (Value.bool false) (by kernel_rfl) (by kernel_rfl) (by kernel_rfl) ?_ (fun cf => (by kernel_rfl))
      refine WpOps.nil ?_
      refine thenK_at ?_
      refine Wp.ret ?_
      refine thenK_ret ?_
      refine endK_retn [Value.bool false] (Value.bool false) (by kernel_rfl) (by kernel_rfl) ?_
      rw [hb62, hb51, chain3] at hd
      rw [okG_2 (by rwa [Bool.not_eq_true'] at hd)]
      rfl
    · refine Wp.skip ?_
      refine thenK_at ?_
      refine Wp.seq ?_
      refine Wp.text ?_
      refine WpOps.keep 63 (Value.pointer (some (Addr.mk 0 7 none))) (by kernel_rfl) (by kernel_rfl) (by kernel_rfl) ?_ (fun cf => (by kernel_rfl))
      refine WpOps.keep 64 (Value.bool (Gr.more g)) (by kernel_rfl) (by kernel_rfl) (by kernel_rfl) ?_ (fun cf => (by kernel_rfl))
      refine WpOps.keep 65 (Value.pointer (some (Addr.mk 0 4 none))) (by kernel_rfl) (by kernel_rfl) (by kernel_rfl) ?_ (fun cf => (by kernel_rfl))
      refine WpOps.keep 66 (Value.int IntKind.i64 (Gr.at' g)) (by kernel_rfl) (by kernel_rfl) (by kernel_rfl) ?_ (fun cf => (by kernel_rfl))
      refine WpOps.keep 67 (Value.pointer (some (Addr.mk 0 10 none))) (by kernel_rfl) (by kernel_rfl) (by kernel_rfl) ?_ (fun cf => (by kernel_rfl))
      refine WpOps.keep 68 (Value.string (Gr.data g)) (by kernel_rfl) (by kernel_rfl) (by kernel_rfl) ?_ (fun cf => (by kernel_rfl))
      refine WpOps.keep 69 (Value.int IntKind.i64 (↑(ByteArray.size (Gr.data g)) : Int)) (by kernel_rfl) (by kernel_rfl) (by kernel_rfl) ?_ (fun cf => (by kernel_rfl))
      refine WpOps.keep 70 (Value.int IntKind.i64 (IntKind.wrap IntKind.i64 (Gr.at' g + (↑(ByteArray.size (Gr.data g)) : Int)))) (by kernel_rfl) (by kernel_rfl) (by kernel_rfl) ?_ (fun cf => (by kernel_rfl))
      refine WpOps.keep 71 (Value.pointer (some (Addr.mk 0 5 none))) (by kernel_rfl) (by kernel_rfl) (by kernel_rfl) ?_ (fun cf => (by kernel_rfl))
      refine WpOps.keep 72 (Value.int IntKind.i64 (Gr.total g)) (by kernel_rfl) (by kernel_rfl) (by kernel_rfl) ?_ (fun cf => (by kernel_rfl))
      refine WpOps.keep 73 (Value.bool (decide (IntKind.wrap IntKind.i64 (Gr.at' g + (↑(ByteArray.size (Gr.data g)) : Int)) < Gr.total g))) (by kernel_rfl) (by kernel_rfl) (by kernel_rfl) ?_ (fun cf => (by kernel_rfl))
      refine WpOps.keep 74 (Value.bool (Gr.more g == decide (IntKind.wrap IntKind.i64 (Gr.at' g + (↑(ByteArray.size (Gr.data g)) : Int)) < Gr.total g))) (by kernel_rfl) (by kernel_rfl) (by kernel_rfl) ?_ (fun cf => (by kernel_rfl))
      refine WpOps.keep 2 (Value.bool (Gr.more g == decide (IntKind.wrap IntKind.i64 (Gr.at' g + (↑(ByteArray.size (Gr.data g)) : Int)) < Gr.total g))) (by kernel_rfl) (by kernel_rfl) (by kernel_rfl) ?_ (fun cf => (by kernel_rfl))
      refine WpOps.nil ?_
      refine thenK_at ?_
      refine Wp.ret ?_
      refine endK_retn [Value.bool (Gr.more g == decide (IntKind.wrap IntKind.i64 (Gr.at' g + (↑(ByteArray.size (Gr.data g)) : Int)) < Gr.total g))] (Value.bool (Gr.more g == decide (IntKind.wrap IntKind.i64 (Gr.at' g + (↑(ByteArray.size (Gr.data g)) : Int)) < Gr.total g))) (by kernel_rfl) (by kernel_rfl) ?_
      rw [hb62, hb51, chain3] at hd
      rw [okG_3 (by rwa [Bool.not_eq_false'] at hc) (by rwa [Bool.not_eq_false'] at hd)]
      rfl
end Go.Proofs.Ytpkkcpglbjbgfaa.D
