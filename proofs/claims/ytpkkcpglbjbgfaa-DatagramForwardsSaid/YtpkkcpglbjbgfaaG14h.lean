/- Forwarding: the document's comparing, tables. -/
import Derived.Test.YtpkkcpglbjbgfaaFwLem
import Derived.Test.YtpkkcpglbjbgfaaG14d
namespace Go.Proofs.Ytpkkcpglbjbgfaa.D
open Go.Fw Go.RowKit

theorem drop_cons (p : List Int) (i : Nat) (h : i < p.length) : p.drop i = p.getD i 0 :: p.drop (i + 1) := by
  rw [List.drop_eq_getElem_cons h, List.getD_eq_getElem?_getD, List.getElem?_eq_getElem h]
  rfl
theorem f88 : E.funcs 88 = some Try.f88 := by kernel_rfl
theorem compare88 (x y : Nat) (p q : List Int) (hp : p.length ≤ 9223372036854775806) : Fun E 88 [sl x p, sl y q] (.int .i64 (cmpL p q)) := by
  refine Fun.of f88 rfl (of_decide_eq_true (by kernel_rfl)) rfl ?_
  refine Wp.seq ?_
  refine Wp.text ?_
  refine WpOps.keep 4 (Value.int IntKind.i64 0) (by kernel_rfl) (by kernel_rfl) (by kernel_rfl) ?_ (fun cf => (by kernel_rfl))
  refine WpOps.nil ?_
  refine thenK_at ?_
  refine Wp.seq ?_
  refine Wp.seq ?_
  refine Wp.text ?_
  refine WpOps.keep 5 (Value.int IntKind.i64 0) (by kernel_rfl) (by kernel_rfl) (by kernel_rfl) ?_ (fun cf => (by kernel_rfl))
  refine WpOps.nil ?_
  refine thenK_at ?_
  refine Wp.block ?_
  refine Wp.loop (G := Nat) (fun i => layj [(0, sl x p), (1, sl y q), (5, .int .i64 i)]) (fun _ => heapOf []) (fun i => p.length - i) (fun i => i ≤ p.length ∧ i ≤ q.length ∧ ∀ j, j < i → p.getD j 0 = q.getD j 0) 0
    (View.of [] [] _ List.nodup_nil rfl trivial ⟨⟨by kernel_rfl, rfl⟩, ⟨by kernel_rfl, rfl⟩, ⟨by kernel_rfl, rfl⟩, trivial⟩) ⟨Nat.zero_le _, Nat.zero_le _, fun j hj => absurd hj (Nat.not_lt_zero _)⟩ ?_
  rintro i ⟨hi, hi2, he⟩
  have hx := cmpL_eq p q i hi hi2 he
  by_cases h1 : i < p.length
  · have d1 : decide ((i : Int) < p.length) = true := decide_eq_true (by omega)
    by_cases h2 : i < q.length
    · have d2 : decide ((i : Int) < q.length) = true := decide_eq_true (by omega)
      have h0 : 0 ≤ (i : Int) ∧ (i : Int) < p.length := ⟨Int.natCast_nonneg _, by omega⟩
      have h3 : 0 ≤ (i : Int) ∧ (i : Int) < q.length := ⟨Int.natCast_nonneg _, by omega⟩
      have hv := sl_at p i h1
      have hw := sl_at q i h2
      rw [drop_cons p i h1, drop_cons q i h2, cmpL] at hx
      unfold cmpI at hx
      refine Wp.seq ?_
      refine Wp.seq ?_
      refine Wp.text ?_
      refine WpOps.keep 6 (Value.int IntKind.i64 (↑i : Int)) (by kernel_rfl) (by kernel_rfl) (by kernel_rfl) ?_ (fun cf => (by kernel_rfl))
      refine WpOps.keep 7 (Value.iface 3 (Value.iface (List.length p) (Value.iface x (Value.agg (List.toArray (List.map (fun n => Value.int IntKind.i64 n) p)))))) (by kernel_rfl) (by kernel_rfl) (by kernel_rfl) ?_ (fun cf => (by kernel_rfl))
      refine WpOps.keep 8 (Value.int IntKind.i64 (↑(List.length p) : Int)) (by kernel_rfl) (by kernel_rfl) (by kernel_rfl) ?_ (fun cf => (by kernel_rfl))
      refine WpOps.keep 9 (Value.bool true) (by kernel_rfl) (by kernel_rfl) (by kernel_rfl) ?_ (fun cf => by_fact d1 ((by kernel_rfl)))
      refine WpOps.keep 10 (Value.bool true) (by kernel_rfl) (by kernel_rfl) (by kernel_rfl) ?_ (fun cf => (by kernel_rfl))
      refine WpOps.keep 11 (Value.int IntKind.i64 (↑i : Int)) (by kernel_rfl) (by kernel_rfl) (by kernel_rfl) ?_ (fun cf => (by kernel_rfl))
      refine WpOps.keep 12 (Value.iface 3 (Value.iface (List.length q) (Value.iface y (Value.agg (List.toArray (List.map (fun n => Value.int IntKind.i64 n) q)))))) (by kernel_rfl) (by kernel_rfl) (by kernel_rfl) ?_ (fun cf => (by kernel_rfl))
      refine WpOps.keep 13 (Value.int IntKind.i64 (↑(List.length q) : Int)) (by kernel_rfl) (by kernel_rfl) (by kernel_rfl) ?_ (fun cf => (by kernel_rfl))
      refine WpOps.keep 14 (Value.bool true) (by kernel_rfl) (by kernel_rfl) (by kernel_rfl) ?_ (fun cf => by_fact d2 ((by kernel_rfl)))
      refine WpOps.keep 15 (Value.bool true) (by kernel_rfl) (by kernel_rfl) (by kernel_rfl) ?_ (fun cf => (by kernel_rfl))
      refine WpOps.nil ?_
      refine thenK_at ?_
      refine Wp.on (by kernel_rfl) ?_
      refine Wp.skip ?_
      refine thenK_at ?_
      refine Wp.seq ?_
      refine Wp.block ?_
      refine Wp.seq ?_
      refine Wp.seq ?_
      refine Wp.region (by kernel_rfl) ?_
      refine WpOps.keep 18 (Value.iface 3 (Value.iface (List.length p) (Value.iface x (Value.agg (List.toArray (List.map (fun n => Value.int IntKind.i64 n) p)))))) (by kernel_rfl) (by kernel_rfl) (by kernel_rfl) ?_ (fun cf => (by kernel_rfl))
      refine WpOps.keep 19 (Value.int IntKind.i64 (↑i : Int)) (by kernel_rfl) (by kernel_rfl) (by kernel_rfl) ?_ (fun cf => (by kernel_rfl))
      refine WpOps.keep 20 (Value.iface 3 (Value.iface (Int.toNat (↑i : Int) * 1) (Value.agg (List.toArray (List.map (fun n => Value.int IntKind.i64 n) p))))) (by kernel_rfl) (by kernel_rfl) (by kernel_rfl) ?_ (fun cf => o_indexI (e := 3) (size := 1) (a := (↑i : Int)) h0 (by kernel_rfl) (by kernel_rfl) (by kernel_rfl) (by kernel_rfl))
      refine WpOps.keep 21 (Value.int IntKind.i64 (List.getD p i 0)) (by kernel_rfl) (by kernel_rfl) (by kernel_rfl) ?_ (fun cf => o_loadI1 (Int.toNat (↑i : Int) * 1) hv (by kernel_rfl) (by kernel_rfl))
      refine WpOps.keep 22 (Value.iface 3 (Value.iface (List.length q) (Value.iface y (Value.agg (List.toArray (List.map (fun n => Value.int IntKind.i64 n) q)))))) (by kernel_rfl) (by kernel_rfl) (by kernel_rfl) ?_ (fun cf => (by kernel_rfl))
      refine WpOps.keep 23 (Value.int IntKind.i64 (↑i : Int)) (by kernel_rfl) (by kernel_rfl) (by kernel_rfl) ?_ (fun cf => (by kernel_rfl))
      refine WpOps.keep 24 (Value.iface 3 (Value.iface (Int.toNat (↑i : Int) * 1) (Value.agg (List.toArray (List.map (fun n => Value.int IntKind.i64 n) q))))) (by kernel_rfl) (by kernel_rfl) (by kernel_rfl) ?_ (fun cf => o_indexI (e := 3) (size := 1) (a := (↑i : Int)) h3 (by kernel_rfl) (by kernel_rfl) (by kernel_rfl) (by kernel_rfl))
      refine WpOps.keep 25 (Value.int IntKind.i64 (List.getD q i 0)) (by kernel_rfl) (by kernel_rfl) (by kernel_rfl) ?_ (fun cf => o_loadI1 (Int.toNat (↑i : Int) * 1) hw (by kernel_rfl) (by kernel_rfl))
      refine WpOps.keep 26 (Value.bool (decide (List.getD p i 0 < List.getD q i 0))) (by kernel_rfl) (by kernel_rfl) (by kernel_rfl) ?_ (fun cf => (by kernel_rfl))
      refine WpOps.nil ?_
      refine thenK_at ?_
      refine Wp.split (decide (List.getD p i 0 < List.getD q i 0)) (by kernel_rfl) (fun hb => ?_) (fun hb => ?_)
      · have hlt := of_decide_eq_true hb
        rw [if_pos hlt, if_pos (by decide)] at hx
        refine Wp.seq ?_
        refine Wp.text ?_
        refine WpOps.keep 4 (Value.int IntKind.i64 (-1)) (by kernel_rfl) (by kernel_rfl) (by kernel_rfl) ?_ (fun cf => (by kernel_rfl))
        refine WpOps.nil ?_
        refine thenK_at ?_
        refine Wp.ret ?_
        refine thenK_ret ?_
        refine blockK_ret ?_
        refine thenK_ret ?_
        refine thenK_ret ?_
        refine blockK_ret ?_
        refine thenK_ret ?_
        refine endK_retn [Value.int IntKind.i64 (-1)] (Value.int IntKind.i64 (-1)) (by kernel_rfl) (by kernel_rfl) ?_
        rw [hx]
        rfl
      · have hlt := of_decide_eq_false hb
        rw [if_neg hlt] at hx
        refine Wp.skip ?_
        refine thenK_at ?_
        refine Wp.seq ?_
        refine Wp.region (by kernel_rfl) ?_
        refine WpOps.keep 27 (Value.iface 3 (Value.iface (List.length p) (Value.iface x (Value.agg (List.toArray (List.map (fun n => Value.int IntKind.i64 n) p)))))) (by kernel_rfl) (by kernel_rfl) (by kernel_rfl) ?_ (fun cf => (by kernel_rfl))
        refine WpOps.keep 28 (Value.int IntKind.i64 (↑i : Int)) (by kernel_rfl) (by kernel_rfl) (by kernel_rfl) ?_ (fun cf => (by kernel_rfl))
        refine WpOps.keep 29 (Value.iface 3 (Value.iface (Int.toNat (↑i : Int) * 1) (Value.agg (List.toArray (List.map (fun n => Value.int IntKind.i64 n) p))))) (by kernel_rfl) (by kernel_rfl) (by kernel_rfl) ?_ (fun cf => o_indexI (e := 3) (size := 1) (a := (↑i : Int)) h0 (by kernel_rfl) (by kernel_rfl) (by kernel_rfl) (by kernel_rfl))
        refine WpOps.keep 30 (Value.int IntKind.i64 (List.getD p i 0)) (by kernel_rfl) (by kernel_rfl) (by kernel_rfl) ?_ (fun cf => o_loadI1 (Int.toNat (↑i : Int) * 1) hv (by kernel_rfl) (by kernel_rfl))
        refine WpOps.keep 31 (Value.iface 3 (Value.iface (List.length q) (Value.iface y (Value.agg (List.toArray (List.map (fun n => Value.int IntKind.i64 n) q)))))) (by kernel_rfl) (by kernel_rfl) (by kernel_rfl) ?_ (fun cf => (by kernel_rfl))
        refine WpOps.keep 32 (Value.int IntKind.i64 (↑i : Int)) (by kernel_rfl) (by kernel_rfl) (by kernel_rfl) ?_ (fun cf => (by kernel_rfl))
        refine WpOps.keep 33 (Value.iface 3 (Value.iface (Int.toNat (↑i : Int) * 1) (Value.agg (List.toArray (List.map (fun n => Value.int IntKind.i64 n) q))))) (by kernel_rfl) (by kernel_rfl) (by kernel_rfl) ?_ (fun cf => o_indexI (e := 3) (size := 1) (a := (↑i : Int)) h3 (by kernel_rfl) (by kernel_rfl) (by kernel_rfl) (by kernel_rfl))
        refine WpOps.keep 34 (Value.int IntKind.i64 (List.getD q i 0)) (by kernel_rfl) (by kernel_rfl) (by kernel_rfl) ?_ (fun cf => o_loadI1 (Int.toNat (↑i : Int) * 1) hw (by kernel_rfl) (by kernel_rfl))
        refine WpOps.keep 35 (Value.bool (decide (List.getD p i 0 > List.getD q i 0))) (by kernel_rfl) (by kernel_rfl) (by kernel_rfl) ?_ (fun cf => (by kernel_rfl))
        refine WpOps.nil ?_
        refine thenK_at ?_
        refine Wp.split (decide (List.getD p i 0 > List.getD q i 0)) (by kernel_rfl) (fun hd => ?_) (fun hd => ?_)
        · have hgt := of_decide_eq_true hd
          rw [if_pos hgt, if_pos (by decide)] at hx
          refine Wp.seq ?_
          refine Wp.text ?_
          refine WpOps.keep 4 (Value.int IntKind.i64 1) (by kernel_rfl) (by kernel_rfl) (by kernel_rfl) ?_ (fun cf => (by kernel_rfl))
          refine WpOps.nil ?_
          refine thenK_at ?_
          refine Wp.ret ?_
          refine blockK_ret ?_
          refine thenK_ret ?_
          refine thenK_ret ?_
          refine blockK_ret ?_
          refine thenK_ret ?_
          refine endK_retn [Value.int IntKind.i64 1] (Value.int IntKind.i64 1) (by kernel_rfl) (by kernel_rfl) ?_
          rw [hx]
          rfl
        · have hgt := of_decide_eq_false hd
          refine Wp.skip ?_
          refine blockK_norm ?_
          refine thenK_at ?_
          refine Wp.text ?_
          refine WpOps.keep 16 (Value.int IntKind.i64 (↑i : Int)) (by kernel_rfl) (by kernel_rfl) (by kernel_rfl) ?_ (fun cf => (by kernel_rfl))
          refine WpOps.keep 17 (Value.int IntKind.i64 (IntKind.wrap IntKind.i64 ((↑i : Int) + 1))) (by kernel_rfl) (by kernel_rfl) (by kernel_rfl) ?_ (fun cf => (by kernel_rfl))
          refine WpOps.keep 5 (Value.int IntKind.i64 (IntKind.wrap IntKind.i64 ((↑i : Int) + 1))) (by kernel_rfl) (by kernel_rfl) (by kernel_rfl) ?_ (fun cf => (by kernel_rfl))
          refine WpOps.nil ?_
          refine thenK_at ?_
          refine ⟨i + 1, by omega, ⟨by omega, by omega, fun j hj => ?_⟩, View.of [] [] _ List.nodup_nil rfl trivial ⟨⟨by kernel_rfl, rfl⟩, ⟨by kernel_rfl, rfl⟩, ⟨congrArg (Value.int .i64) (wrap_i64 ((i : Int) + 1) (by omega) (by omega)), rfl⟩, trivial⟩⟩
          rcases Nat.lt_or_ge j i with h | h
          · exact he j h
          · obtain rfl : j = i := by omega
            omega
    · have d2 : decide ((i : Int) < q.length) = false := decide_eq_false (by omega)
      have hq : q.drop i = [] := List.drop_eq_nil_of_le (by omega)
      rw [drop_cons p i h1, hq] at hx
      have d3 : decide ((p.length : Int) < q.length) = false := decide_eq_false (by omega)
      have d4 : decide ((p.length : Int) > q.length) = true := decide_eq_true (by omega)
      refine Wp.seq ?_
      refine Wp.seq ?_
      refine Wp.text ?_
      refine WpOps.keep 6 (Value.int IntKind.i64 (↑i : Int)) (by kernel_rfl) (by kernel_rfl) (by kernel_rfl) ?_ (fun cf => (by kernel_rfl))
      refine WpOps.keep 7 (Value.iface 3 (Value.iface (List.length p) (Value.iface x (Value.agg (List.toArray (List.map (fun n => Value.int IntKind.i64 n) p)))))) (by kernel_rfl) (by kernel_rfl) (by kernel_rfl) ?_ (fun cf => (by kernel_rfl))
      refine WpOps.keep 8 (Value.int IntKind.i64 (↑(List.length p) : Int)) (by kernel_rfl) (by kernel_rfl) (by kernel_rfl) ?_ (fun cf => (by kernel_rfl))
      refine WpOps.keep 9 (Value.bool true) (by kernel_rfl) (by kernel_rfl) (by kernel_rfl) ?_ (fun cf => by_fact d1 ((by kernel_rfl)))
      refine WpOps.keep 10 (Value.bool true) (by kernel_rfl) (by kernel_rfl) (by kernel_rfl) ?_ (fun cf => (by kernel_rfl))
      refine WpOps.keep 11 (Value.int IntKind.i64 (↑i : Int)) (by kernel_rfl) (by kernel_rfl) (by kernel_rfl) ?_ (fun cf => (by kernel_rfl))
      refine WpOps.keep 12 (Value.iface 3 (Value.iface (List.length q) (Value.iface y (Value.agg (List.toArray (List.map (fun n => Value.int IntKind.i64 n) q)))))) (by kernel_rfl) (by kernel_rfl) (by kernel_rfl) ?_ (fun cf => (by kernel_rfl))
      refine WpOps.keep 13 (Value.int IntKind.i64 (↑(List.length q) : Int)) (by kernel_rfl) (by kernel_rfl) (by kernel_rfl) ?_ (fun cf => (by kernel_rfl))
      refine WpOps.keep 14 (Value.bool false) (by kernel_rfl) (by kernel_rfl) (by kernel_rfl) ?_ (fun cf => by_fact d2 ((by kernel_rfl)))
      refine WpOps.keep 15 (Value.bool false) (by kernel_rfl) (by kernel_rfl) (by kernel_rfl) ?_ (fun cf => (by kernel_rfl))
      refine WpOps.nil ?_
      refine thenK_at ?_
      refine Wp.off (by kernel_rfl) ?_
      refine Wp.exit ?_
      refine thenK_exit ?_
      refine thenK_exit ?_
      refine blockK_hit ?_
      refine thenK_at ?_
      refine Wp.seq ?_
      refine Wp.seq ?_
      refine Wp.text ?_
      refine WpOps.keep 36 (Value.iface 3 (Value.iface (List.length p) (Value.iface x (Value.agg (List.toArray (List.map (fun n => Value.int IntKind.i64 n) p)))))) (by kernel_rfl) (by kernel_rfl) (by kernel_rfl) ?_ (fun cf => (by kernel_rfl))
      refine WpOps.keep 37 (Value.int IntKind.i64 (↑(List.length p) : Int)) (by kernel_rfl) (by kernel_rfl) (by kernel_rfl) ?_ (fun cf => (by kernel_rfl))
      refine WpOps.keep 38 (Value.iface 3 (Value.iface (List.length q) (Value.iface y (Value.agg (List.toArray (List.map (fun n => Value.int IntKind.i64 n) q)))))) (by kernel_rfl) (by kernel_rfl) (by kernel_rfl) ?_ (fun cf => (by kernel_rfl))
      refine WpOps.keep 39 (Value.int IntKind.i64 (↑(List.length q) : Int)) (by kernel_rfl) (by kernel_rfl) (by kernel_rfl) ?_ (fun cf => (by kernel_rfl))
      refine WpOps.keep 40 (Value.bool false) (by kernel_rfl) (by kernel_rfl) (by kernel_rfl) ?_ (fun cf => by_fact d3 ((by kernel_rfl)))
      refine WpOps.nil ?_
      refine thenK_at ?_
      refine Wp.off (by kernel_rfl) ?_
      refine Wp.skip ?_
      refine thenK_at ?_
      refine Wp.seq ?_
      refine Wp.seq ?_
      refine Wp.text ?_
      refine WpOps.keep 41 (Value.iface 3 (Value.iface (List.length p) (Value.iface x (Value.agg (List.toArray (List.map (fun n => Value.int IntKind.i64 n) p)))))) (by kernel_rfl) (by kernel_rfl) (by kernel_rfl) ?_ (fun cf => (by kernel_rfl))
      refine WpOps.keep 42 (Value.int IntKind.i64 (↑(List.length p) : Int)) (by kernel_rfl) (by kernel_rfl) (by kernel_rfl) ?_ (fun cf => (by kernel_rfl))
      refine WpOps.keep 43 (Value.iface 3 (Value.iface (List.length q) (Value.iface y (Value.agg (List.toArray (List.map (fun n => Value.int IntKind.i64 n) q)))))) (by kernel_rfl) (by kernel_rfl) (by kernel_rfl) ?_ (fun cf => (by kernel_rfl))
      refine WpOps.keep 44 (Value.int IntKind.i64 (↑(List.length q) : Int)) (by kernel_rfl) (by kernel_rfl) (by kernel_rfl) ?_ (fun cf => (by kernel_rfl))
      refine WpOps.keep 45 (Value.bool true) (by kernel_rfl) (by kernel_rfl) (by kernel_rfl) ?_ (fun cf => by_fact d4 ((by kernel_rfl)))
      refine WpOps.nil ?_
      refine thenK_at ?_
      refine Wp.on (by kernel_rfl) ?_
      refine Wp.seq ?_
      refine Wp.text ?_
      refine WpOps.keep 4 (Value.int IntKind.i64 1) (by kernel_rfl) (by kernel_rfl) (by kernel_rfl) ?_ (fun cf => (by kernel_rfl))
      refine WpOps.nil ?_
      refine thenK_at ?_
      refine Wp.ret ?_
      refine thenK_ret ?_
      refine endK_retn [Value.int IntKind.i64 1] (Value.int IntKind.i64 1) (by kernel_rfl) (by kernel_rfl) ?_
      rw [hx]
      rfl
  · have d1 : decide ((i : Int) < p.length) = false := decide_eq_false (by omega)
    have ep : p.drop i = [] := List.drop_eq_nil_of_le (by omega)
    rw [ep] at hx
    by_cases h2 : i < q.length
    · have d3 : decide ((p.length : Int) < q.length) = true := decide_eq_true (by omega)
      rw [drop_cons q i h2] at hx
      refine Wp.seq ?_
      refine Wp.seq ?_
      refine Wp.text ?_
      refine WpOps.keep 6 (Value.int IntKind.i64 (↑i : Int)) (by kernel_rfl) (by kernel_rfl) (by kernel_rfl) ?_ (fun cf => (by kernel_rfl))
      refine WpOps.keep 7 (Value.iface 3 (Value.iface (List.length p) (Value.iface x (Value.agg (List.toArray (List.map (fun n => Value.int IntKind.i64 n) p)))))) (by kernel_rfl) (by kernel_rfl) (by kernel_rfl) ?_ (fun cf => (by kernel_rfl))
      refine WpOps.keep 8 (Value.int IntKind.i64 (↑(List.length p) : Int)) (by kernel_rfl) (by kernel_rfl) (by kernel_rfl) ?_ (fun cf => (by kernel_rfl))
      refine WpOps.keep 9 (Value.bool false) (by kernel_rfl) (by kernel_rfl) (by kernel_rfl) ?_ (fun cf => by_fact d1 ((by kernel_rfl)))
      refine WpOps.keep 10 (Value.bool false) (by kernel_rfl) (by kernel_rfl) (by kernel_rfl) ?_ (fun cf => (by kernel_rfl))
      refine WpOps.unmet 11 (by kernel_rfl) (by kernel_rfl) (by kernel_rfl) ?_
      refine WpOps.unmet 12 (by kernel_rfl) (by kernel_rfl) (by kernel_rfl) ?_
      refine WpOps.unmet 13 (by kernel_rfl) (by kernel_rfl) (by kernel_rfl) ?_
      refine WpOps.unmet 14 (by kernel_rfl) (by kernel_rfl) (by kernel_rfl) ?_
      refine WpOps.keep 15 (Value.bool false) (by kernel_rfl) (by kernel_rfl) (by kernel_rfl) ?_ (fun cf => (by kernel_rfl))
      refine WpOps.nil ?_
      refine thenK_at ?_
      refine Wp.off (by kernel_rfl) ?_
      refine Wp.exit ?_
      refine thenK_exit ?_
      refine thenK_exit ?_
      refine blockK_hit ?_
      refine thenK_at ?_
      refine Wp.seq ?_
      refine Wp.seq ?_
      refine Wp.text ?_
      refine WpOps.keep 36 (Value.iface 3 (Value.iface (List.length p) (Value.iface x (Value.agg (List.toArray (List.map (fun n => Value.int IntKind.i64 n) p)))))) (by kernel_rfl) (by kernel_rfl) (by kernel_rfl) ?_ (fun cf => (by kernel_rfl))
      refine WpOps.keep 37 (Value.int IntKind.i64 (↑(List.length p) : Int)) (by kernel_rfl) (by kernel_rfl) (by kernel_rfl) ?_ (fun cf => (by kernel_rfl))
      refine WpOps.keep 38 (Value.iface 3 (Value.iface (List.length q) (Value.iface y (Value.agg (List.toArray (List.map (fun n => Value.int IntKind.i64 n) q)))))) (by kernel_rfl) (by kernel_rfl) (by kernel_rfl) ?_ (fun cf => (by kernel_rfl))
      refine WpOps.keep 39 (Value.int IntKind.i64 (↑(List.length q) : Int)) (by kernel_rfl) (by kernel_rfl) (by kernel_rfl) ?_ (fun cf => (by kernel_rfl))
      refine WpOps.keep 40 (Value.bool true) (by kernel_rfl) (by kernel_rfl) (by kernel_rfl) ?_ (fun cf => by_fact d3 ((by kernel_rfl)))
      refine WpOps.nil ?_
      refine thenK_at ?_
      refine Wp.on (by kernel_rfl) ?_
      refine Wp.seq ?_
      refine Wp.text ?_
      refine WpOps.keep 4 (Value.int IntKind.i64 (-1)) (by kernel_rfl) (by kernel_rfl) (by kernel_rfl) ?_ (fun cf => (by kernel_rfl))
      refine WpOps.nil ?_
      refine thenK_at ?_
      refine Wp.ret ?_
      refine thenK_ret ?_
      refine endK_retn [Value.int IntKind.i64 (-1)] (Value.int IntKind.i64 (-1)) (by kernel_rfl) (by kernel_rfl) ?_
      rw [hx]
      rfl
    · have hq : q.drop i = [] := List.drop_eq_nil_of_le (by omega)
      have d3 : decide ((p.length : Int) < q.length) = false := decide_eq_false (by omega)
      have d4 : decide ((p.length : Int) > q.length) = false := decide_eq_false (by omega)
      rw [hq] at hx
      refine Wp.seq ?_
      refine Wp.seq ?_
      refine Wp.text ?_
      refine WpOps.keep 6 (Value.int IntKind.i64 (↑i : Int)) (by kernel_rfl) (by kernel_rfl) (by kernel_rfl) ?_ (fun cf => (by kernel_rfl))
      refine WpOps.keep 7 (Value.iface 3 (Value.iface (List.length p) (Value.iface x (Value.agg (List.toArray (List.map (fun n => Value.int IntKind.i64 n) p)))))) (by kernel_rfl) (by kernel_rfl) (by kernel_rfl) ?_ (fun cf => (by kernel_rfl))
      refine WpOps.keep 8 (Value.int IntKind.i64 (↑(List.length p) : Int)) (by kernel_rfl) (by kernel_rfl) (by kernel_rfl) ?_ (fun cf => (by kernel_rfl))
      refine WpOps.keep 9 (Value.bool false) (by kernel_rfl) (by kernel_rfl) (by kernel_rfl) ?_ (fun cf => by_fact d1 ((by kernel_rfl)))
      refine WpOps.keep 10 (Value.bool false) (by kernel_rfl) (by kernel_rfl) (by kernel_rfl) ?_ (fun cf => (by kernel_rfl))
      refine WpOps.unmet 11 (by kernel_rfl) (by kernel_rfl) (by kernel_rfl) ?_
      refine WpOps.unmet 12 (by kernel_rfl) (by kernel_rfl) (by kernel_rfl) ?_
      refine WpOps.unmet 13 (by kernel_rfl) (by kernel_rfl) (by kernel_rfl) ?_
      refine WpOps.unmet 14 (by kernel_rfl) (by kernel_rfl) (by kernel_rfl) ?_
      refine WpOps.keep 15 (Value.bool false) (by kernel_rfl) (by kernel_rfl) (by kernel_rfl) ?_ (fun cf => (by kernel_rfl))
      refine WpOps.nil ?_
      refine thenK_at ?_
      refine Wp.off (by kernel_rfl) ?_
      refine Wp.exit ?_
      refine thenK_exit ?_
      refine thenK_exit ?_
      refine blockK_hit ?_
      refine thenK_at ?_
      refine Wp.seq ?_
      refine Wp.seq ?_
      refine Wp.text ?_
      refine WpOps.keep 36 (Value.iface 3 (Value.iface (List.length p) (Value.iface x (Value.agg (List.toArray (List.map (fun n => Value.int IntKind.i64 n) p)))))) (by kernel_rfl) (by kernel_rfl) (by kernel_rfl) ?_ (fun cf => (by kernel_rfl))
      refine WpOps.keep 37 (Value.int IntKind.i64 (↑(List.length p) : Int)) (by kernel_rfl) (by kernel_rfl) (by kernel_rfl) ?_ (fun cf => (by kernel_rfl))
      refine WpOps.keep 38 (Value.iface 3 (Value.iface (List.length q) (Value.iface y (Value.agg (List.toArray (List.map (fun n => Value.int IntKind.i64 n) q)))))) (by kernel_rfl) (by kernel_rfl) (by kernel_rfl) ?_ (fun cf => (by kernel_rfl))
      refine WpOps.keep 39 (Value.int IntKind.i64 (↑(List.length q) : Int)) (by kernel_rfl) (by kernel_rfl) (by kernel_rfl) ?_ (fun cf => (by kernel_rfl))
      refine WpOps.keep 40 (Value.bool false) (by kernel_rfl) (by kernel_rfl) (by kernel_rfl) ?_ (fun cf => by_fact d3 ((by kernel_rfl)))
      refine WpOps.nil ?_
      refine thenK_at ?_
      refine Wp.off (by kernel_rfl) ?_
      refine Wp.skip ?_
      refine thenK_at ?_
      refine Wp.seq ?_
      refine Wp.seq ?_
      refine Wp.text ?_
      refine WpOps.keep 41 (Value.iface 3 (Value.iface (List.length p) (Value.iface x (Value.agg (List.toArray (List.map (fun n => Value.int IntKind.i64 n) p)))))) (by kernel_rfl) (by kernel_rfl) (by kernel_rfl) ?_ (fun cf => (by kernel_rfl))
      refine WpOps.keep 42 (Value.int IntKind.i64 (↑(List.length p) : Int)) (by kernel_rfl) (by kernel_rfl) (by kernel_rfl) ?_ (fun cf => (by kernel_rfl))
      refine WpOps.keep 43 (Value.iface 3 (Value.iface (List.length q) (Value.iface y (Value.agg (List.toArray (List.map (fun n => Value.int IntKind.i64 n) q)))))) (by kernel_rfl) (by kernel_rfl) (by kernel_rfl) ?_ (fun cf => (by kernel_rfl))
      refine WpOps.keep 44 (Value.int IntKind.i64 (↑(List.length q) : Int)) (by kernel_rfl) (by kernel_rfl) (by kernel_rfl) ?_ (fun cf => (by kernel_rfl))
      refine WpOps.keep 45 (Value.bool false) (by kernel_rfl) (by kernel_rfl) (by kernel_rfl) ?_ (fun cf => by_fact d4 ((by kernel_rfl)))
      refine WpOps.nil ?_
      refine thenK_at ?_
      refine Wp.off (by kernel_rfl) ?_
      refine Wp.skip ?_
      refine thenK_at ?_
      refine Wp.seq ?_
      refine Wp.text ?_
      refine WpOps.keep 4 (Value.int IntKind.i64 0) (by kernel_rfl) (by kernel_rfl) (by kernel_rfl) ?_ (fun cf => (by kernel_rfl))
      refine WpOps.nil ?_
      refine thenK_at ?_
      refine Wp.ret ?_
      refine endK_retn [Value.int IntKind.i64 0] (Value.int IntKind.i64 0) (by kernel_rfl) (by kernel_rfl) ?_
      rw [hx]
      rfl
theorem cmpL_zero : ∀ (p q : List Int), cmpL p q = 0 ↔ p = q
  | [], [] => by simp [cmpL]
  | [], _ :: _ => by simp [cmpL]
  | _ :: _, [] => by simp [cmpL]
  | a :: p, b :: q => by
    have ih := cmpL_zero p q
    rw [cmpL]
    by_cases h : cmpI a b = 0
    · rw [if_neg (by simpa using h)]
      have hab : a = b := by
        unfold cmpI at h
        split at h
        · cases h
        · split at h
          · cases h
          · omega
      subst hab
      simp [ih]
    · rw [if_pos h]
      refine ⟨fun hh => absurd hh h, fun hh => ?_⟩
      injection hh with h1 _
      subst h1
      exact absurd (by unfold cmpI; rw [if_neg (by omega), if_neg (by omega)]) h
theorem f97 : E.funcs 97 = some Try.f97 := by kernel_rfl
theorem begins97 (x y : Nat) (p a : List Int) (hp : p.length ≤ 9223372036854775806) : Fun E 97 [sl x p, sl y a] (.bool (beginsB a p)) := by
  refine Fun.of f97 rfl (of_decide_eq_true (by kernel_rfl)) rfl ?_
  by_cases h : p.length ≤ a.length
  · have h1 : decide ((p.length : Int) ≤ a.length) = true := decide_eq_true (by omega)
    have h2 : 0 ≤ (p.length : Int) ∧ (p.length : Int) ≤ (a.length : Int) := by omega
    have e : beginsB a p = (cmpL p (a.take p.length) == 0) := by
      unfold beginsB
      rw [Bool.eq_iff_iff, decide_eq_true_eq, beq_iff_eq, cmpL_zero]
      exact ⟨fun h => h.2.symm, fun k => ⟨h, k.symm⟩⟩
    have c : ∀ z, Fun E 88 [sl x p, FS 3 ((p.length : Int).toNat - 0) z (List.take (((p.length : Int).toNat - 0) * 1) (List.drop 0 (List.map (fun n => Value.int .i64 n) a).toArray.toList)).toArray] (.int .i64 (cmpL p (a.take p.length))) := fun z => by
      rw [sl_take a p.length z h]
      exact compare88 x z p (a.take p.length) hp
    refine Wp.seq ?_
    refine Wp.text ?_
    refine WpOps.keep 4 (Value.bool false) (by kernel_rfl) (by kernel_rfl) (by kernel_rfl) ?_ (fun cf => (by kernel_rfl))
    refine WpOps.nil ?_
    refine thenK_at ?_
    refine Wp.seq ?_
    refine Wp.text ?_
    refine WpOps.keep 5 (Value.iface 3 (Value.iface (List.length p) (Value.iface x (Value.agg (List.toArray (List.map (fun n => Value.int IntKind.i64 n) p)))))) (by kernel_rfl) (by kernel_rfl) (by kernel_rfl) ?_ (fun cf => (by kernel_rfl))
    refine WpOps.keep 6 (Value.int IntKind.i64 (↑(List.length p) : Int)) (by kernel_rfl) (by kernel_rfl) (by kernel_rfl) ?_ (fun cf => (by kernel_rfl))
    refine WpOps.keep 7 (Value.iface 3 (Value.iface (List.length a) (Value.iface y (Value.agg (List.toArray (List.map (fun n => Value.int IntKind.i64 n) a)))))) (by kernel_rfl) (by kernel_rfl) (by kernel_rfl) ?_ (fun cf => (by kernel_rfl))
    refine WpOps.keep 8 (Value.int IntKind.i64 (↑(List.length a) : Int)) (by kernel_rfl) (by kernel_rfl) (by kernel_rfl) ?_ (fun cf => (by kernel_rfl))
    refine WpOps.keep 9 (Value.bool true) (by kernel_rfl) (by kernel_rfl) (by kernel_rfl) ?_ (fun cf => by_fact h1 ((by kernel_rfl)))
    refine WpOps.keep 10 (Value.bool true) (by kernel_rfl) (by kernel_rfl) (by kernel_rfl) ?_ (fun cf => (by kernel_rfl))
    refine WpOps.keep 11 (Value.iface 3 (Value.iface (List.length p) (Value.iface x (Value.agg (List.toArray (List.map (fun n => Value.int IntKind.i64 n) p)))))) (by kernel_rfl) (by kernel_rfl) (by kernel_rfl) ?_ (fun cf => (by kernel_rfl))
    refine WpOps.keep 12 (Value.iface 3 (Value.iface (List.length a) (Value.iface y (Value.agg (List.toArray (List.map (fun n => Value.int IntKind.i64 n) a)))))) (by kernel_rfl) (by kernel_rfl) (by kernel_rfl) ?_ (fun cf => (by kernel_rfl))
    refine WpOps.keep 13 (Value.iface 3 (Value.iface (List.length p) (Value.iface x (Value.agg (List.toArray (List.map (fun n => Value.int IntKind.i64 n) p)))))) (by kernel_rfl) (by kernel_rfl) (by kernel_rfl) ?_ (fun cf => (by kernel_rfl))
    refine WpOps.keep 14 (Value.int IntKind.i64 (↑(List.length p) : Int)) (by kernel_rfl) (by kernel_rfl) (by kernel_rfl) ?_ (fun cf => (by kernel_rfl))
    refine WpOps.keep 15 (Value.iface 3 (Value.iface (Int.toNat (↑(List.length p) : Int) - 0) (Value.iface (if y = 2 then 2 else 0) (Value.agg (List.toArray (List.take ((Int.toNat (↑(List.length p) : Int) - 0) * 1) (List.drop 0 (Array.toList (List.toArray (List.map (fun n => Value.int IntKind.i64 n) a)))))))))) (by kernel_rfl) (by kernel_rfl) (by kernel_rfl) ?_ (fun cf => o_cutF_hi (size := 1) h2 (by kernel_rfl) (by kernel_rfl) (by kernel_rfl) (by kernel_rfl))
    refine WpOps.framed 16 88 [Value.iface 3 (Value.iface (List.length p) (Value.iface x (Value.agg (List.toArray (List.map (fun n => Value.int IntKind.i64 n) p))))), Value.iface 3 (Value.iface (Int.toNat (↑(List.length p) : Int) - 0) (Value.iface (if y = 2 then 2 else 0) (Value.agg (List.toArray (List.take ((Int.toNat (↑(List.length p) : Int) - 0) * 1) (List.drop 0 (Array.toList (List.toArray (List.map (fun n => Value.int IntKind.i64 n) a)))))))))] (by kernel_rfl) (by kernel_rfl) (by kernel_rfl) (by kernel_rfl) (by kernel_rfl) (fun cf => (by kernel_rfl)) ?_
    refine WpFun.of (c _) ?_
    refine WpOps.keep 17 (Value.bool (cmpL p (List.take (List.length p) a) == 0)) (by kernel_rfl) (by kernel_rfl) (by kernel_rfl) ?_ (fun cf => (by kernel_rfl))
    refine WpOps.keep 18 (Value.bool (cmpL p (List.take (List.length p) a) == 0)) (by kernel_rfl) (by kernel_rfl) (by kernel_rfl) ?_ (fun cf => (by kernel_rfl))
    refine WpOps.keep 4 (Value.bool (cmpL p (List.take (List.length p) a) == 0)) (by kernel_rfl) (by kernel_rfl) (by kernel_rfl) ?_ (fun cf => (by kernel_rfl))
    refine WpOps.nil ?_
    refine thenK_at ?_
    refine Wp.ret ?_
    refine endK_retn [Value.bool (cmpL p (List.take (List.length p) a) == 0)] (Value.bool (cmpL p (List.take (List.length p) a) == 0)) (by kernel_rfl) (by kernel_rfl) ?_
    rw [e]
    rfl
  · have h1 : decide ((p.length : Int) ≤ a.length) = false := decide_eq_false (by omega)
    have e : beginsB a p = false := decide_eq_false fun k => h k.1
    refine Wp.seq ?_
    refine Wp.text ?_
    refine WpOps.keep 4 (Value.bool false) (by kernel_rfl) (by kernel_rfl) (by kernel_rfl) ?_ (fun cf => (by kernel_rfl))
    refine WpOps.nil ?_
    refine thenK_at ?_
    refine Wp.seq ?_
    refine Wp.text ?_
    refine WpOps.keep 5 (Value.iface 3 (Value.iface (List.length p) (Value.iface x (Value.agg (List.toArray (List.map (fun n => Value.int IntKind.i64 n) p)))))) (by kernel_rfl) (by kernel_rfl) (by kernel_rfl) ?_ (fun cf => (by kernel_rfl))
    refine WpOps.keep 6 (Value.int IntKind.i64 (↑(List.length p) : Int)) (by kernel_rfl) (by kernel_rfl) (by kernel_rfl) ?_ (fun cf => (by kernel_rfl))
    refine WpOps.keep 7 (Value.iface 3 (Value.iface (List.length a) (Value.iface y (Value.agg (List.toArray (List.map (fun n => Value.int IntKind.i64 n) a)))))) (by kernel_rfl) (by kernel_rfl) (by kernel_rfl) ?_ (fun cf => (by kernel_rfl))
    refine WpOps.keep 8 (Value.int IntKind.i64 (↑(List.length a) : Int)) (by kernel_rfl) (by kernel_rfl) (by kernel_rfl) ?_ (fun cf => (by kernel_rfl))
    refine WpOps.keep 9 (Value.bool false) (by kernel_rfl) (by kernel_rfl) (by kernel_rfl) ?_ (fun cf => by_fact h1 ((by kernel_rfl)))
    refine WpOps.keep 10 (Value.bool false) (by kernel_rfl) (by kernel_rfl) (by kernel_rfl) ?_ (fun cf => (by kernel_rfl))
    refine WpOps.unmet 11 (by kernel_rfl) (by kernel_rfl) (by kernel_rfl) ?_
    refine WpOps.unmet 12 (by kernel_rfl) (by kernel_rfl) (by kernel_rfl) ?_
    refine WpOps.unmet 13 (by kernel_rfl) (by kernel_rfl) (by kernel_rfl) ?_
    refine WpOps.unmet 14 (by kernel_rfl) (by kernel_rfl) (by kernel_rfl) ?_
    refine WpOps.unmet 15 (by kernel_rfl) (by kernel_rfl) (by kernel_rfl) ?_
    refine WpOps.unmet 16 (by kernel_rfl) (by kernel_rfl) (by kernel_rfl) ?_
    refine WpOps.unmet 17 (by kernel_rfl) (by kernel_rfl) (by kernel_rfl) ?_
    refine WpOps.keep 18 (Value.bool false) (by kernel_rfl) (by kernel_rfl) (by kernel_rfl) ?_ (fun cf => (by kernel_rfl))
    refine WpOps.keep 4 (Value.bool false) (by kernel_rfl) (by kernel_rfl) (by kernel_rfl) ?_ (fun cf => (by kernel_rfl))
    refine WpOps.nil ?_
    refine thenK_at ?_
    refine Wp.ret ?_
    refine endK_retn [Value.bool false] (Value.bool false) (by kernel_rfl) (by kernel_rfl) ?_
    rw [e]
    rfl
theorem f87 : E.funcs 87 = some Try.f87 := by kernel_rfl
theorem entry87 (e : En) : Fun E 87 [evl e] (.bool (enOk e)) := by
  refine Fun.of f87 rfl (of_decide_eq_true (by kernel_rfl)) rfl ?_
  have c := prefix79 e.x e.p
  refine Wp.seq ?_
  refine Wp.text ?_
  refine WpOps.made 1 (Value.pointer (some (Addr.mk 0 0 none))) (Blk.mk 135 true [Value.iface 3 (Value.iface (List.length (En.p e)) (Value.iface (En.x e) (Value.agg (List.toArray (List.map (fun n => Value.int IntKind.i64 n) (En.p e)))))), Value.int IntKind.i64 (En.to e)]) (by kernel_rfl) (by kernel_rfl) (by kernel_rfl) ?_ (fun cf => (by kernel_rfl))
  refine WpOps.keep 2 (Value.bool false) (by kernel_rfl) (by kernel_rfl) (by kernel_rfl) ?_ (fun cf => (by kernel_rfl))
  refine WpOps.nil ?_
  refine thenK_at ?_
  refine Wp.seq ?_
  refine Wp.text ?_
  refine WpOps.keep 3 (Value.pointer (some (Addr.mk 0 0 none))) (by kernel_rfl) (by kernel_rfl) (by kernel_rfl) ?_ (fun cf => (by kernel_rfl))
  refine WpOps.keep 4 (Value.iface 3 (Value.iface (List.length (En.p e)) (Value.iface (En.x e) (Value.agg (List.toArray (List.map (fun n => Value.int IntKind.i64 n) (En.p e))))))) (by kernel_rfl) (by kernel_rfl) (by kernel_rfl) ?_ (fun cf => (by kernel_rfl))
  refine WpOps.framed 5 79 [Value.iface 3 (Value.iface (List.length (En.p e)) (Value.iface (En.x e) (Value.agg (List.toArray (List.map (fun n => Value.int IntKind.i64 n) (En.p e))))))] (by kernel_rfl) (by kernel_rfl) (by kernel_rfl) (by kernel_rfl) (by kernel_rfl) (fun cf => (by kernel_rfl)) ?_
  refine WpFun.of (c) ?_
  refine WpOps.keep 6 (Value.bool (isPre (En.p e))) (by kernel_rfl) (by kernel_rfl) (by kernel_rfl) ?_ (fun cf => (by kernel_rfl))
  refine WpOps.fork 4 (isPre (En.p e)) [7, 8, 9, 10] 10 (decide (En.to e ≥ 0)) (false) (by kernel_rfl) (fun g10 => ?_) (fun g10 => ?_) (fun f_10 b10 hb10 => ?_)
  · refine WpOps.keep 7 (Value.pointer (some (Addr.mk 0 1 none))) (by kernel_rfl) (by kernel_rfl) (wants_tt g10 (by kernel_rfl)) ?_ (fun cf => (by kernel_rfl))
    refine WpOps.keep 8 (Value.int IntKind.i64 (En.to e)) (by kernel_rfl) (by kernel_rfl) (wants_tt g10 (by kernel_rfl)) ?_ (fun cf => (by kernel_rfl))
    refine WpOps.keep 9 (Value.bool (decide (En.to e ≥ 0))) (by kernel_rfl) (by kernel_rfl) (wants_tt g10 (by kernel_rfl)) ?_ (fun cf => (by kernel_rfl))
    refine WpOps.keep 10 (Value.bool (decide (En.to e ≥ 0))) (by kernel_rfl) (by kernel_rfl) (by kernel_rfl) ?_ (fun cf => o_pickT g10 (by kernel_rfl) (by kernel_rfl))
    refine WpOps.nil ?_
    exact ⟨rfl, (.upd rfl (.upd rfl (.upd rfl (.upd rfl .refl)))), (by kernel_rfl)⟩
  · refine WpOps.unmet 7 (by kernel_rfl) (by kernel_rfl) (wants_ft g10 (by kernel_rfl)) ?_
    refine WpOps.unmet 8 (by kernel_rfl) (by kernel_rfl) (wants_ft g10 (by kernel_rfl)) ?_
    refine WpOps.unmet 9 (by kernel_rfl) (by kernel_rfl) (wants_ft g10 (by kernel_rfl)) ?_
    refine WpOps.keep 10 (Value.bool false) (by kernel_rfl) (by kernel_rfl) (by kernel_rfl) ?_ (fun cf => o_pickF g10 (by kernel_rfl) (by kernel_rfl))
    refine WpOps.nil ?_
    exact ⟨rfl, (.upd rfl (.upd rfl (.upd rfl (.upd rfl .refl)))), (by kernel_rfl)⟩
  refine WpOps.keep 11 (Value.bool b10) (by kernel_rfl) (by kernel_rfl) (by kernel_rfl) ?_ (fun cf => (by kernel_rfl))
  refine WpOps.fork 4 (b10) [12, 13, 14, 15] 15 (decide (En.to e ≤ 999)) (false) (by kernel_rfl) (fun g15 => ?_) (fun g15 => ?_) (fun f_15 b15 hb15 => ?_)
  · refine WpOps.keep 12 (Value.pointer (some (Addr.mk 0 1 none))) (by kernel_rfl) (by kernel_rfl) (wants_tt g15 (by kernel_rfl)) ?_ (fun cf => (by kernel_rfl))
    refine WpOps.keep 13 (Value.int IntKind.i64 (En.to e)) (by kernel_rfl) (by kernel_rfl) (wants_tt g15 (by kernel_rfl)) ?_ (fun cf => (by kernel_rfl))
    refine WpOps.keep 14 (Value.bool (decide (En.to e ≤ 999))) (by kernel_rfl) (by kernel_rfl) (wants_tt g15 (by kernel_rfl)) ?_ (fun cf => (by kernel_rfl))
    refine WpOps.keep 15 (Value.bool (decide (En.to e ≤ 999))) (by kernel_rfl) (by kernel_rfl) (by kernel_rfl) ?_ (fun cf => o_pickT g15 (by kernel_rfl) (by kernel_rfl))
    refine WpOps.nil ?_
    exact ⟨rfl, (.upd rfl (.upd rfl (.upd rfl (.upd rfl .refl)))), (by kernel_rfl)⟩
  · refine WpOps.unmet 12 (by kernel_rfl) (by kernel_rfl) (wants_ft g15 (by kernel_rfl)) ?_
    refine WpOps.unmet 13 (by kernel_rfl) (by kernel_rfl) (wants_ft g15 (by kernel_rfl)) ?_
    refine WpOps.unmet 14 (by kernel_rfl) (by kernel_rfl) (wants_ft g15 (by kernel_rfl)) ?_
    refine WpOps.keep 15 (Value.bool false) (by kernel_rfl) (by kernel_rfl) (by kernel_rfl) ?_ (fun cf => o_pickF g15 (by kernel_rfl) (by kernel_rfl))
    refine WpOps.nil ?_
    exact ⟨rfl, (.upd rfl (.upd rfl (.upd rfl (.upd rfl .refl)))), (by kernel_rfl)⟩
  refine WpOps.keep 2 (Value.bool b15) (by kernel_rfl) (by kernel_rfl) (by kernel_rfl) ?_ (fun cf => (by kernel_rfl))
  refine WpOps.nil ?_
  refine thenK_at ?_
  refine Wp.ret ?_
  refine endK_retn [Value.bool b15] (Value.bool b15) (by kernel_rfl) (by kernel_rfl) ?_
  rw [hb15, hb10]
  unfold enOk
  cases isPre e.p <;> cases decide (e.to ≥ 0) <;> rfl
theorem f74 : E.funcs 74 = some Try.f74 := by kernel_rfl
theorem table74 (x : Nat) (l : List En) (ok : ∀ e ∈ l, OkEn e) : Fun E 74 [ents 135 x l] (.bool (tblOk l)) := by
  refine Fun.of f74 rfl (of_decide_eq_true (by kernel_rfl)) rfl ?_
  refine Wp.seq ?_
  refine Wp.text ?_
  refine WpOps.keep 2 (Value.bool false) (by kernel_rfl) (by kernel_rfl) (by kernel_rfl) ?_ (fun cf => (by kernel_rfl))
  refine WpOps.nil ?_
  refine thenK_at ?_
  refine Wp.seq ?_
  refine Wp.seq ?_
  refine Wp.text ?_
  refine WpOps.keep 4 (Value.iface 135 (Value.iface (List.length l) (Value.iface x (Value.agg (List.toArray (List.flatMap ec l)))))) (by kernel_rfl) (by kernel_rfl) (by kernel_rfl) ?_ (fun cf => (by kernel_rfl))
  refine WpOps.keep 5 (Value.int IntKind.i64 (↑(List.length l) : Int)) (by kernel_rfl) (by kernel_rfl) (by kernel_rfl) ?_ (fun cf => (by kernel_rfl))
  refine WpOps.keep 6 (Value.bool (decide ((↑(List.length l) : Int) > 100))) (by kernel_rfl) (by kernel_rfl) (by kernel_rfl) ?_ (fun cf => (by kernel_rfl))
  refine WpOps.nil ?_
  refine thenK_at ?_
  refine Wp.split (decide ((↑(List.length l) : Int) > 100)) (by kernel_rfl) (fun hl => ?_) (fun hl => ?_)
  · have : tblOk l = false := by
      unfold tblOk
      rw [decide_eq_false (show ¬ l.length ≤ 100 by have := of_decide_eq_true hl; omega), Bool.false_and]
    refine Wp.seq ?_
    refine Wp.text ?_
    refine WpOps.keep 2 (Value.bool false) (by kernel_rfl) (by kernel_rfl) (by kernel_rfl) ?_ (fun cf => (by kernel_rfl))
    refine WpOps.nil ?_
    refine thenK_at ?_
    refine Wp.ret ?_
    refine thenK_ret ?_
    refine endK_retn [Value.bool false] (Value.bool false) (by kernel_rfl) (by kernel_rfl) ?_
    rw [this]
    rfl
  · have hlen : l.length ≤ 100 := by have := of_decide_eq_false hl; omega
    refine Wp.skip ?_
    refine thenK_at ?_
    refine Wp.seq ?_
    refine Wp.seq ?_
    refine Wp.text ?_
    refine WpOps.keep 3 (Value.int IntKind.i64 0) (by kernel_rfl) (by kernel_rfl) (by kernel_rfl) ?_ (fun cf => (by kernel_rfl))
    refine WpOps.nil ?_
    refine thenK_at ?_
    refine Wp.block ?_
    refine Wp.loop (G := Nat) (fun i => layj [(0, ents 135 x l), (3, .int .i64 i)]) (fun _ => heapOf []) (fun i => l.length - i) (fun i => i ≤ l.length ∧ ∀ j, j < i → rowOk l j = true) 0
      (View.of [] [] _ List.nodup_nil rfl trivial ⟨⟨by kernel_rfl, rfl⟩, ⟨by kernel_rfl, rfl⟩, trivial⟩) ⟨Nat.zero_le _, fun j hj => absurd hj (Nat.not_lt_zero _)⟩ ?_
    rintro i ⟨hi, hp⟩
    refine Wp.seq ?_
    refine Wp.seq ?_
    refine Wp.text ?_
    refine WpOps.keep 7 (Value.int IntKind.i64 (↑i : Int)) (by kernel_rfl) (by kernel_rfl) (by kernel_rfl) ?_ (fun cf => (by kernel_rfl))
    refine WpOps.keep 8 (Value.iface 135 (Value.iface (List.length l) (Value.iface x (Value.agg (List.toArray (List.flatMap ec l)))))) (by kernel_rfl) (by kernel_rfl) (by kernel_rfl) ?_ (fun cf => (by kernel_rfl))
    refine WpOps.keep 9 (Value.int IntKind.i64 (↑(List.length l) : Int)) (by kernel_rfl) (by kernel_rfl) (by kernel_rfl) ?_ (fun cf => (by kernel_rfl))
    refine WpOps.keep 10 (Value.bool (decide ((↑i : Int) < (↑(List.length l) : Int)))) (by kernel_rfl) (by kernel_rfl) (by kernel_rfl) ?_ (fun cf => (by kernel_rfl))
    refine WpOps.nil ?_
    refine thenK_at ?_
    refine Wp.split (decide ((↑i : Int) < (↑(List.length l) : Int))) (by kernel_rfl) (fun hc => ?_) (fun hc => ?_)
    · have hlt : (i : Int) < l.length := of_decide_eq_true hc
      have hi2 : i < l.length := by omega
      have h0 : 0 ≤ (i : Int) ∧ (i : Int) < l.length := ⟨Int.natCast_nonneg _, hlt⟩
      have hv := flat_at ec 2 (fun _ => rfl) l i hi2
      have ge : l.getD i zE = l[i] := by rw [List.getD_eq_getElem?_getD, List.getElem?_eq_getElem hi2]; rfl
      have c1 := entry87 l[i]
      by_cases hz : 0 < i
      · have i1 : IntKind.i64.wrap ((i : Int) - 1) = ((i - 1 : Nat) : Int) := by rw [wr _ (by omega) (by omega)]; omega
        have h1 : 0 ≤ IntKind.i64.wrap ((i : Int) - 1) ∧ IntKind.i64.wrap ((i : Int) - 1) < l.length := by rw [i1]; omega
        have z1 : decide ((i : Int) > 0) = true := decide_eq_true (by omega)
        have g2 : l.getD (i - 1) zE = l[i - 1]'(by omega) := by rw [List.getD_eq_getElem?_getD, List.getElem?_eq_getElem (show i - 1 < l.length by omega)]; rfl
        have hw : (List.flatMap ec l)[(IntKind.i64.wrap ((i : Int) - 1)).toNat * 2 + 0]? = some (sl (l[i - 1]'(by omega)).x (l[i - 1]'(by omega)).p) := by
          rw [i1, Int.toNat_natCast, flat_get ec 2 (fun _ => rfl) l (i - 1) 0 (by omega) (by omega)]
          rfl
        have hw2 : (List.flatMap ec l)[((i : Int)).toNat * 2 + 0]? = some (sl (l[i]).x (l[i]).p) := by
          rw [Int.toNat_natCast, flat_get ec 2 (fun _ => rfl) l i 0 hi2 (by omega)]
          rfl
        have c2 := compare88 (l[i - 1]'(by omega)).x (l[i]).x (l[i - 1]'(by omega)).p (l[i]).p (by have := (ok _ (List.getElem_mem (show i - 1 < l.length by omega))).l; omega)
        refine Wp.skip ?_
        refine thenK_at ?_
        refine Wp.seq ?_
        refine Wp.block ?_
        refine Wp.seq ?_
        refine Wp.region (by kernel_rfl) ?_
        refine WpOps.keep 13 (Value.iface 135 (Value.iface (List.length l) (Value.iface x (Value.agg (List.toArray (List.flatMap ec l)))))) (by kernel_rfl) (by kernel_rfl) (by kernel_rfl) ?_ (fun cf => (by kernel_rfl))
        refine WpOps.keep 14 (Value.int IntKind.i64 (↑i : Int)) (by kernel_rfl) (by kernel_rfl) (by kernel_rfl) ?_ (fun cf => (by kernel_rfl))
        refine WpOps.keep 15 (Value.iface 135 (Value.iface (Int.toNat (↑i : Int) * 2) (Value.agg (List.toArray (List.flatMap ec l))))) (by kernel_rfl) (by kernel_rfl) (by kernel_rfl) ?_ (fun cf => o_indexI (e := 135) (size := 2) (a := (↑i : Int)) h0 (by kernel_rfl) (by kernel_rfl) (by kernel_rfl) (by kernel_rfl))
        refine WpOps.keep 16 (Value.agg (List.toArray (ec l[i]))) (by kernel_rfl) (by kernel_rfl) (by kernel_rfl) ?_ (fun cf => o_loadIA (Int.toNat (↑i : Int) * 2) hv (by kernel_rfl) (by kernel_rfl))
        refine WpOps.framed 17 87 [Value.agg (List.toArray (ec l[i]))] (by kernel_rfl) (by kernel_rfl) (by kernel_rfl) (by kernel_rfl) (by kernel_rfl) (fun cf => (by kernel_rfl)) ?_
        refine WpFun.of (c1) ?_
        refine WpOps.keep 18 (Value.bool !enOk l[i]) (by kernel_rfl) (by kernel_rfl) (by kernel_rfl) ?_ (fun cf => (by kernel_rfl))
        refine WpOps.keep 19 (Value.bool !enOk l[i]) (by kernel_rfl) (by kernel_rfl) (by kernel_rfl) ?_ (fun cf => (by kernel_rfl))
        refine WpOps.fork 18 (!enOk l[i]) [20, 21, 22, 23, 24, 25, 26, 27, 28, 29, 30, 31, 32, 33, 34, 35, 36, 37] 37 (true) (decide (cmpL (En.p l[i - 1]) (En.p l[i]) ≥ 0)) (by kernel_rfl) (fun g37 => ?_) (fun g37 => ?_) (fun f_37 b37 hb37 => ?_)
        · refine WpOps.unmet 20 (by kernel_rfl) (by kernel_rfl) (wants_tf g37 (by kernel_rfl)) ?_
          refine WpOps.unmet 21 (by kernel_rfl) (by kernel_rfl) (wants_tf g37 (by kernel_rfl)) ?_
          refine WpOps.unmet 22 (by kernel_rfl) (by kernel_rfl) (wants_tf g37 (by kernel_rfl)) ?_
          refine WpOps.unmet 23 (by kernel_rfl) (by kernel_rfl) (by kernel_rfl) ?_
          refine WpOps.unmet 24 (by kernel_rfl) (by kernel_rfl) (by kernel_rfl) ?_
          refine WpOps.unmet 25 (by kernel_rfl) (by kernel_rfl) (by kernel_rfl) ?_
          refine WpOps.unmet 26 (by kernel_rfl) (by kernel_rfl) (by kernel_rfl) ?_
          refine WpOps.unmet 27 (by kernel_rfl) (by kernel_rfl) (by kernel_rfl) ?_
          refine WpOps.unmet 28 (by kernel_rfl) (by kernel_rfl) (by kernel_rfl) ?_
          refine WpOps.unmet 29 (by kernel_rfl) (by kernel_rfl) (by kernel_rfl) ?_
          refine WpOps.unmet 30 (by kernel_rfl) (by kernel_rfl) (by kernel_rfl) ?_
          refine WpOps.unmet 31 (by kernel_rfl) (by kernel_rfl) (by kernel_rfl) ?_
          refine WpOps.unmet 32 (by kernel_rfl) (by kernel_rfl) (by kernel_rfl) ?_
          refine WpOps.unmet 33 (by kernel_rfl) (by kernel_rfl) (by kernel_rfl) ?_
          refine WpOps.unmet 34 (by kernel_rfl) (by kernel_rfl) (by kernel_rfl) ?_
          refine WpOps.unmet 35 (by kernel_rfl) (by kernel_rfl) (by kernel_rfl) ?_
          refine WpOps.unmet 36 (by kernel_rfl) (by kernel_rfl) (wants_tf g37 (by kernel_rfl)) ?_
          refine WpOps.keep 37 (Value.bool true) (by kernel_rfl) (by kernel_rfl) (by kernel_rfl) ?_ (fun cf => o_pickT g37 (by kernel_rfl) (by kernel_rfl))
          refine WpOps.nil ?_
          exact ⟨rfl, (.upd rfl (.upd rfl (.upd rfl (.upd rfl (.upd rfl (.upd rfl (.upd rfl (.upd rfl (.upd rfl (.upd rfl (.upd rfl (.upd rfl (.upd rfl (.upd rfl (.upd rfl (.upd rfl (.upd rfl (.upd rfl .refl)))))))))))))))))), (by kernel_rfl)⟩
        · refine WpOps.keep 20 (Value.int IntKind.i64 (↑i : Int)) (by kernel_rfl) (by kernel_rfl) (wants_ff g37 (by kernel_rfl)) ?_ (fun cf => (by kernel_rfl))
          refine WpOps.keep 21 (Value.bool true) (by kernel_rfl) (by kernel_rfl) (wants_ff g37 (by kernel_rfl)) ?_ (fun cf => by_fact z1 ((by kernel_rfl)))
          refine WpOps.keep 22 (Value.bool true) (by kernel_rfl) (by kernel_rfl) (wants_ff g37 (by kernel_rfl)) ?_ (fun cf => (by kernel_rfl))
          refine WpOps.keep 23 (Value.iface 135 (Value.iface (List.length l) (Value.iface x (Value.agg (List.toArray (List.flatMap ec l)))))) (by kernel_rfl) (by kernel_rfl) (by kernel_rfl) ?_ (fun cf => (by kernel_rfl))
          refine WpOps.keep 24 (Value.int IntKind.i64 (↑i : Int)) (by kernel_rfl) (by kernel_rfl) (by kernel_rfl) ?_ (fun cf => (by kernel_rfl))
          refine WpOps.keep 25 (Value.int IntKind.i64 (IntKind.wrap IntKind.i64 ((↑i : Int) - 1))) (by kernel_rfl) (by kernel_rfl) (by kernel_rfl) ?_ (fun cf => (by kernel_rfl))
          refine WpOps.keep 26 (Value.iface 135 (Value.iface (Int.toNat (IntKind.wrap IntKind.i64 ((↑i : Int) - 1)) * 2) (Value.agg (List.toArray (List.flatMap ec l))))) (by kernel_rfl) (by kernel_rfl) (by kernel_rfl) ?_ (fun cf => o_indexI (e := 135) (size := 2) (a := IntKind.wrap IntKind.i64 ((↑i : Int) - 1)) h1 (by kernel_rfl) (by kernel_rfl) (by kernel_rfl) (by kernel_rfl))
          refine WpOps.keep 27 (Value.iface 135 (Value.iface (Int.toNat (IntKind.wrap IntKind.i64 ((↑i : Int) - 1)) * 2 + 0) (Value.agg (List.toArray (List.flatMap ec l))))) (by kernel_rfl) (by kernel_rfl) (by kernel_rfl) ?_ (fun cf => (by kernel_rfl))
          refine WpOps.keep 28 (Value.iface 3 (Value.iface (List.length (En.p l[i - 1])) (Value.iface (En.x l[i - 1]) (Value.agg (List.toArray (List.map (fun n => Value.int IntKind.i64 n) (En.p l[i - 1]))))))) (by kernel_rfl) (by kernel_rfl) (by kernel_rfl) ?_ (fun cf => o_loadI1 (Int.toNat (IntKind.wrap IntKind.i64 ((↑i : Int) - 1)) * 2 + 0) hw (by kernel_rfl) (by kernel_rfl))
          refine WpOps.keep 29 (Value.iface 135 (Value.iface (List.length l) (Value.iface x (Value.agg (List.toArray (List.flatMap ec l)))))) (by kernel_rfl) (by kernel_rfl) (by kernel_rfl) ?_ (fun cf => (by kernel_rfl))
          refine WpOps.keep 30 (Value.int IntKind.i64 (↑i : Int)) (by kernel_rfl) (by kernel_rfl) (by kernel_rfl) ?_ (fun cf => (by kernel_rfl))
          refine WpOps.keep 31 (Value.iface 135 (Value.iface (Int.toNat (↑i : Int) * 2) (Value.agg (List.toArray (List.flatMap ec l))))) (by kernel_rfl) (by kernel_rfl) (by kernel_rfl) ?_ (fun cf => o_indexI (e := 135) (size := 2) (a := (↑i : Int)) h0 (by kernel_rfl) (by kernel_rfl) (by kernel_rfl) (by kernel_rfl))
          refine WpOps.keep 32 (Value.iface 135 (Value.iface (Int.toNat (↑i : Int) * 2 + 0) (Value.agg (List.toArray (List.flatMap ec l))))) (by kernel_rfl) (by kernel_rfl) (by kernel_rfl) ?_ (fun cf => (by kernel_rfl))
          refine WpOps.keep 33 (Value.iface 3 (Value.iface (List.length (En.p l[i])) (Value.iface (En.x l[i]) (Value.agg (List.toArray (List.map (fun n => Value.int IntKind.i64 n) (En.p l[i]))))))) (by kernel_rfl) (by kernel_rfl) (by kernel_rfl) ?_ (fun cf => o_loadI1 (Int.toNat (↑i : Int) * 2 + 0) hw2 (by kernel_rfl) (by kernel_rfl))
          refine WpOps.framed 34 88 [Value.iface 3 (Value.iface (List.length (En.p l[i - 1])) (Value.iface (En.x l[i - 1]) (Value.agg (List.toArray (List.map (fun n => Value.int IntKind.i64 n) (En.p l[i - 1])))))), Value.iface 3 (Value.iface (List.length (En.p l[i])) (Value.iface (En.x l[i]) (Value.agg (List.toArray (List.map (fun n => Value.int IntKind.i64 n) (En.p l[i]))))))] (by kernel_rfl) (by kernel_rfl) (by kernel_rfl) (by kernel_rfl) (by kernel_rfl) (fun cf => (by kernel_rfl)) ?_
          refine WpFun.of (c2) ?_
          refine WpOps.keep 35 (Value.bool (decide (cmpL (En.p l[i - 1]) (En.p l[i]) ≥ 0))) (by kernel_rfl) (by kernel_rfl) (by kernel_rfl) ?_ (fun cf => (by kernel_rfl))
          refine WpOps.keep 36 (Value.bool (decide (cmpL (En.p l[i - 1]) (En.p l[i]) ≥ 0))) (by kernel_rfl) (by kernel_rfl) (wants_ff g37 (by kernel_rfl)) ?_ (fun cf => (by kernel_rfl))
          refine WpOps.keep 37 (Value.bool (decide (cmpL (En.p l[i - 1]) (En.p l[i]) ≥ 0))) (by kernel_rfl) (by kernel_rfl) (by kernel_rfl) ?_ (fun cf => o_pickF g37 (by kernel_rfl) (by kernel_rfl))
          refine WpOps.nil ?_
          exact ⟨rfl, (.upd rfl (.upd rfl (.upd rfl (.upd rfl (.upd rfl (.upd rfl (.upd rfl (.upd rfl (.upd rfl (.upd rfl (.upd rfl (.upd rfl (.upd rfl (.upd rfl (.upd rfl (.upd rfl (.upd rfl (.upd rfl .refl)))))))))))))))))), (by kernel_rfl)⟩
        refine WpOps.nil ?_
        refine thenK_at ?_
        have hr : b37 = !rowOk l i := by
          rw [hb37]
          unfold rowOk
          rw [ge, g2, decide_eq_true hz]
          cases enOk l[i] <;> cases decide (cmpL (l[i - 1]'(by omega)).p l[i].p ≥ 0) <;> rfl
        refine Wp.split (b37) (by kernel_rfl) (fun hb => ?_) (fun hb => ?_)
        · refine Wp.seq ?_
          refine Wp.text ?_
          refine WpOps.keep 2 (Value.bool false) (by kernel_rfl) (by kernel_rfl) (by kernel_rfl) ?_ (fun cf => (by kernel_rfl))
          refine WpOps.nil ?_
          refine thenK_at ?_
          refine Wp.ret ?_
          refine blockK_ret ?_
          refine thenK_ret ?_
          refine thenK_ret ?_
          refine blockK_ret ?_
          refine thenK_ret ?_
          refine endK_retn [Value.bool false] (Value.bool false) (by kernel_rfl) (by kernel_rfl) ?_
          rw [tbl_no hi2 (by rw [hr, Bool.not_eq_true'] at hb; exact hb)]
          rfl
        · refine Wp.skip ?_
          refine blockK_norm ?_
          refine thenK_at ?_
          refine Wp.text ?_
          refine WpOps.keep 11 (Value.int IntKind.i64 (↑i : Int)) (by kernel_rfl) (by kernel_rfl) (by kernel_rfl) ?_ (fun cf => (by kernel_rfl))
          refine WpOps.keep 12 (Value.int IntKind.i64 (IntKind.wrap IntKind.i64 ((↑i : Int) + 1))) (by kernel_rfl) (by kernel_rfl) (by kernel_rfl) ?_ (fun cf => (by kernel_rfl))
          refine WpOps.keep 3 (Value.int IntKind.i64 (IntKind.wrap IntKind.i64 ((↑i : Int) + 1))) (by kernel_rfl) (by kernel_rfl) (by kernel_rfl) ?_ (fun cf => (by kernel_rfl))
          refine WpOps.nil ?_
          refine thenK_at ?_
          exact ⟨i + 1, by omega, ⟨by omega, fun j hj => by
            rcases Nat.lt_or_ge j i with h | h
            · exact hp j h
            · obtain rfl : j = i := by omega
              rw [hr, Bool.not_eq_false'] at hb
              exact hb⟩, View.of [] [] _ List.nodup_nil rfl trivial ⟨⟨by kernel_rfl, rfl⟩, ⟨congrArg (Value.int .i64) (wrap_i64 ((i : Int) + 1) (by omega) (by omega)), rfl⟩, trivial⟩⟩
      · have z1 : decide ((i : Int) > 0) = false := decide_eq_false (by omega)
        refine Wp.skip ?_
        refine thenK_at ?_
        refine Wp.seq ?_
        refine Wp.block ?_
        refine Wp.seq ?_
        refine Wp.region (by kernel_rfl) ?_
        refine WpOps.keep 13 (Value.iface 135 (Value.iface (List.length l) (Value.iface x (Value.agg (List.toArray (List.flatMap ec l)))))) (by kernel_rfl) (by kernel_rfl) (by kernel_rfl) ?_ (fun cf => (by kernel_rfl))
        refine WpOps.keep 14 (Value.int IntKind.i64 (↑i : Int)) (by kernel_rfl) (by kernel_rfl) (by kernel_rfl) ?_ (fun cf => (by kernel_rfl))
        refine WpOps.keep 15 (Value.iface 135 (Value.iface (Int.toNat (↑i : Int) * 2) (Value.agg (List.toArray (List.flatMap ec l))))) (by kernel_rfl) (by kernel_rfl) (by kernel_rfl) ?_ (fun cf => o_indexI (e := 135) (size := 2) (a := (↑i : Int)) h0 (by kernel_rfl) (by kernel_rfl) (by kernel_rfl) (by kernel_rfl))
        refine WpOps.keep 16 (Value.agg (List.toArray (ec l[i]))) (by kernel_rfl) (by kernel_rfl) (by kernel_rfl) ?_ (fun cf => o_loadIA (Int.toNat (↑i : Int) * 2) hv (by kernel_rfl) (by kernel_rfl))
        refine WpOps.framed 17 87 [Value.agg (List.toArray (ec l[i]))] (by kernel_rfl) (by kernel_rfl) (by kernel_rfl) (by kernel_rfl) (by kernel_rfl) (fun cf => (by kernel_rfl)) ?_
        refine WpFun.of (c1) ?_
        refine WpOps.keep 18 (Value.bool !enOk l[i]) (by kernel_rfl) (by kernel_rfl) (by kernel_rfl) ?_ (fun cf => (by kernel_rfl))
        refine WpOps.keep 19 (Value.bool !enOk l[i]) (by kernel_rfl) (by kernel_rfl) (by kernel_rfl) ?_ (fun cf => (by kernel_rfl))
        refine WpOps.fork 18 (!enOk l[i]) [20, 21, 22, 23, 24, 25, 26, 27, 28, 29, 30, 31, 32, 33, 34, 35, 36, 37] 37 (true) (false) (by kernel_rfl) (fun g37 => ?_) (fun g37 => ?_) (fun f_37 b37 hb37 => ?_)
        · refine WpOps.unmet 20 (by kernel_rfl) (by kernel_rfl) (wants_tf g37 (by kernel_rfl)) ?_
          refine WpOps.unmet 21 (by kernel_rfl) (by kernel_rfl) (wants_tf g37 (by kernel_rfl)) ?_
          refine WpOps.unmet 22 (by kernel_rfl) (by kernel_rfl) (wants_tf g37 (by kernel_rfl)) ?_
          refine WpOps.unmet 23 (by kernel_rfl) (by kernel_rfl) (by kernel_rfl) ?_
          refine WpOps.unmet 24 (by kernel_rfl) (by kernel_rfl) (by kernel_rfl) ?_
          refine WpOps.unmet 25 (by kernel_rfl) (by kernel_rfl) (by kernel_rfl) ?_
          refine WpOps.unmet 26 (by kernel_rfl) (by kernel_rfl) (by kernel_rfl) ?_
          refine WpOps.unmet 27 (by kernel_rfl) (by kernel_rfl) (by kernel_rfl) ?_
          refine WpOps.unmet 28 (by kernel_rfl) (by kernel_rfl) (by kernel_rfl) ?_
          refine WpOps.unmet 29 (by kernel_rfl) (by kernel_rfl) (by kernel_rfl) ?_
          refine WpOps.unmet 30 (by kernel_rfl) (by kernel_rfl) (by kernel_rfl) ?_
          refine WpOps.unmet 31 (by kernel_rfl) (by kernel_rfl) (by kernel_rfl) ?_
          refine WpOps.unmet 32 (by kernel_rfl) (by kernel_rfl) (by kernel_rfl) ?_
          refine WpOps.unmet 33 (by kernel_rfl) (by kernel_rfl) (by kernel_rfl) ?_
          refine WpOps.unmet 34 (by kernel_rfl) (by kernel_rfl) (by kernel_rfl) ?_
          refine WpOps.unmet 35 (by kernel_rfl) (by kernel_rfl) (by kernel_rfl) ?_
          refine WpOps.unmet 36 (by kernel_rfl) (by kernel_rfl) (wants_tf g37 (by kernel_rfl)) ?_
          refine WpOps.keep 37 (Value.bool true) (by kernel_rfl) (by kernel_rfl) (by kernel_rfl) ?_ (fun cf => o_pickT g37 (by kernel_rfl) (by kernel_rfl))
          refine WpOps.nil ?_
          exact ⟨rfl, (.upd rfl (.upd rfl (.upd rfl (.upd rfl (.upd rfl (.upd rfl (.upd rfl (.upd rfl (.upd rfl (.upd rfl (.upd rfl (.upd rfl (.upd rfl (.upd rfl (.upd rfl (.upd rfl (.upd rfl (.upd rfl .refl)))))))))))))))))), (by kernel_rfl)⟩
        · refine WpOps.keep 20 (Value.int IntKind.i64 (↑i : Int)) (by kernel_rfl) (by kernel_rfl) (wants_ff g37 (by kernel_rfl)) ?_ (fun cf => (by kernel_rfl))
          refine WpOps.keep 21 (Value.bool false) (by kernel_rfl) (by kernel_rfl) (wants_ff g37 (by kernel_rfl)) ?_ (fun cf => by_fact z1 ((by kernel_rfl)))
          refine WpOps.keep 22 (Value.bool false) (by kernel_rfl) (by kernel_rfl) (wants_ff g37 (by kernel_rfl)) ?_ (fun cf => (by kernel_rfl))
          refine WpOps.unmet 23 (by kernel_rfl) (by kernel_rfl) (by kernel_rfl) ?_
          refine WpOps.unmet 24 (by kernel_rfl) (by kernel_rfl) (by kernel_rfl) ?_
          refine WpOps.unmet 25 (by kernel_rfl) (by kernel_rfl) (by kernel_rfl) ?_
          refine WpOps.unmet 26 (by kernel_rfl) (by kernel_rfl) (by kernel_rfl) ?_
          refine WpOps.unmet 27 (by kernel_rfl) (by kernel_rfl) (by kernel_rfl) ?_
          refine WpOps.unmet 28 (by kernel_rfl) (by kernel_rfl) (by kernel_rfl) ?_
          refine WpOps.unmet 29 (by kernel_rfl) (by kernel_rfl) (by kernel_rfl) ?_
          refine WpOps.unmet 30 (by kernel_rfl) (by kernel_rfl) (by kernel_rfl) ?_
          refine WpOps.unmet 31 (by kernel_rfl) (by kernel_rfl) (by kernel_rfl) ?_
          refine WpOps.unmet 32 (by kernel_rfl) (by kernel_rfl) (by kernel_rfl) ?_
          refine WpOps.unmet 33 (by kernel_rfl) (by kernel_rfl) (by kernel_rfl) ?_
          refine WpOps.unmet 34 (by kernel_rfl) (by kernel_rfl) (by kernel_rfl) ?_
          refine WpOps.unmet 35 (by kernel_rfl) (by kernel_rfl) (by kernel_rfl) ?_
          refine WpOps.keep 36 (Value.bool false) (by kernel_rfl) (by kernel_rfl) (wants_ff g37 (by kernel_rfl)) ?_ (fun cf => (by kernel_rfl))
          refine WpOps.keep 37 (Value.bool false) (by kernel_rfl) (by kernel_rfl) (by kernel_rfl) ?_ (fun cf => o_pickF g37 (by kernel_rfl) (by kernel_rfl))
          refine WpOps.nil ?_
          exact ⟨rfl, (.upd rfl (.upd rfl (.upd rfl (.upd rfl (.upd rfl (.upd rfl (.upd rfl (.upd rfl (.upd rfl (.upd rfl (.upd rfl (.upd rfl (.upd rfl (.upd rfl (.upd rfl (.upd rfl (.upd rfl (.upd rfl .refl)))))))))))))))))), (by kernel_rfl)⟩
        refine WpOps.nil ?_
        refine thenK_at ?_
        have hr : b37 = !rowOk l i := by
          rw [hb37]
          unfold rowOk
          rw [ge, decide_eq_false hz]
          cases enOk l[i] <;> rfl
        refine Wp.split (b37) (by kernel_rfl) (fun hb => ?_) (fun hb => ?_)
        · refine Wp.seq ?_
          refine Wp.text ?_
          refine WpOps.keep 2 (Value.bool false) (by kernel_rfl) (by kernel_rfl) (by kernel_rfl) ?_ (fun cf => (by kernel_rfl))
          refine WpOps.nil ?_
          refine thenK_at ?_
          refine Wp.ret ?_
          refine blockK_ret ?_
          refine thenK_ret ?_
          refine thenK_ret ?_
          refine blockK_ret ?_
          refine thenK_ret ?_
          refine endK_retn [Value.bool false] (Value.bool false) (by kernel_rfl) (by kernel_rfl) ?_
          rw [tbl_no hi2 (by rw [hr, Bool.not_eq_true'] at hb; exact hb)]
          rfl
        · refine Wp.skip ?_
          refine blockK_norm ?_
          refine thenK_at ?_
          refine Wp.text ?_
          refine WpOps.keep 11 (Value.int IntKind.i64 (↑i : Int)) (by kernel_rfl) (by kernel_rfl) (by kernel_rfl) ?_ (fun cf => (by kernel_rfl))
          refine WpOps.keep 12 (Value.int IntKind.i64 (IntKind.wrap IntKind.i64 ((↑i : Int) + 1))) (by kernel_rfl) (by kernel_rfl) (by kernel_rfl) ?_ (fun cf => (by kernel_rfl))
          refine WpOps.keep 3 (Value.int IntKind.i64 (IntKind.wrap IntKind.i64 ((↑i : Int) + 1))) (by kernel_rfl) (by kernel_rfl) (by kernel_rfl) ?_ (fun cf => (by kernel_rfl))
          refine WpOps.nil ?_
          refine thenK_at ?_
          exact ⟨i + 1, by omega, ⟨by omega, fun j hj => by
            rcases Nat.lt_or_ge j i with h | h
            · exact hp j h
            · obtain rfl : j = i := by omega
              rw [hr, Bool.not_eq_false'] at hb
              exact hb⟩, View.of [] [] _ List.nodup_nil rfl trivial ⟨⟨by kernel_rfl, rfl⟩, ⟨congrArg (Value.int .i64) (wrap_i64 ((i : Int) + 1) (by omega) (by omega)), rfl⟩, trivial⟩⟩
    · have : tblOk l = true := by
        unfold tblOk
        rw [decide_eq_true hlen, Bool.true_and, List.all_eq_true]
        intro j hj
        exact hp j (by have := of_decide_eq_false hc; have : j < l.length := by simpa using hj
                       omega)
      refine Wp.exit ?_
      refine thenK_exit ?_
      refine thenK_exit ?_
      refine blockK_hit ?_
      refine thenK_at ?_
      refine Wp.seq ?_
      refine Wp.text ?_
      refine WpOps.keep 2 (Value.bool true) (by kernel_rfl) (by kernel_rfl) (by kernel_rfl) ?_ (fun cf => (by kernel_rfl))
      refine WpOps.nil ?_
      refine thenK_at ?_
      refine Wp.ret ?_
      refine endK_retn [Value.bool true] (Value.bool true) (by kernel_rfl) (by kernel_rfl) ?_
      rw [this]
      rfl
end Go.Proofs.Ytpkkcpglbjbgfaa.D
