/- The law DatagramForwards: tables of the document. -/
import Derived.Test.YtpkkcpglbjbgfaaFwLem
import Derived.Test.YtpkkcpglbjbgfaaF14i
import Derived.Test.YtpkkcpglbjbgfaaG14j
import Derived.Test.YtpkkcpglbjbgfaaFwCons
namespace Go.Proofs.Ytpkkcpglbjbgfaa.D
open Go.Fw Go.RowKit

def e0 (e : En) : En := { e with x := 0 }
theorem ec_succ (l : List En) (k : Nat) (hk : k < l.length) : ((l.take (k + 1)).map e0).flatMap ec = ((l.take k).map e0).flatMap ec ++ ec (e0 (l[k]'hk)) := by
  rw [List.take_add_one, List.getElem?_eq_getElem hk, List.map_append, List.flatMap_append]
  rfl
theorem ec_all (l : List En) (k : Nat) (hk : k ≤ l.length) : cellsAt (((l.take k).map e0).flatMap ec) 0 (k * 2) = some (((l.take k).map e0).flatMap ec) := by
  have h := flat_len ec 2 (fun _ => rfl) ((l.take k).map e0)
  rw [List.length_map, List.length_take, Nat.min_eq_left hk] at h
  simp only [cellsAt, Nat.zero_add, h, Nat.le_refl, if_true, List.drop_zero]
  rw [List.take_of_length_le (by omega)]
theorem types135 : (E.types 135).map TI.size = some 2 := by kernel_rfl
theorem E135 : ∃ ti, E.types 135 = some ti := by
  obtain ⟨ti, h, _⟩ := Option.map_eq_some_iff.1 types135
  exact ⟨ti, h⟩
theorem f38 : E.funcs 38 = some Try.f38 := by kernel_rfl
theorem table38_nil (x : Nat) : Fun E 38 [ents 98 x []] (ents 135 2 []) := by
  refine Fun.ofN f38 rfl (of_decide_eq_true (by kernel_rfl)) rfl ?_
  obtain ⟨ti, ht⟩ := E135
  refine Wp.seq ?_
  refine Wp.text ?_
  refine WpOps.keep 2 (Value.slice none 0 0) (by kernel_rfl) (by kernel_rfl) (by kernel_rfl) ?_ (fun cf => (by kernel_rfl))
  refine WpOps.nil ?_
  refine thenK_at ?_
  refine Wp.seq ?_
  refine Wp.text ?_
  refine WpOps.keep 3 (Value.slice none 0 0) (by kernel_rfl) (by kernel_rfl) (by kernel_rfl) ?_ (fun cf => (by kernel_rfl))
  refine WpOps.nil ?_
  refine thenK_at ?_
  refine Wp.seq ?_
  refine Wp.seq ?_
  refine Wp.text ?_
  refine WpOps.keep 4 (Value.int IntKind.i64 0) (by kernel_rfl) (by kernel_rfl) (by kernel_rfl) ?_ (fun cf => (by kernel_rfl))
  refine WpOps.nil ?_
  refine thenK_at ?_
  refine Wp.block ?_
  refine Wp.unroll (WpL.step ?_)
  refine Wp.seq ?_
  refine Wp.seq ?_
  refine Wp.text ?_
  refine WpOps.keep 5 (Value.int IntKind.i64 0) (by kernel_rfl) (by kernel_rfl) (by kernel_rfl) ?_ (fun cf => (by kernel_rfl))
  refine WpOps.keep 6 (Value.iface 98 (Value.iface 0 (Value.iface x (Value.agg #[])))) (by kernel_rfl) (by kernel_rfl) (by kernel_rfl) ?_ (fun cf => (by kernel_rfl))
  refine WpOps.keep 7 (Value.int IntKind.i64 (↑0 : Int)) (by kernel_rfl) (by kernel_rfl) (by kernel_rfl) ?_ (fun cf => (by kernel_rfl))
  refine WpOps.keep 8 (Value.bool false) (by kernel_rfl) (by kernel_rfl) (by kernel_rfl) ?_ (fun cf => (by kernel_rfl))
  refine WpOps.nil ?_
  refine thenK_at ?_
  refine Wp.off (by kernel_rfl) ?_
  refine Wp.exit ?_
  refine thenK_exit ?_
  refine thenK_exit ?_
  refine blockK_hit ?_
  refine thenK_at ?_
  refine Wp.seq ?_
  refine Wp.text ?_
  refine WpOps.keep 26 (Value.slice none 0 0) (by kernel_rfl) (by kernel_rfl) (by kernel_rfl) ?_ (fun cf => (by kernel_rfl))
  refine WpOps.keep 2 (Value.slice none 0 0) (by kernel_rfl) (by kernel_rfl) (by kernel_rfl) ?_ (fun cf => (by kernel_rfl))
  refine WpOps.nil ?_
  refine thenK_at ?_
  refine Wp.ret ?_
  refine endK_retn [Value.slice none 0 0] (Value.slice none 0 0) (by kernel_rfl) (by kernel_rfl) ?_
  exact ⟨_, rfl, .w (.c (.inr ⟨rfl, 135, ti, ht, rfl⟩))⟩
theorem table38 (x : Nat) (l : List En) (h1 : 0 < l.length) (h2 : l.length * 32 ≤ 140737488351232) (ok : ∀ e ∈ l, OkEn e) : Fun E 38 [ents 98 x l] (ents 135 0 (l.map e0)) := by
  refine Fun.of f38 rfl (of_decide_eq_true (by kernel_rfl)) (by kernel_rfl) ?_
  refine Wp.seq ?_
  refine Wp.text ?_
  refine WpOps.keep 2 (Value.slice none 0 0) (by kernel_rfl) (by kernel_rfl) (by kernel_rfl) ?_ (fun cf => (by kernel_rfl))
  refine WpOps.nil ?_
  refine thenK_at ?_
  refine Wp.seq ?_
  refine Wp.text ?_
  refine WpOps.keep 3 (Value.slice none 0 0) (by kernel_rfl) (by kernel_rfl) (by kernel_rfl) ?_ (fun cf => (by kernel_rfl))
  refine WpOps.nil ?_
  refine thenK_at ?_
  refine Wp.seq ?_
  refine Wp.seq ?_
  refine Wp.text ?_
  refine WpOps.keep 4 (Value.int IntKind.i64 0) (by kernel_rfl) (by kernel_rfl) (by kernel_rfl) ?_ (fun cf => (by kernel_rfl))
  refine WpOps.nil ?_
  refine thenK_at ?_
  refine Wp.block ?_
  refine Wp.view (View.of [] [] [(0, ents 98 x l), (3, .slice none 0 0), (4, .int .i64 ((0 : Nat) : Int))] (by decide) rfl trivial
    ⟨⟨by kernel_rfl, rfl⟩, ⟨by kernel_rfl, rfl⟩, ⟨by kernel_rfl, rfl⟩, trivial⟩) ?_
  refine Wp.unroll (WpL.step ?_)
  have hc0 : decide (((0 : Nat) : Int) < (l.length : Int)) = true := decide_eq_true (by omega)
  have b0 : 0 ≤ ((0 : Nat) : Int) ∧ ((0 : Nat) : Int) < l.length := ⟨by omega, by omega⟩
  have v0 : (List.flatMap ec l)[(((0 : Nat) : Int)).toNat * 2 + 0]? = some (sl (l[0]).x (l[0]).p) := by
    rw [Int.toNat_natCast, flat_get ec 2 (fun _ => rfl) l 0 0 h1 (by omega)]
    rfl
  have v1 : (List.flatMap ec l)[(((0 : Nat) : Int)).toNat * 2 + 1]? = some (.int .i64 (l[0]).to) := by
    rw [Int.toNat_natCast, flat_get ec 2 (fun _ => rfl) l 0 1 h1 (by omega)]
    rfl
  have t0 := copy31 (l[0]).x (l[0]).p (ok _ (List.getElem_mem h1)).l
  refine Wp.seq ?_
  refine Wp.seq ?_
  refine Wp.text ?_
  refine WpOps.keep 5 (Value.int IntKind.i64 (↑0 : Int)) (by kernel_rfl) (by kernel_rfl) (by kernel_rfl) ?_ (fun cf => (by kernel_rfl))
  refine WpOps.keep 6 (Value.iface 98 (Value.iface (List.length l) (Value.iface x (Value.agg (List.toArray (List.flatMap ec l)))))) (by kernel_rfl) (by kernel_rfl) (by kernel_rfl) ?_ (fun cf => (by kernel_rfl))
  refine WpOps.keep 7 (Value.int IntKind.i64 (↑(List.length l) : Int)) (by kernel_rfl) (by kernel_rfl) (by kernel_rfl) ?_ (fun cf => (by kernel_rfl))
  refine WpOps.keep 8 (Value.bool true) (by kernel_rfl) (by kernel_rfl) (by kernel_rfl) ?_ (fun cf => by_fact hc0 ((by kernel_rfl)))
  refine WpOps.nil ?_
  refine thenK_at ?_
  refine Wp.on (by kernel_rfl) ?_
  refine Wp.skip ?_
  refine thenK_at ?_
  refine Wp.seq ?_
  refine Wp.block ?_
  refine Wp.region (by kernel_rfl) ?_
  refine WpOps.keep 11 (Value.slice none 0 0) (by kernel_rfl) (by kernel_rfl) (by kernel_rfl) ?_ (fun cf => (by kernel_rfl))
  refine WpOps.keep 12 (Value.iface 98 (Value.iface (List.length l) (Value.iface x (Value.agg (List.toArray (List.flatMap ec l)))))) (by kernel_rfl) (by kernel_rfl) (by kernel_rfl) ?_ (fun cf => (by kernel_rfl))
  refine WpOps.keep 13 (Value.int IntKind.i64 (↑0 : Int)) (by kernel_rfl) (by kernel_rfl) (by kernel_rfl) ?_ (fun cf => (by kernel_rfl))
  refine WpOps.keep 14 (Value.iface 98 (Value.iface 0 (Value.agg (List.toArray (List.flatMap ec l))))) (by kernel_rfl) (by kernel_rfl) (by kernel_rfl) ?_ (fun cf => o_indexI (e := 98) (size := 2) (a := (↑0 : Int)) b0 (by kernel_rfl) (by kernel_rfl) (by kernel_rfl) (by kernel_rfl))
  refine WpOps.keep 15 (Value.iface 98 (Value.iface 0 (Value.agg (List.toArray (List.flatMap ec l))))) (by kernel_rfl) (by kernel_rfl) (by kernel_rfl) ?_ (fun cf => (by kernel_rfl))
  refine WpOps.keep 16 (Value.iface 3 (Value.iface (List.length (En.p l[0])) (Value.iface (En.x l[0]) (Value.agg (List.toArray (List.map (fun n => Value.int IntKind.i64 n) (En.p l[0]))))))) (by kernel_rfl) (by kernel_rfl) (by kernel_rfl) ?_ (fun cf => o_loadI1 (0) v0 (by kernel_rfl) (by kernel_rfl))
  refine WpOps.framed 17 31 [Value.iface 3 (Value.iface (List.length (En.p l[0])) (Value.iface (En.x l[0]) (Value.agg (List.toArray (List.map (fun n => Value.int IntKind.i64 n) (En.p l[0]))))))] (by kernel_rfl) (by kernel_rfl) (by kernel_rfl) (by kernel_rfl) (by kernel_rfl) (fun cf => (by kernel_rfl)) ?_
  refine WpFun.of (t0) ?_
  refine WpOps.keep 18 (Value.iface 98 (Value.iface (List.length l) (Value.iface x (Value.agg (List.toArray (List.flatMap ec l)))))) (by kernel_rfl) (by kernel_rfl) (by kernel_rfl) ?_ (fun cf => (by kernel_rfl))
  refine WpOps.keep 19 (Value.int IntKind.i64 (↑0 : Int)) (by kernel_rfl) (by kernel_rfl) (by kernel_rfl) ?_ (fun cf => (by kernel_rfl))
  refine WpOps.keep 20 (Value.iface 98 (Value.iface 0 (Value.agg (List.toArray (List.flatMap ec l))))) (by kernel_rfl) (by kernel_rfl) (by kernel_rfl) ?_ (fun cf => o_indexI (e := 98) (size := 2) (a := (↑0 : Int)) b0 (by kernel_rfl) (by kernel_rfl) (by kernel_rfl) (by kernel_rfl))
  refine WpOps.keep 21 (Value.iface 98 (Value.iface 1 (Value.agg (List.toArray (List.flatMap ec l))))) (by kernel_rfl) (by kernel_rfl) (by kernel_rfl) ?_ (fun cf => (by kernel_rfl))
  refine WpOps.keep 22 (Value.int IntKind.i64 (En.to l[0])) (by kernel_rfl) (by kernel_rfl) (by kernel_rfl) ?_ (fun cf => o_loadI1 (1) v1 (by kernel_rfl) (by kernel_rfl))
  refine WpOps.keep 23 (Value.agg #[Value.iface 3 (Value.iface (List.length (En.p l[0])) (Value.iface 0 (Value.agg (List.toArray (List.map (fun n => Value.int IntKind.i64 n) (En.p l[0])))))), Value.int IntKind.i64 (En.to l[0])]) (by kernel_rfl) (by kernel_rfl) (by kernel_rfl) ?_ (fun cf => (by kernel_rfl))
  refine WpOps.made 24 (Value.slice (some (Addr.mk 0 0 none)) 1 1) (Blk.mk 135 true [Value.iface 3 (Value.iface (List.length (En.p l[0])) (Value.iface 0 (Value.agg (List.toArray (List.map (fun n => Value.int IntKind.i64 n) (En.p l[0])))))), Value.int IntKind.i64 (En.to l[0])]) (by kernel_rfl) (by kernel_rfl) (by kernel_rfl) ?_ (fun cf => (by kernel_rfl))
  refine WpOps.made 25 (Value.slice (some (Addr.mk 1 0 none)) 1 1) (Blk.mk 135 true [Value.iface 3 (Value.iface (List.length (En.p l[0])) (Value.iface 0 (Value.agg (List.toArray (List.map (fun n => Value.int IntKind.i64 n) (En.p l[0])))))), Value.int IntKind.i64 (En.to l[0])]) (by kernel_rfl) (by kernel_rfl) (by kernel_rfl) ?_ (fun cf => (by kernel_rfl))
  refine WpOps.keep 3 (Value.slice (some (Addr.mk 1 0 none)) 1 1) (by kernel_rfl) (by kernel_rfl) (by kernel_rfl) ?_ (fun cf => (by kernel_rfl))
  refine WpOps.nil ?_
  refine blockK_norm ?_
  refine thenK_at ?_
  refine Wp.text ?_
  refine WpOps.keep 9 (Value.int IntKind.i64 (↑0 : Int)) (by kernel_rfl) (by kernel_rfl) (by kernel_rfl) ?_ (fun cf => (by kernel_rfl))
  refine WpOps.keep 10 (Value.int IntKind.i64 (IntKind.wrap IntKind.i64 ((↑0 : Int) + 1))) (by kernel_rfl) (by kernel_rfl) (by kernel_rfl) ?_ (fun cf => (by kernel_rfl))
  refine WpOps.keep 4 (Value.int IntKind.i64 (IntKind.wrap IntKind.i64 ((↑0 : Int) + 1))) (by kernel_rfl) (by kernel_rfl) (by kernel_rfl) ?_ (fun cf => (by kernel_rfl))
  refine WpOps.nil ?_
  refine thenK_at ?_
  refine WpL.loop (G := Nat) (fun k => layj [(0, ents 98 x l), (3, .slice (some ⟨0, 0, none⟩) k k), (4, .int .i64 (k : Int))]) (fun k => heapOf [⟨135, true, ((l.take k).map e0).flatMap ec⟩]) (fun k => l.length - k) (fun k => 1 ≤ k ∧ k ≤ l.length) 1
    (View.of [1] [⟨135, true, ((l.take 1).map e0).flatMap ec⟩] _ (by decide) rfl ⟨⟨ec (e0 l[0]), by kernel_rfl, CellsOk.eq (by rw [ec_succ l 0 h1]; rfl) (ec_flat _)⟩, trivial⟩
      ⟨⟨by kernel_rfl, rfl⟩, ⟨by kernel_rfl, rfl⟩, ⟨by kernel_rfl, rfl⟩, trivial⟩) ⟨Nat.le_refl _, h1⟩ ?_
  rintro k ⟨hk1, hk2⟩
  refine Wp.seq ?_
  refine Wp.seq ?_
  refine Wp.text ?_
  refine WpOps.keep 5 (Value.int IntKind.i64 (↑k : Int)) (by kernel_rfl) (by kernel_rfl) (by kernel_rfl) ?_ (fun cf => (by kernel_rfl))
  refine WpOps.keep 6 (Value.iface 98 (Value.iface (List.length l) (Value.iface x (Value.agg (List.toArray (List.flatMap ec l)))))) (by kernel_rfl) (by kernel_rfl) (by kernel_rfl) ?_ (fun cf => (by kernel_rfl))
  refine WpOps.keep 7 (Value.int IntKind.i64 (↑(List.length l) : Int)) (by kernel_rfl) (by kernel_rfl) (by kernel_rfl) ?_ (fun cf => (by kernel_rfl))
  refine WpOps.keep 8 (Value.bool (decide ((↑k : Int) < (↑(List.length l) : Int)))) (by kernel_rfl) (by kernel_rfl) (by kernel_rfl) ?_ (fun cf => (by kernel_rfl))
  refine WpOps.nil ?_
  refine thenK_at ?_
  refine Wp.split (decide ((↑k : Int) < (↑(List.length l) : Int))) (by kernel_rfl) (fun hc => ?_) (fun hc => ?_)
  · have hlt : (k : Int) < l.length := of_decide_eq_true hc
    have hk0 : k < l.length := by omega
    have b1 : 0 ≤ (k : Int) ∧ (k : Int) < l.length := ⟨Int.natCast_nonneg _, hlt⟩
    have v2 : (List.flatMap ec l)[((k : Int)).toNat * 2 + 0]? = some (sl (l[k]).x (l[k]).p) := by
      rw [Int.toNat_natCast, flat_get ec 2 (fun _ => rfl) l k 0 hk0 (by omega)]
      rfl
    have v3 : (List.flatMap ec l)[((k : Int)).toNat * 2 + 1]? = some (.int .i64 (l[k]).to) := by
      rw [Int.toNat_natCast, flat_get ec 2 (fun _ => rfl) l k 1 hk0 (by omega)]
      rfl
    have t1 := copy31 (l[k]).x (l[k]).p (ok _ (List.getElem_mem hk0)).l
    have a1 : ¬ (k + 1 ≤ k) := by omega
    have a2 : 1 ≤ 32 ∧ (k + 1) * 32 ≤ 140737488355328 ∧ 2 = 2 ∧ k + 1 ≤ 9223372036854775807 := by omega
    have a3 := ec_all l k hk2
    refine Wp.skip ?_
    refine thenK_at ?_
    refine Wp.seq ?_
    refine Wp.block ?_
    refine Wp.region (by kernel_rfl) ?_
    refine WpOps.keep 11 (Value.slice (some (Addr.mk 0 0 none)) k k) (by kernel_rfl) (by kernel_rfl) (by kernel_rfl) ?_ (fun cf => (by kernel_rfl))
    refine WpOps.keep 12 (Value.iface 98 (Value.iface (List.length l) (Value.iface x (Value.agg (List.toArray (List.flatMap ec l)))))) (by kernel_rfl) (by kernel_rfl) (by kernel_rfl) ?_ (fun cf => (by kernel_rfl))
    refine WpOps.keep 13 (Value.int IntKind.i64 (↑k : Int)) (by kernel_rfl) (by kernel_rfl) (by kernel_rfl) ?_ (fun cf => (by kernel_rfl))
    refine WpOps.keep 14 (Value.iface 98 (Value.iface (Int.toNat (↑k : Int) * 2) (Value.agg (List.toArray (List.flatMap ec l))))) (by kernel_rfl) (by kernel_rfl) (by kernel_rfl) ?_ (fun cf => o_indexI (e := 98) (size := 2) (a := (↑k : Int)) b1 (by kernel_rfl) (by kernel_rfl) (by kernel_rfl) (by kernel_rfl))
    refine WpOps.keep 15 (Value.iface 98 (Value.iface (Int.toNat (↑k : Int) * 2 + 0) (Value.agg (List.toArray (List.flatMap ec l))))) (by kernel_rfl) (by kernel_rfl) (by kernel_rfl) ?_ (fun cf => (by kernel_rfl))
    refine WpOps.keep 16 (Value.iface 3 (Value.iface (List.length (En.p l[k])) (Value.iface (En.x l[k]) (Value.agg (List.toArray (List.map (fun n => Value.int IntKind.i64 n) (En.p l[k]))))))) (by kernel_rfl) (by kernel_rfl) (by kernel_rfl) ?_ (fun cf => o_loadI1 (Int.toNat (↑k : Int) * 2 + 0) v2 (by kernel_rfl) (by kernel_rfl))
    refine WpOps.framed 17 31 [Value.iface 3 (Value.iface (List.length (En.p l[k])) (Value.iface (En.x l[k]) (Value.agg (List.toArray (List.map (fun n => Value.int IntKind.i64 n) (En.p l[k]))))))] (by kernel_rfl) (by kernel_rfl) (by kernel_rfl) (by kernel_rfl) (by kernel_rfl) (fun cf => (by kernel_rfl)) ?_
    refine WpFun.of (t1) ?_
    refine WpOps.keep 18 (Value.iface 98 (Value.iface (List.length l) (Value.iface x (Value.agg (List.toArray (List.flatMap ec l)))))) (by kernel_rfl) (by kernel_rfl) (by kernel_rfl) ?_ (fun cf => (by kernel_rfl))
    refine WpOps.keep 19 (Value.int IntKind.i64 (↑k : Int)) (by kernel_rfl) (by kernel_rfl) (by kernel_rfl) ?_ (fun cf => (by kernel_rfl))
    refine WpOps.keep 20 (Value.iface 98 (Value.iface (Int.toNat (↑k : Int) * 2) (Value.agg (List.toArray (List.flatMap ec l))))) (by kernel_rfl) (by kernel_rfl) (by kernel_rfl) ?_ (fun cf => o_indexI (e := 98) (size := 2) (a := (↑k : Int)) b1 (by kernel_rfl) (by kernel_rfl) (by kernel_rfl) (by kernel_rfl))
    refine WpOps.keep 21 (Value.iface 98 (Value.iface (Int.toNat (↑k : Int) * 2 + 1) (Value.agg (List.toArray (List.flatMap ec l))))) (by kernel_rfl) (by kernel_rfl) (by kernel_rfl) ?_ (fun cf => (by kernel_rfl))
    refine WpOps.keep 22 (Value.int IntKind.i64 (En.to l[k])) (by kernel_rfl) (by kernel_rfl) (by kernel_rfl) ?_ (fun cf => o_loadI1 (Int.toNat (↑k : Int) * 2 + 1) v3 (by kernel_rfl) (by kernel_rfl))
    refine WpOps.keep 23 (Value.agg #[Value.iface 3 (Value.iface (List.length (En.p l[k])) (Value.iface 0 (Value.agg (List.toArray (List.map (fun n => Value.int IntKind.i64 n) (En.p l[k])))))), Value.int IntKind.i64 (En.to l[k])]) (by kernel_rfl) (by kernel_rfl) (by kernel_rfl) ?_ (fun cf => (by kernel_rfl))
    refine WpOps.made 24 (Value.slice (some (Addr.mk 1 0 none)) 1 1) (Blk.mk 135 true [Value.iface 3 (Value.iface (List.length (En.p l[k])) (Value.iface 0 (Value.agg (List.toArray (List.map (fun n => Value.int IntKind.i64 n) (En.p l[k])))))), Value.int IntKind.i64 (En.to l[k])]) (by kernel_rfl) (by kernel_rfl) (by kernel_rfl) ?_ (fun cf => (by kernel_rfl))
    refine WpOps.chg 25 (Value.slice (some (Addr.mk 2 0 none)) (k + 1) (k + 1)) (Heap.alloc (Heap.set (Heap.alloc (heapOf [Blk.mk 135 true (List.flatMap ec (List.map e0 (List.take k l)))]) (Blk.mk 135 true [Value.iface 3 (Value.iface (List.length (En.p l[k])) (Value.iface 0 (Value.agg (List.toArray (List.map (fun n => Value.int IntKind.i64 n) (En.p l[k])))))), Value.int IntKind.i64 (En.to l[k])])) 0 none) (Blk.mk 135 true (List.flatMap ec (List.map e0 (List.take k l)) ++ [Value.iface 3 (Value.iface (List.length (En.p l[k])) (Value.iface 0 (Value.agg (List.toArray (List.map (fun n => Value.int IntKind.i64 n) (En.p l[k])))))), Value.int IntKind.i64 (En.to l[k])]))) (by kernel_rfl) (by kernel_rfl) (by kernel_rfl) ?_ (fun cf => o_append (e := 135) 0 (0) (k) _ (k) a1 a2 a3 (by kernel_rfl) (by kernel_rfl) (by kernel_rfl) (by kernel_rfl))
    refine WpOps.keep 3 (Value.slice (some (Addr.mk 2 0 none)) (k + 1) (k + 1)) (by kernel_rfl) (by kernel_rfl) (by kernel_rfl) ?_ (fun cf => (by kernel_rfl))
    refine WpOps.nil ?_
    refine blockK_norm ?_
    refine thenK_at ?_
    refine Wp.text ?_
    refine WpOps.keep 9 (Value.int IntKind.i64 (↑k : Int)) (by kernel_rfl) (by kernel_rfl) (by kernel_rfl) ?_ (fun cf => (by kernel_rfl))
    refine WpOps.keep 10 (Value.int IntKind.i64 (IntKind.wrap IntKind.i64 ((↑k : Int) + 1))) (by kernel_rfl) (by kernel_rfl) (by kernel_rfl) ?_ (fun cf => (by kernel_rfl))
    refine WpOps.keep 4 (Value.int IntKind.i64 (IntKind.wrap IntKind.i64 ((↑k : Int) + 1))) (by kernel_rfl) (by kernel_rfl) (by kernel_rfl) ?_ (fun cf => (by kernel_rfl))
    refine WpOps.nil ?_
    refine thenK_at ?_
    exact ⟨k + 1, by omega, ⟨by omega, hk0⟩, View.of [2] [⟨135, true, ((l.take (k + 1)).map e0).flatMap ec⟩] _ (by decide) rfl ⟨⟨((l.take k).map e0).flatMap ec ++ ec (e0 l[k]), by kernel_rfl, CellsOk.eq (ec_succ l k hk0).symm (ec_flat _)⟩, trivial⟩
      ⟨⟨by kernel_rfl, rfl⟩, ⟨by kernel_rfl, rfl⟩, ⟨congrArg (Value.int .i64) (wrap_i64 ((k : Int) + 1) (by omega) (by omega)), rfl⟩, trivial⟩⟩
  · refine Wp.exit ?_
    refine thenK_exit ?_
    refine thenK_exit ?_
    refine blockK_hit ?_
    refine thenK_at ?_
    refine Wp.seq ?_
    refine Wp.text ?_
    refine WpOps.keep 26 (Value.slice (some (Addr.mk 0 0 none)) k k) (by kernel_rfl) (by kernel_rfl) (by kernel_rfl) ?_ (fun cf => (by kernel_rfl))
    refine WpOps.keep 2 (Value.slice (some (Addr.mk 0 0 none)) k k) (by kernel_rfl) (by kernel_rfl) (by kernel_rfl) ?_ (fun cf => (by kernel_rfl))
    refine WpOps.nil ?_
    refine thenK_at ?_
    refine Wp.ret ?_
    refine endK_retn [Value.slice (some (Addr.mk 0 0 none)) k k] (Value.slice (some (Addr.mk 0 0 none)) k k) (by kernel_rfl) (by kernel_rfl) ?_
    have hk0 : k = l.length := by have := of_decide_eq_false hc; omega
    have hr := iceC_row (E := E) (hp := heapOf [⟨135, true, ((l.take k).map e0).flatMap ec⟩]) (b := 0) (n := k) (c := k) 3 types135 rfl (by rw [flat_len ec 2 (fun _ => rfl), List.length_map, List.length_take]; omega) (ec_flat _)
    have e : FS 135 k 0 (((l.take k).map e0).flatMap ec).toArray = ents 135 0 (l.map e0) := by
      subst hk0
      simp only [ents, List.length_map, List.take_length]
    rw [e] at hr
    exact hr
/-! ## what agrees -/
theorem tbl_e0 (l : List En) : tblOk (l.map e0) = tblOk l := by
  have hg : ∀ i, ((l.map e0).getD i zE).p = (l.getD i zE).p ∧ ((l.map e0).getD i zE).to = (l.getD i zE).to := fun i => by
    rw [List.getD_eq_getElem?_getD, List.getD_eq_getElem?_getD, List.getElem?_map]
    cases l[i]? <;> exact ⟨rfl, rfl⟩
  have hr : ∀ i, rowOk (l.map e0) i = rowOk l i := fun i => by
    unfold rowOk enOk
    rw [(hg i).1, (hg i).2, (hg (i - 1)).1]
  unfold tblOk
  rw [List.length_map]
  congr 2
  funext i
  exact hr i
theorem best_e0 (l : List En) (a : List Int) : ∀ i, bestAt (l.map e0) a i = bestAt l a i
  | 0 => rfl
  | i + 1 => by
    have ih := best_e0 l a i
    have hg : ∀ i, ((l.map e0).getD i zE).p = (l.getD i zE).p := fun i => by
      rw [List.getD_eq_getElem?_getD, List.getD_eq_getElem?_getD, List.getElem?_map]
      cases l[i]? <;> rfl
    unfold bestAt
    rw [ih]
    unfold better
    rw [hg, hg]
theorem found_e0 (l : List En) (a : List Int) : found (l.map e0) a = (found l a).map e0 := by
  unfold found
  rw [List.length_map, best_e0]
  split
  · rfl
  · rename_i hz
    rw [Option.map_some, List.getD_eq_getElem?_getD, List.getD_eq_getElem?_getD, List.getElem?_map]
    cases l[(bestAt l a l.length).toNat]? <;> rfl
theorem cutL_toR (g : Gr) (size : Int) : cutL (toR g) size = (cutL g size).map (List.map toR) := by
  unfold cutL
  have h1 : (toR g).data = g.data := rfl
  have h2 : (toR g).may = g.may := rfl
  rw [h1, h2]
  split
  · rfl
  · split
    · rw [Option.map_some, toR_pcs]
      rfl
    · rfl
theorem okF_e0 (me : List Int) (l : List En) (ls : List Ln) (g : Gr) : okF me (l.map e0) ls (toR g) = okF me l ls g := by
  unfold okF
  rw [tbl_e0]
  rfl
/-- What both come to. -/
theorem both (x : Nat) (me : List Int) (l : List En) (ls : List Ln) (g : Gr) :
    (fwAll 24 x me l ls g = ⟨nilV, 0, nilV, 1⟩ ∧ fwAll 32 0 me (l.map e0) ls (toR g) = ⟨nilV, 0, nilV, 1⟩) ∨
    (okG g = true ∧ ∃ k, fwAll 24 x me l ls g = ⟨nilV, -1, repV 24 x me g k, 0⟩ ∧ fwAll 32 0 me (l.map e0) ls (toR g) = ⟨nilV, -1, repV 32 0 me (toR g) k, 0⟩) ∨
    (okG g = true ∧ 0 < ls.length ∧ ∃ line size o, fwAll 24 x me l ls g = ⟨grams 24 o, line, nilV, 0⟩ ∧ fwAll 32 0 me (l.map e0) ls (toR g) = ⟨grams 32 (o.map toR), line, nilV, 0⟩ ∧ cutL (lifeDown g) size = some o ∧ 1 ≤ size) := by
  have ho := okF_e0 me l ls g
  unfold fwAll
  rw [ho]
  split
  · rename_i hok
    have hok2 := hok
    unfold okF at hok2
    simp only [Bool.and_eq_true, Bool.not_eq_true'] at hok2
    obtain ⟨⟨⟨h1, h2⟩, h3⟩, h4⟩ := hok2
    have hf : found (l.map e0) (toR g).to = (found l g.to).map e0 := found_e0 l g.to
    have hl : (toR g).life = g.life := rfl
    unfold fwd
    rw [hl, hf]
    split
    · exact .inr (.inl ⟨h3, 1, rfl, rfl⟩)
    · cases hff : found l g.to with
      | none => exact .inr (.inl ⟨h3, 2, rfl, rfl⟩)
      | some e =>
        obtain ⟨e1, _, _⟩ := found_ok h4 hff
        rw [Option.map_some]
        dsimp only
        have et : (e0 e).to = e.to := rfl
        rw [et]
        split
        · exact .inl ⟨rfl, rfl⟩
        · rename_i hlt
          have hc : cutL (lifeDown (toR g)) (ls.getD e.to.toNat ⟨0, 0⟩).size = (cutL (lifeDown g) (ls.getD e.to.toNat ⟨0, 0⟩).size).map (List.map toR) := cutL_toR (lifeDown g) _
          rw [hc]
          cases hcc : cutL (lifeDown g) (ls.getD e.to.toNat ⟨0, 0⟩).size with
          | none => exact .inr (.inl ⟨h3, 3, rfl, rfl⟩)
          | some o => exact .inr (.inr ⟨h3, by omega, e.to, _, o, rfl, rfl, hcc, (line_ok h2 (i := e.to.toNat) (by omega)).1⟩)
  · exact .inl ⟨rfl, rfl⟩
end Go.Proofs.Ytpkkcpglbjbgfaa.D
