/- The document's Of and Mild; lists copied and compared. -/
import Derived.Test.YtdkmdpklojeepaaFwLem
import Derived.Test.YtdkmdpklojeepaaF09e
namespace Go.Proofs.Ytdkmdpklojeepaa.D
open Go.Fw Go.RowKit

theorem f20 : E.funcs 20 = some Try.f20 := by kernel_rfl
theorem ints20 (x y : Nat) (a : List Int) (hl : a.length ≤ 9223372036854775806) : Fun E 20 [sl x a, sl y a] (.bool true) := by
  refine Fun.of f20 rfl (of_decide_eq_true (by kernel_rfl)) rfl ?_
  have n0 : ((a.length : Int) != (a.length : Int)) = false := by simp
  refine Wp.seq (Wp.text ?_)
  refine kp 4 (.bool false) ?_
  refine WpOps.nil (thenK_at (Wp.seq (Wp.seq (Wp.text ?_))))
  refine kp 6 (.iface 3 (Value.iface (List.length a) (Value.iface x (Value.agg (List.toArray (List.map (fun n => Value.int .i64 n) a)))))) ?_
  refine kp 7 (.int IntKind.i64 (↑(List.length a) : Int)) ?_
  refine kp 8 (.iface 3 (Value.iface (List.length a) (Value.iface y (Value.agg (List.toArray (List.map (fun n => Value.int .i64 n) a)))))) ?_
  refine kp 9 (.int IntKind.i64 (↑(List.length a) : Int)) ?_
  refine kp 10 (.bool false) ?_ (hop := fun _ => by_fact n0)
  refine WpOps.nil (thenK_at (off' (Wp.skip (thenK_at (Wp.seq (Wp.seq (Wp.text ?_)))))))
  refine kp 5 (.int IntKind.i64 0) ?_
  refine WpOps.nil (thenK_at (Wp.block ?_))
  refine Wp.loop (G := Nat) (fun i => layj [(0, sl x a), (1, sl y a), (5, .int .i64 i)]) (fun _ => heapOf []) (fun i => a.length - i) (fun i => i ≤ a.length) 0
    (View.of [] [] _ List.nodup_nil rfl trivial ⟨⟨by kernel_rfl, rfl⟩, ⟨by kernel_rfl, rfl⟩, ⟨by kernel_rfl, rfl⟩, trivial⟩) (Nat.zero_le _) ?_
  intro i hi
  refine Wp.seq (Wp.seq (Wp.text ?_))
  refine kp 11 (.int IntKind.i64 (↑i : Int)) ?_
  refine kp 12 (.iface 3 (Value.iface (List.length a) (Value.iface x (Value.agg (List.toArray (List.map (fun n => Value.int .i64 n) a)))))) ?_
  refine kp 13 (.int IntKind.i64 (↑(List.length a) : Int)) ?_
  refine kp 14 (.bool (decide ((↑i : Int) < (↑(List.length a) : Int)))) ?_
  refine WpOps.nil (thenK_at ?_)
  refine Wp.split (decide ((↑i : Int) < (↑(List.length a) : Int))) (by kernel_rfl) (fun hc => ?_) (fun hc => ?_)
  · have hlt : (i : Int) < a.length := of_decide_eq_true hc
    have h0 : 0 ≤ (i : Int) ∧ (i : Int) < a.length := ⟨Int.natCast_nonneg _, hlt⟩
    have hv := sl_at a i (by omega)
    have hne : ((a.getD i 0) != (a.getD i 0)) = false := by simp
    refine Wp.skip (thenK_at (Wp.seq (Wp.block (Wp.seq ?_))))
    refine Wp.region (by kernel_rfl) ?_
    refine kp 17 (.iface 3 (Value.iface (List.length a) (Value.iface x (Value.agg (List.toArray (List.map (fun n => Value.int .i64 n) a)))))) ?_
    refine kp 18 (.int IntKind.i64 (↑i : Int)) ?_
    refine kp 19 (.iface 3 (Value.iface (Int.toNat (↑i : Int) * 1) (Value.agg (List.toArray (List.map (fun n => Value.int .i64 n) a))))) ?_ (hop := fun _ => o_indexI (e := 3) (size := 1) (a := (↑i : Int)) h0)
    refine kp 20 (.int IntKind.i64 (List.getD a i 0)) ?_ (hop := fun _ => o_loadI1 (Int.toNat (↑i : Int) * 1) hv)
    refine kp 21 (.iface 3 (Value.iface (List.length a) (Value.iface y (Value.agg (List.toArray (List.map (fun n => Value.int .i64 n) a)))))) ?_
    refine kp 22 (.int IntKind.i64 (↑i : Int)) ?_
    refine kp 23 (.iface 3 (Value.iface (Int.toNat (↑i : Int) * 1) (Value.agg (List.toArray (List.map (fun n => Value.int .i64 n) a))))) ?_ (hop := fun _ => o_indexI (e := 3) (size := 1) (a := (↑i : Int)) h0)
    refine kp 24 (.int IntKind.i64 (List.getD a i 0)) ?_ (hop := fun _ => o_loadI1 (Int.toNat (↑i : Int) * 1) hv)
    refine kp 25 (.bool false) ?_ (hop := fun _ => by_fact hne)
    refine WpOps.nil (thenK_at (off' (Wp.skip (blockK_norm (thenK_at (Wp.text ?_))))))
    refine kp 15 (.int IntKind.i64 (↑i : Int)) ?_
    refine kp 16 (.int IntKind.i64 (IntKind.wrap .i64 ((↑i : Int) + 1))) ?_
    refine kp 5 (.int IntKind.i64 (IntKind.wrap .i64 ((↑i : Int) + 1))) ?_
    refine WpOps.nil (thenK_at ?_)
    exact ⟨i + 1, by omega, by omega, View.of [] [] _ List.nodup_nil rfl trivial ⟨⟨by kernel_rfl, rfl⟩, ⟨by kernel_rfl, rfl⟩, ⟨congrArg (Value.int .i64) (wrap_i64 ((i : Int) + 1) (by omega) (by omega)), rfl⟩, trivial⟩⟩
  · refine Wp.exit (thenK_exit (thenK_exit (blockK_hit (thenK_at (Wp.seq (Wp.text ?_))))))
    refine kp 4 (.bool true) ?_
    refine WpOps.nil (thenK_at (Wp.ret ?_))
    refine endK_retn [Value.bool true] (Value.bool true) (by kernel_rfl) (by kernel_rfl) ?_
    rfl

/-! ## a list copied -/
theorem sl_flat (l : List Int) : ∀ v ∈ (l.map fun n => Value.int .i64 n), flat v = true := fun v hv => by
  obtain ⟨n, _, rfl⟩ := List.mem_map.1 hv
  rfl
theorem ice_ints (h : Heap) (m : Nat) (l : List Int) : mapO (iceC E h m) (l.map fun n => Value.int .i64 n) = some (l.map fun n => Value.int .i64 n) := mapO_id fun v hv => flat_ice (sl_flat l v hv) m
theorem types3 : (E.types 3).map (fun i => (i.size, i.desc)) = some (1, .int .i64) := by kernel_rfl
theorem E3 : ∃ ti, E.types 3 = some ti := by
  obtain ⟨ti, h, _⟩ := Option.map_eq_some_iff.1 types3
  exact ⟨ti, h⟩

/-- A row of one's own of ints, as a value. -/
theorem ice_irow {hp : Heap} {b n c : Nat} (l : List Int) (hn : n = l.length) (hb : hp.get b = some ⟨3, true, l.map fun n => Value.int .i64 n⟩) : iceV E hp (.slice (some ⟨b, 0, none⟩) n c) = some (sl 0 l) := by
  subst hn
  obtain ⟨ti, h1, h2⟩ := Option.map_eq_some_iff.1 types3
  have h3 : ti.size = 1 := congrArg Prod.fst h2
  have hc : cellsAt (l.map fun n => Value.int .i64 n) 0 (l.length * 1) = some (l.map fun n => Value.int .i64 n) := by
    have : (l.map fun n => Value.int .i64 n).length = l.length := List.length_map _
    simp only [cellsAt, Nat.zero_add, Nat.mul_one, this, Nat.le_refl, if_true, List.drop_zero]
    rw [List.take_of_length_le (by rw [this]; exact Nat.le_refl _)]
  show iceC E hp 4 _ = _
  unfold iceC
  simp only [hb, h1, h3, hc, ice_ints]
  rfl

theorem f19 : E.funcs 19 = some Try.f19 := by kernel_rfl
theorem copy19 (x : Nat) (l : List Int) (hl : l.length ≤ 17592186044416) : Fun E 19 [sl x l] (sl 0 l) := by
  refine Fun.of f19 rfl (of_decide_eq_true (by kernel_rfl)) rfl ?_
  rcases Nat.eq_zero_or_pos l.length with h0 | h0
  · obtain rfl := List.eq_nil_of_length_eq_zero h0
    refine Wp.seq (Wp.text ?_)
    refine kp 2 (.slice none 0 0) ?_
    refine WpOps.nil (thenK_at (Wp.seq (Wp.text ?_)))
    refine md 3 (.slice (some ⟨0, 0, none⟩) 0 0) (Blk.mk 3 true []) ?_
    refine kp 4 (.iface 3 (Value.iface 0 (Value.iface x (Value.agg #[])))) ?_
    refine kp 5 (.slice (some ⟨0, 0, none⟩) 0 0) ?_
    refine kp 2 (.slice (some ⟨0, 0, none⟩) 0 0) ?_
    refine WpOps.nil (thenK_at (Wp.ret ?_))
    refine endK_retn [Value.slice (some (Addr.mk 0 0 none)) 0 0] (Value.slice (some (Addr.mk 0 0 none)) 0 0) (by kernel_rfl) (by kernel_rfl) ?_
    kernel_rfl
  · have h1 : ¬ (0 + l.length ≤ 0) := by omega
    have h2 : 1 ≤ 8 ∧ (0 + l.length) * 8 ≤ 140737488355328 ∧ 1 = 1 ∧ 0 + l.length ≤ 9223372036854775807 := by omega
    refine Wp.seq (Wp.text ?_)
    refine kp 2 (.slice none 0 0) ?_
    refine WpOps.nil (thenK_at (Wp.seq (Wp.text ?_)))
    refine md 3 (.slice (some ⟨0, 0, none⟩) 0 0) (Blk.mk 3 true []) ?_
    refine kp 4 (.iface 3 (Value.iface (List.length l) (Value.iface x (Value.agg (List.toArray (List.map (fun n => Value.int .i64 n) l)))))) ?_
    refine ra 5 (.slice (some ⟨1, 0, none⟩) (0 + List.length l) (0 + List.length l)) (0) (Blk.mk 3 true ([] ++ Array.toList (List.toArray (List.map (fun n => Value.int .i64 n) l)))) ?_ (hop := fun _ => o_append (e := 3) 0 (0) (0) _ (0) h1 h2)
    refine kp 2 (.slice (some ⟨1, 0, none⟩) (0 + List.length l) (0 + List.length l)) ?_
    refine WpOps.nil (thenK_at (Wp.ret ?_))
    refine endK_retn [Value.slice (some (Addr.mk 1 0 none)) (0 + List.length l) (0 + List.length l)] (Value.slice (some (Addr.mk 1 0 none)) (0 + List.length l) (0 + List.length l)) (by kernel_rfl) (by kernel_rfl) ?_
    exact ice_irow l (Nat.zero_add _) (by kernel_rfl)

theorem f16 : E.funcs 16 = some Try.f16 := by kernel_rfl
theorem of16 (x : Nat) (l : List Int) (hl : ∀ n ∈ l, I64 n) (hz : l.length ≤ 1000) : Fun E 16 [sl x l] (outF 36 (min l.length 200) (fc false (l.take 200))) := by
  have c1 := script39 false x l hl hz
  unfold outF at c1 ⊢
  by_cases h0 : min l.length 200 = 0
  · rw [if_pos h0] at c1 ⊢
    refine Fun.of f16 rfl (of_decide_eq_true (by kernel_rfl)) rfl ?_
    refine Wp.seq (Wp.text ?_)
    refine kp 2 (.slice none 0 0) ?_
    refine WpOps.nil (thenK_at (Wp.seq (Wp.text ?_)))
    refine kp 3 (.iface 3 (Value.iface (List.length l) (Value.iface x (Value.agg (List.toArray (List.map (fun n => Value.int .i64 n) l)))))) ?_
    refine fr 4 39 [Value.iface 3 (Value.iface (List.length l) (Value.iface x (Value.agg (List.toArray (List.map (fun n => Value.int .i64 n) l))))), Value.bool false] ?_
    refine WpFun.of (c1) ?_
    refine kp 2 (.iface 36 (Value.iface 0 (Value.iface 2 (Value.agg #[])))) ?_
    refine WpOps.nil (thenK_at (Wp.ret ?_))
    refine endK_retn [Value.iface 36 (Value.iface 0 (Value.iface 2 (Value.agg #[])))] (Value.iface 36 (Value.iface 0 (Value.iface 2 (Value.agg #[])))) (by kernel_rfl) (by kernel_rfl) ?_
    rfl
  · rw [if_neg h0] at c1 ⊢
    refine Fun.of f16 rfl (of_decide_eq_true (by kernel_rfl)) rfl ?_
    refine Wp.seq (Wp.text ?_)
    refine kp 2 (.slice none 0 0) ?_
    refine WpOps.nil (thenK_at (Wp.seq (Wp.text ?_)))
    refine kp 3 (.iface 3 (Value.iface (List.length l) (Value.iface x (Value.agg (List.toArray (List.map (fun n => Value.int .i64 n) l)))))) ?_
    refine fr 4 39 [Value.iface 3 (Value.iface (List.length l) (Value.iface x (Value.agg (List.toArray (List.map (fun n => Value.int .i64 n) l))))), Value.bool false] ?_
    refine WpFun.of (c1) ?_
    refine kp 2 (.iface 36 (Value.iface (min (List.length l) 200) (Value.iface 0 (Value.agg (List.toArray (fc false (List.take 200 l))))))) ?_
    refine WpOps.nil (thenK_at (Wp.ret ?_))
    refine endK_retn [Value.iface 36 (Value.iface (min (List.length l) 200) (Value.iface 0 (Value.agg (List.toArray (fc false (List.take 200 l))))))] (Value.iface 36 (Value.iface (min (List.length l) 200) (Value.iface 0 (Value.agg (List.toArray (fc false (List.take 200 l))))))) (by kernel_rfl) (by kernel_rfl) ?_
    rfl
theorem f12 : E.funcs 12 = some Try.f12 := by kernel_rfl
theorem mild12 (x : Nat) (l : List Int) (hl : ∀ n ∈ l, I64 n) (hz : l.length ≤ 1000) : Fun E 12 [sl x l] (outF 36 (min l.length 200) (fc true (l.take 200))) := by
  have c1 := script39 true x l hl hz
  unfold outF at c1 ⊢
  by_cases h0 : min l.length 200 = 0
  · rw [if_pos h0] at c1 ⊢
    refine Fun.of f12 rfl (of_decide_eq_true (by kernel_rfl)) rfl ?_
    refine Wp.seq (Wp.text ?_)
    refine kp 2 (.slice none 0 0) ?_
    refine WpOps.nil (thenK_at (Wp.seq (Wp.text ?_)))
    refine kp 3 (.iface 3 (Value.iface (List.length l) (Value.iface x (Value.agg (List.toArray (List.map (fun n => Value.int .i64 n) l)))))) ?_
    refine fr 4 39 [Value.iface 3 (Value.iface (List.length l) (Value.iface x (Value.agg (List.toArray (List.map (fun n => Value.int .i64 n) l))))), Value.bool true] ?_
    refine WpFun.of (c1) ?_
    refine kp 2 (.iface 36 (Value.iface 0 (Value.iface 2 (Value.agg #[])))) ?_
    refine WpOps.nil (thenK_at (Wp.ret ?_))
    refine endK_retn [Value.iface 36 (Value.iface 0 (Value.iface 2 (Value.agg #[])))] (Value.iface 36 (Value.iface 0 (Value.iface 2 (Value.agg #[])))) (by kernel_rfl) (by kernel_rfl) ?_
    rfl
  · rw [if_neg h0] at c1 ⊢
    refine Fun.of f12 rfl (of_decide_eq_true (by kernel_rfl)) rfl ?_
    refine Wp.seq (Wp.text ?_)
    refine kp 2 (.slice none 0 0) ?_
    refine WpOps.nil (thenK_at (Wp.seq (Wp.text ?_)))
    refine kp 3 (.iface 3 (Value.iface (List.length l) (Value.iface x (Value.agg (List.toArray (List.map (fun n => Value.int .i64 n) l)))))) ?_
    refine fr 4 39 [Value.iface 3 (Value.iface (List.length l) (Value.iface x (Value.agg (List.toArray (List.map (fun n => Value.int .i64 n) l))))), Value.bool true] ?_
    refine WpFun.of (c1) ?_
    refine kp 2 (.iface 36 (Value.iface (min (List.length l) 200) (Value.iface 0 (Value.agg (List.toArray (fc true (List.take 200 l))))))) ?_
    refine WpOps.nil (thenK_at (Wp.ret ?_))
    refine endK_retn [Value.iface 36 (Value.iface (min (List.length l) 200) (Value.iface 0 (Value.agg (List.toArray (fc true (List.take 200 l))))))] (Value.iface 36 (Value.iface (min (List.length l) 200) (Value.iface 0 (Value.agg (List.toArray (fc true (List.take 200 l))))))) (by kernel_rfl) (by kernel_rfl) ?_
    rfl
end Go.Proofs.Ytdkmdpklojeepaa.D
