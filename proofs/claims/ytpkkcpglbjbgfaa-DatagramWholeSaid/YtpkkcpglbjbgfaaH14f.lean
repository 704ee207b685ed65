/- Pieces of pieces. -/
import Derived.Test.YtpkkcpglbjbgfaaFwLem
import Derived.Test.YtpkkcpglbjbgfaaFwCons
import Derived.Test.YtpkkcpglbjbgfaaFwMat
import Derived.Test.YtpkkcpglbjbgfaaH14p
namespace Go.Proofs.Ytpkkcpglbjbgfaa.D
open Go.Fw Go.RowKit

def oV (b k : Nat) : Value := if k = 0 then .slice none 0 0 else .slice (some ⟨b, 0, none⟩) k k
def oB (t : TypeId) (k : Nat) (cs : List Value) : List Blk := if k = 0 then [] else [⟨t, true, cs⟩]
theorem oV_own {b k : Nat} (h : ¬ k = 0) : oV b k = .slice (some ⟨b, 0, none⟩) k k := if_neg h
theorem oB_own {t : TypeId} {k : Nat} {cs : List Value} (h : ¬ k = 0) : oB t k cs = [⟨t, true, cs⟩] := if_neg h
theorem oV_z {b k : Nat} (h : k = 0) : oV b k = .slice none 0 0 := if_pos h
theorem oB_z {t : TypeId} {k : Nat} {cs : List Value} (h : k = 0) : oB t k cs = [] := if_pos h
/-- The pieces of pieces. -/
def acc (l : List Gr) (less : Int) : List Gr := (l.map fun p => (cutAll p less).getD []).flatten
def cut2 (l : List Gr) (less : Int) : Option (List Gr) := if l.all (fun p => (cutAll p less).isSome) = true then some (acc l less) else none
theorem take_one {l : List Gr} {k : Nat} (h : k < l.length) : l.take (k + 1) = l.take k ++ [l[k]] := by
  rw [List.take_add_one, List.getElem?_eq_getElem h]
  rfl
theorem acc_next {l : List Gr} {less : Int} {k : Nat} (h : k < l.length) {q : List Gr} (e : cutAll l[k] less = some q) : acc (l.take (k + 1)) less = acc (l.take k) less ++ q := by
  unfold acc
  rw [take_one h, List.map_append, List.flatten_append, List.map_cons, List.map_nil, e]
  simp
theorem acc_len {l : List Gr} {less : Int} (ok : ∀ p ∈ l, OkGr p) : (acc l less).length ≤ l.length * 4000 := by
  induction l with
  | nil => exact Nat.le_refl _
  | cons p r ih =>
    have h1 := ih fun q hq => ok q (List.mem_cons_of_mem _ hq)
    unfold acc at h1 ⊢
    rw [List.map_cons, List.flatten_cons, List.length_append, List.length_cons]
    have : ((cutAll p less).getD []).length ≤ 4000 := by
      cases e : cutAll p less with
      | none => exact Nat.zero_le _
      | some q => exact (cutAll_some (ok p (by simp)) e).2.1
    omega
theorem cells_app (a b : List Gr) : cellsG a ++ cellsG b = cellsG (a ++ b) := by simp [cellsG]
theorem cells_own (a : List Gr) : cellsAt (cellsG a) 0 (a.length * 11) = some (cellsG a) := by
  unfold cellsAt
  rw [if_pos (by rw [cellsG_len]; omega), List.drop_zero, List.take_of_length_le (by rw [cellsG_len]; omega)]
/-- A datagram, two sizes, an order. -/
def caseC (g : Gr) (size less : Int) (x : Nat) (o : List Int) : List Value := gc g ++ [.int .i64 size, .int .i64 less, sl x o]
def caseV (g : Gr) (size less : Int) (x : Nat) (o : List Int) : Value := .agg (caseC g size less x o).toArray
def pcsV : Option (List Gr) → Value
  | some l => .tuple #[grams 24 l, .bool (decide ((l.length : Int) ≤ 200))]
  | none => .tuple #[.slice none 0 0, .bool false]
def pcsOf (g : Gr) (size less : Int) : Option (List Gr) := match cutAll g size with
  | some l => if (g.at' == 0) = true ∧ g.more = false then cut2 l less else none
  | none => none
theorem f29 : E.funcs 29 = some Try.f29 := by kernel_rfl
theorem pieces29_none (g : Gr) (ok : OkGr g) (size less : Int) (x : Nat) (o : List Int) (h : cutAll g size = none) : Fun E 29 [caseV g size less x o] (.tuple #[.slice none 0 0, .bool false]) := by
  refine Fun.of f29 rfl (of_decide_eq_true (by kernel_rfl)) (by kernel_rfl) ?_
  have c1 := Cut14 g ok size
  rw [h] at c1
  unfold errV at c1
  unfold caseV caseC
  refine Wp.seq (Wp.text ?_)
  refine md 1 (.pointer (some ⟨0, 0, none⟩)) (Blk.mk 52 true [Value.iface 3 (Value.iface (List.length (Gr.fr g)) (Value.iface (Gr.fx g) (Value.agg (List.toArray (List.map (fun n => Value.int .i64 n) (Gr.fr g)))))), Value.iface 3 (Value.iface (List.length (Gr.to g)) (Value.iface (Gr.tx g) (Value.agg (List.toArray (List.map (fun n => Value.int .i64 n) (Gr.to g)))))), Value.int .i64 (Gr.number g), Value.int .i64 (Gr.life g), Value.int .i64 (Gr.at' g), Value.int .i64 (Gr.total g), Value.int .i64 (Gr.report g), Value.bool (Gr.more g), Value.bool (Gr.may g), Value.bool (Gr.wants g), Value.string (Gr.data g), Value.int .i64 size, Value.int .i64 less, Value.iface 3 (Value.iface (List.length o) (Value.iface x (Value.agg (List.toArray (List.map (fun n => Value.int .i64 n) o)))))]) ?_
  refine kp 2 (.slice none 0 0) ?_
  refine kp 3 (.bool false) ?_
  refine WpOps.nil (thenK_at (Wp.seq (Wp.text ?_)))
  refine kp 11 (.pointer (some ⟨0, 0, none⟩)) ?_
  refine kp 12 (gv g) ?_
  refine kp 13 (.pointer (some ⟨0, 11, none⟩)) ?_
  refine kp 14 (.int IntKind.i64 size) ?_
  refine fr 15 14 [gv g, Value.int .i64 size] ?_
  refine WpFun.of (c1) ?_
  refine kp 10 (.tuple #[Value.slice none 0 0, Value.int .i64 1]) ?_
  refine kp 16 (.slice none 0 0) ?_
  refine kp 17 (.int IntKind.i64 1) ?_
  refine kp 4 (.slice none 0 0) ?_
  refine kp 5 (.int IntKind.i64 1) ?_
  refine WpOps.nil (thenK_at (Wp.seq (Wp.seq (Wp.text ?_))))
  refine kp 18 (.int IntKind.i64 1) ?_
  refine kp 19 (.bool true) ?_
  refine kp 20 (.bool true) ?_
  refine um 21 ?_
  refine um 22 ?_
  refine um 23 ?_
  refine um 24 ?_
  refine kp 25 (.bool true) ?_
  refine kp 26 (.bool true) ?_
  refine um 27 ?_
  refine um 28 ?_
  refine um 29 ?_
  refine kp 30 (.bool true) ?_
  refine WpOps.nil (thenK_at (on' (Wp.seq (Wp.text ?_))))
  refine kp 2 (.slice none 0 0) ?_
  refine kp 3 (.bool false) ?_
  refine WpOps.nil (thenK_at (Wp.ret (thenK_ret ?_)))
  refine endK_retn [Value.slice none 0 0, Value.bool false] (Value.tuple #[Value.slice none 0 0, Value.bool false]) (by kernel_rfl) (by kernel_rfl) ?_
  kernel_rfl
theorem pieces29_no (g : Gr) (ok : OkGr g) (size less : Int) (x : Nat) (o : List Int) (l : List Gr) (h : cutAll g size = some l) (h2 : ¬ ((g.at' == 0) = true ∧ g.more = false)) : Fun E 29 [caseV g size less x o] (.tuple #[.slice none 0 0, .bool false]) := by
  refine Fun.of f29 rfl (of_decide_eq_true (by kernel_rfl)) (by kernel_rfl) ?_
  have c1 := Cut14 g ok size
  rw [h] at c1
  unfold errV at c1
  unfold caseV caseC
  cases ha : (g.at' == 0) with
  | false =>
    have d1 : (g.at' != 0) = true := by simp [bne, ha]
    refine Wp.seq (Wp.text ?_)
    refine md 1 (.pointer (some ⟨0, 0, none⟩)) (Blk.mk 52 true [Value.iface 3 (Value.iface (List.length (Gr.fr g)) (Value.iface (Gr.fx g) (Value.agg (List.toArray (List.map (fun n => Value.int .i64 n) (Gr.fr g)))))), Value.iface 3 (Value.iface (List.length (Gr.to g)) (Value.iface (Gr.tx g) (Value.agg (List.toArray (List.map (fun n => Value.int .i64 n) (Gr.to g)))))), Value.int .i64 (Gr.number g), Value.int .i64 (Gr.life g), Value.int .i64 (Gr.at' g), Value.int .i64 (Gr.total g), Value.int .i64 (Gr.report g), Value.bool (Gr.more g), Value.bool (Gr.may g), Value.bool (Gr.wants g), Value.string (Gr.data g), Value.int .i64 size, Value.int .i64 less, Value.iface 3 (Value.iface (List.length o) (Value.iface x (Value.agg (List.toArray (List.map (fun n => Value.int .i64 n) o)))))]) ?_
    refine kp 2 (.slice none 0 0) ?_
    refine kp 3 (.bool false) ?_
    refine WpOps.nil (thenK_at (Wp.seq (Wp.text ?_)))
    refine kp 11 (.pointer (some ⟨0, 0, none⟩)) ?_
    refine kp 12 (gv g) ?_
    refine kp 13 (.pointer (some ⟨0, 11, none⟩)) ?_
    refine kp 14 (.int IntKind.i64 size) ?_
    refine fr 15 14 [gv g, Value.int .i64 size] ?_
    refine WpFun.of (c1) ?_
    refine kp 10 (.tuple #[grams 24 l, Value.int .i64 0]) ?_
    refine kp 16 (.iface 24 (Value.iface (List.length l) (Value.iface 0 (Value.agg (List.toArray (cellsG l)))))) ?_
    refine kp 17 (.int IntKind.i64 0) ?_
    refine kp 4 (.iface 24 (Value.iface (List.length l) (Value.iface 0 (Value.agg (List.toArray (cellsG l)))))) ?_
    refine kp 5 (.int IntKind.i64 0) ?_
    refine WpOps.nil (thenK_at (Wp.seq (Wp.seq (Wp.text ?_))))
    refine kp 18 (.int IntKind.i64 0) ?_
    refine kp 19 (.bool false) ?_
    refine kp 20 (.bool false) ?_
    refine kp 21 (.pointer (some ⟨0, 0, none⟩)) ?_
    refine kp 22 (.pointer (some ⟨0, 4, none⟩)) ?_
    refine kp 23 (.int IntKind.i64 (Gr.at' g)) ?_
    refine kp 24 (.bool true) ?_ (hop := fun _ => by_fact d1)
    refine kp 25 (.bool true) ?_
    refine kp 26 (.bool true) ?_
    refine um 27 ?_
    refine um 28 ?_
    refine um 29 ?_
    refine kp 30 (.bool true) ?_
    refine WpOps.nil (thenK_at (on' (Wp.seq (Wp.text ?_))))
    refine kp 2 (.slice none 0 0) ?_
    refine kp 3 (.bool false) ?_
    refine WpOps.nil (thenK_at (Wp.ret (thenK_ret ?_)))
    refine endK_retn [Value.slice none 0 0, Value.bool false] (Value.tuple #[Value.slice none 0 0, Value.bool false]) (by kernel_rfl) (by kernel_rfl) ?_
    kernel_rfl
  | true =>
    have d1 : (g.at' != 0) = false := by simp [bne, ha]
    have d2 : g.more = true := by
      cases hm : g.more with
      | true => rfl
      | false => exact absurd ⟨ha, hm⟩ h2
    refine Wp.seq (Wp.text ?_)
    refine md 1 (.pointer (some ⟨0, 0, none⟩)) (Blk.mk 52 true [Value.iface 3 (Value.iface (List.length (Gr.fr g)) (Value.iface (Gr.fx g) (Value.agg (List.toArray (List.map (fun n => Value.int .i64 n) (Gr.fr g)))))), Value.iface 3 (Value.iface (List.length (Gr.to g)) (Value.iface (Gr.tx g) (Value.agg (List.toArray (List.map (fun n => Value.int .i64 n) (Gr.to g)))))), Value.int .i64 (Gr.number g), Value.int .i64 (Gr.life g), Value.int .i64 (Gr.at' g), Value.int .i64 (Gr.total g), Value.int .i64 (Gr.report g), Value.bool (Gr.more g), Value.bool (Gr.may g), Value.bool (Gr.wants g), Value.string (Gr.data g), Value.int .i64 size, Value.int .i64 less, Value.iface 3 (Value.iface (List.length o) (Value.iface x (Value.agg (List.toArray (List.map (fun n => Value.int .i64 n) o)))))]) ?_
    refine kp 2 (.slice none 0 0) ?_
    refine kp 3 (.bool false) ?_
    refine WpOps.nil (thenK_at (Wp.seq (Wp.text ?_)))
    refine kp 11 (.pointer (some ⟨0, 0, none⟩)) ?_
    refine kp 12 (gv g) ?_
    refine kp 13 (.pointer (some ⟨0, 11, none⟩)) ?_
    refine kp 14 (.int IntKind.i64 size) ?_
    refine fr 15 14 [gv g, Value.int .i64 size] ?_
    refine WpFun.of (c1) ?_
    refine kp 10 (.tuple #[grams 24 l, Value.int .i64 0]) ?_
    refine kp 16 (.iface 24 (Value.iface (List.length l) (Value.iface 0 (Value.agg (List.toArray (cellsG l)))))) ?_
    refine kp 17 (.int IntKind.i64 0) ?_
    refine kp 4 (.iface 24 (Value.iface (List.length l) (Value.iface 0 (Value.agg (List.toArray (cellsG l)))))) ?_
    refine kp 5 (.int IntKind.i64 0) ?_
    refine WpOps.nil (thenK_at (Wp.seq (Wp.seq (Wp.text ?_))))
    refine kp 18 (.int IntKind.i64 0) ?_
    refine kp 19 (.bool false) ?_
    refine kp 20 (.bool false) ?_
    refine kp 21 (.pointer (some ⟨0, 0, none⟩)) ?_
    refine kp 22 (.pointer (some ⟨0, 4, none⟩)) ?_
    refine kp 23 (.int IntKind.i64 (Gr.at' g)) ?_
    refine kp 24 (.bool false) ?_ (hop := fun _ => by_fact d1)
    refine kp 25 (.bool false) ?_
    refine kp 26 (.bool false) ?_
    refine kp 27 (.pointer (some ⟨0, 0, none⟩)) ?_
    refine kp 28 (.pointer (some ⟨0, 7, none⟩)) ?_
    refine kp 29 (.bool true) ?_ (hop := fun _ => by_fact d2)
    refine kp 30 (.bool true) ?_
    refine WpOps.nil (thenK_at (on' (Wp.seq (Wp.text ?_))))
    refine kp 2 (.slice none 0 0) ?_
    refine kp 3 (.bool false) ?_
    refine WpOps.nil (thenK_at (Wp.ret (thenK_ret ?_)))
    refine endK_retn [Value.slice none 0 0, Value.bool false] (Value.tuple #[Value.slice none 0 0, Value.bool false]) (by kernel_rfl) (by kernel_rfl) ?_
    kernel_rfl
set_option maxHeartbeats 8000000 in
theorem pieces29_ok (g : Gr) (ok : OkGr g) (size less : Int) (x : Nat) (o : List Int) (l : List Gr) (h : cutAll g size = some l) (ha : (g.at' == 0) = true) (hm : g.more = false) : Fun E 29 [caseV g size less x o] (pcsV (cut2 l less)) := by
  refine Fun.of f29 rfl (of_decide_eq_true (by kernel_rfl)) (by cases cut2 l less <;> rfl) ?_
  obtain ⟨hl1, hl2, okl⟩ := cutAll_some ok h
  have c1 := Cut14 g ok size
  rw [h] at c1
  unfold errV at c1
  unfold caseV caseC
  have d1 : (g.at' != 0) = false := by simp [bne, ha]
  refine Wp.seq (Wp.text ?_)
  refine md 1 (.pointer (some ⟨0, 0, none⟩)) (Blk.mk 52 true [Value.iface 3 (Value.iface (List.length (Gr.fr g)) (Value.iface (Gr.fx g) (Value.agg (List.toArray (List.map (fun n => Value.int .i64 n) (Gr.fr g)))))), Value.iface 3 (Value.iface (List.length (Gr.to g)) (Value.iface (Gr.tx g) (Value.agg (List.toArray (List.map (fun n => Value.int .i64 n) (Gr.to g)))))), Value.int .i64 (Gr.number g), Value.int .i64 (Gr.life g), Value.int .i64 (Gr.at' g), Value.int .i64 (Gr.total g), Value.int .i64 (Gr.report g), Value.bool (Gr.more g), Value.bool (Gr.may g), Value.bool (Gr.wants g), Value.string (Gr.data g), Value.int .i64 size, Value.int .i64 less, Value.iface 3 (Value.iface (List.length o) (Value.iface x (Value.agg (List.toArray (List.map (fun n => Value.int .i64 n) o)))))]) ?_
  refine kp 2 (.slice none 0 0) ?_
  refine kp 3 (.bool false) ?_
  refine WpOps.nil (thenK_at (Wp.seq (Wp.text ?_)))
  refine kp 11 (.pointer (some ⟨0, 0, none⟩)) ?_
  refine kp 12 (gv g) ?_
  refine kp 13 (.pointer (some ⟨0, 11, none⟩)) ?_
  refine kp 14 (.int IntKind.i64 size) ?_
  refine fr 15 14 [gv g, Value.int .i64 size] ?_
  refine WpFun.of (c1) ?_
  refine kp 10 (.tuple #[grams 24 l, Value.int .i64 0]) ?_
  refine kp 16 (.iface 24 (Value.iface (List.length l) (Value.iface 0 (Value.agg (List.toArray (cellsG l)))))) ?_
  refine kp 17 (.int IntKind.i64 0) ?_
  refine kp 4 (.iface 24 (Value.iface (List.length l) (Value.iface 0 (Value.agg (List.toArray (cellsG l)))))) ?_
  refine kp 5 (.int IntKind.i64 0) ?_
  refine WpOps.nil (thenK_at (Wp.seq (Wp.seq (Wp.text ?_))))
  refine kp 18 (.int IntKind.i64 0) ?_
  refine kp 19 (.bool false) ?_
  refine kp 20 (.bool false) ?_
  refine kp 21 (.pointer (some ⟨0, 0, none⟩)) ?_
  refine kp 22 (.pointer (some ⟨0, 4, none⟩)) ?_
  refine kp 23 (.int IntKind.i64 (Gr.at' g)) ?_
  refine kp 24 (.bool false) ?_ (hop := fun _ => by_fact d1)
  refine kp 25 (.bool false) ?_
  refine kp 26 (.bool false) ?_
  refine kp 27 (.pointer (some ⟨0, 0, none⟩)) ?_
  refine kp 28 (.pointer (some ⟨0, 7, none⟩)) ?_
  refine kp 29 (.bool false) ?_ (hop := fun _ => by_fact hm)
  refine kp 30 (.bool false) ?_
  refine WpOps.nil (thenK_at (off' (Wp.skip (thenK_at (Wp.seq (Wp.text ?_))))))
  refine kp 6 (.slice none 0 0) ?_
  refine WpOps.nil (thenK_at (Wp.seq (Wp.seq (Wp.text ?_))))
  refine kp 7 (.int IntKind.i64 0) ?_
  refine WpOps.nil (thenK_at (Wp.block ?_))
  refine Wp.loop (G := Nat) (fun k => layj [(1, .pointer (some ⟨0, 0, none⟩)), (4, grams 24 l), (6, oV 1 (acc (l.take k) less).length), (7, .int .i64 k)]) (fun k => heapOf ([⟨52, true, caseC g size less x o⟩] ++ oB 24 (acc (l.take k) less).length (cellsG (acc (l.take k) less)))) (fun k => l.length - k) (fun k => k ≤ l.length ∧ ∀ j (hj : j < k) (hjl : j < l.length), (cutAll l[j] less).isSome = true) 0
    ?_ ⟨Nat.zero_le _, fun j hj => absurd hj (Nat.not_lt_zero _)⟩ ?_
  · show View _ _ _ _ _ (layj [(1, .pointer (some ⟨0, 0, none⟩)), (4, grams 24 l), (6, .slice none 0 0), (7, .int .i64 (0 : Nat))]) (heapOf [⟨52, true, caseC g size less x o⟩])
    exact View.of [0] [⟨52, true, caseC g size less x o⟩] _ (by decide) rfl ⟨⟨_, by kernel_rfl, CellsOk.eq rfl (by kernel_rfl)⟩, trivial⟩ ⟨⟨by kernel_rfl, rfl⟩, ⟨by kernel_rfl, rfl⟩, ⟨by kernel_rfl, rfl⟩, ⟨by kernel_rfl, rfl⟩, trivial⟩
  rintro k ⟨hk, hall⟩
  unfold caseC grams
  by_cases hlt : k < l.length
  · have e1 : decide ((k : Int) < l.length) = true := decide_eq_true (by omega)
    have g1 : 0 ≤ (k : Int) ∧ (k : Int) < l.length := by omega
    have v1 := cells_at l k hlt
    have c2 := Cut14 l[k] (okl _ (List.getElem_mem hlt)) less
    have hal := acc_len (less := less) (l := l.take k) fun p hp => okl p (List.mem_of_mem_take hp)
    rw [List.length_take, Nat.min_eq_left (by omega)] at hal
    have hbad : cutAll l[k] less = none → cut2 l less = none := fun e => by
      unfold cut2
      rw [if_neg]
      intro hc
      have := List.all_eq_true.1 hc _ (List.getElem_mem hlt)
      rw [e] at this
      cases this
    cases hq : cutAll l[k] less with
    | none =>
      rw [hbad hq]
      rw [hq] at c2
      unfold errV at c2
      unfold pcsV
      by_cases h0 : (acc (l.take k) less).length = 0
      · rw [oV_z h0, oB_z h0]
        refine Wp.seq (Wp.seq (Wp.text ?_))
        refine kp 31 (.int IntKind.i64 (↑k : Int)) ?_
        refine kp 32 (.iface 24 (Value.iface (List.length l) (Value.iface 0 (Value.agg (List.toArray (cellsG l)))))) ?_
        refine kp 33 (.int IntKind.i64 (↑(List.length l) : Int)) ?_
        refine kp 34 (.bool true) ?_ (hop := fun _ => by_fact e1)
        refine WpOps.nil (thenK_at (on' (Wp.skip (thenK_at (Wp.seq (Wp.block (Wp.seq ?_)))))))
        refine Wp.region (by kernel_rfl) ?_
        refine kp 38 (.iface 24 (Value.iface (List.length l) (Value.iface 0 (Value.agg (List.toArray (cellsG l)))))) ?_
        refine kp 39 (.int IntKind.i64 (↑k : Int)) ?_
        refine kp 40 (.iface 24 (Value.iface (Int.toNat (↑k : Int) * 11) (Value.agg (List.toArray (cellsG l))))) ?_ (hop := fun _ => o_indexI (e := 24) (size := 11) (a := (↑k : Int)) g1)
        refine kp 41 (.agg (List.toArray (gc l[k]))) ?_ (hop := fun _ => o_loadIA (Int.toNat (↑k : Int) * 11) v1)
        refine kp 42 (.pointer (some ⟨0, 12, none⟩)) ?_
        refine kp 43 (.int IntKind.i64 less) ?_
        refine fr 44 14 [Value.agg (List.toArray (gc l[k])), Value.int .i64 less] ?_
        refine WpFun.of (c2) ?_
        refine kp 37 (.tuple #[Value.slice none 0 0, Value.int .i64 1]) ?_
        refine kp 45 (.slice none 0 0) ?_
        refine kp 46 (.int IntKind.i64 1) ?_
        refine kp 8 (.slice none 0 0) ?_
        refine kp 9 (.int IntKind.i64 1) ?_
        refine WpOps.nil (thenK_at (Wp.seq (Wp.seq (Wp.text ?_))))
        refine kp 47 (.int IntKind.i64 1) ?_
        refine kp 48 (.bool true) ?_
        refine WpOps.nil (thenK_at (on' (Wp.seq (Wp.text ?_))))
        refine kp 2 (.slice none 0 0) ?_
        refine kp 3 (.bool false) ?_
        refine WpOps.nil (thenK_at (Wp.ret (thenK_ret (blockK_ret (thenK_ret (thenK_ret (blockK_ret (thenK_ret ?_))))))))
        refine endK_retn [Value.slice none 0 0, Value.bool false] (Value.tuple #[Value.slice none 0 0, Value.bool false]) (by kernel_rfl) (by kernel_rfl) ?_
        kernel_rfl
      · rw [oV_own h0, oB_own h0]
        refine Wp.seq (Wp.seq (Wp.text ?_))
        refine kp 31 (.int IntKind.i64 (↑k : Int)) ?_
        refine kp 32 (.iface 24 (Value.iface (List.length l) (Value.iface 0 (Value.agg (List.toArray (cellsG l)))))) ?_
        refine kp 33 (.int IntKind.i64 (↑(List.length l) : Int)) ?_
        refine kp 34 (.bool true) ?_ (hop := fun _ => by_fact e1)
        refine WpOps.nil (thenK_at (on' (Wp.skip (thenK_at (Wp.seq (Wp.block (Wp.seq ?_)))))))
        refine Wp.region (by kernel_rfl) ?_
        refine kp 38 (.iface 24 (Value.iface (List.length l) (Value.iface 0 (Value.agg (List.toArray (cellsG l)))))) ?_
        refine kp 39 (.int IntKind.i64 (↑k : Int)) ?_
        refine kp 40 (.iface 24 (Value.iface (Int.toNat (↑k : Int) * 11) (Value.agg (List.toArray (cellsG l))))) ?_ (hop := fun _ => o_indexI (e := 24) (size := 11) (a := (↑k : Int)) g1)
        refine kp 41 (.agg (List.toArray (gc l[k]))) ?_ (hop := fun _ => o_loadIA (Int.toNat (↑k : Int) * 11) v1)
        refine kp 42 (.pointer (some ⟨0, 12, none⟩)) ?_
        refine kp 43 (.int IntKind.i64 less) ?_
        refine fr 44 14 [Value.agg (List.toArray (gc l[k])), Value.int .i64 less] ?_
        refine WpFun.of (c2) ?_
        refine kp 37 (.tuple #[Value.slice none 0 0, Value.int .i64 1]) ?_
        refine kp 45 (.slice none 0 0) ?_
        refine kp 46 (.int IntKind.i64 1) ?_
        refine kp 8 (.slice none 0 0) ?_
        refine kp 9 (.int IntKind.i64 1) ?_
        refine WpOps.nil (thenK_at (Wp.seq (Wp.seq (Wp.text ?_))))
        refine kp 47 (.int IntKind.i64 1) ?_
        refine kp 48 (.bool true) ?_
        refine WpOps.nil (thenK_at (on' (Wp.seq (Wp.text ?_))))
        refine kp 2 (.slice none 0 0) ?_
        refine kp 3 (.bool false) ?_
        refine WpOps.nil (thenK_at (Wp.ret (thenK_ret (blockK_ret (thenK_ret (thenK_ret (blockK_ret (thenK_ret ?_))))))))
        refine endK_retn [Value.slice none 0 0, Value.bool false] (Value.tuple #[Value.slice none 0 0, Value.bool false]) (by kernel_rfl) (by kernel_rfl) ?_
        kernel_rfl
    | some q =>
      rw [hq] at c2
      unfold errV at c2
      obtain ⟨hq1, hq2, _⟩ := cutAll_some (okl _ (List.getElem_mem hlt)) hq
      have hn := acc_next hlt hq
      have hall2 : ∀ j (hj : j < k + 1) (hjl : j < l.length), (cutAll l[j] less).isSome = true := fun j hj hjl => by
        by_cases e : j = k
        · subst e
          rw [hq]
          rfl
        · exact hall j (by omega) hjl
      generalize acc (l.take k) less = A at hal hn ⊢
      have q4 : q.length ≠ 0 := by omega
      unfold grams at c2
      by_cases h0 : A.length = 0
      · rw [oV_z h0, oB_z h0]
        have hA := List.eq_nil_of_length_eq_zero h0
        have q1 : ¬ (0 + q.length ≤ 0) := by omega
        have q2 : 1 ≤ 112 ∧ (0 + q.length) * 112 ≤ 140737488355328 ∧ 11 = 11 ∧ 0 + q.length ≤ 9223372036854775807 := by omega
        subst hA
        rw [List.nil_append] at hn
        refine Wp.seq (Wp.seq (Wp.text ?_))
        refine kp 31 (.int IntKind.i64 (↑k : Int)) ?_
        refine kp 32 (.iface 24 (Value.iface (List.length l) (Value.iface 0 (Value.agg (List.toArray (cellsG l)))))) ?_
        refine kp 33 (.int IntKind.i64 (↑(List.length l) : Int)) ?_
        refine kp 34 (.bool true) ?_ (hop := fun _ => by_fact e1)
        refine WpOps.nil (thenK_at (on' (Wp.skip (thenK_at (Wp.seq (Wp.block (Wp.seq ?_)))))))
        refine Wp.region (by kernel_rfl) ?_
        refine kp 38 (.iface 24 (Value.iface (List.length l) (Value.iface 0 (Value.agg (List.toArray (cellsG l)))))) ?_
        refine kp 39 (.int IntKind.i64 (↑k : Int)) ?_
        refine kp 40 (.iface 24 (Value.iface (Int.toNat (↑k : Int) * 11) (Value.agg (List.toArray (cellsG l))))) ?_ (hop := fun _ => o_indexI (e := 24) (size := 11) (a := (↑k : Int)) g1)
        refine kp 41 (.agg (List.toArray (gc l[k]))) ?_ (hop := fun _ => o_loadIA (Int.toNat (↑k : Int) * 11) v1)
        refine kp 42 (.pointer (some ⟨0, 12, none⟩)) ?_
        refine kp 43 (.int IntKind.i64 less) ?_
        refine fr 44 14 [Value.agg (List.toArray (gc l[k])), Value.int .i64 less] ?_
        refine WpFun.of (c2) ?_
        refine kp 37 (.tuple #[FS 24 (List.length q) 0 (List.toArray (cellsG q)), Value.int .i64 0]) ?_
        refine kp 45 (.iface 24 (Value.iface (List.length q) (Value.iface 0 (Value.agg (List.toArray (cellsG q)))))) ?_
        refine kp 46 (.int IntKind.i64 0) ?_
        refine kp 8 (.iface 24 (Value.iface (List.length q) (Value.iface 0 (Value.agg (List.toArray (cellsG q)))))) ?_
        refine kp 9 (.int IntKind.i64 0) ?_
        refine WpOps.nil (thenK_at (Wp.seq (Wp.seq (Wp.text ?_))))
        refine kp 47 (.int IntKind.i64 0) ?_
        refine kp 48 (.bool false) ?_
        refine WpOps.nil (thenK_at (off' (Wp.skip (thenK_at (Wp.text ?_)))))
        refine kp 49 (.slice none 0 0) ?_
        refine kp 50 (.iface 24 (Value.iface (List.length q) (Value.iface 0 (Value.agg (List.toArray (cellsG q)))))) ?_
        refine cg 51 (.slice (some ⟨1, 0, none⟩) (List.length q) (List.length q)) (Heap.alloc (heapOf ([Blk.mk 52 true [Value.iface 3 (Value.iface (List.length (Gr.fr g)) (Value.iface (Gr.fx g) (Value.agg (List.toArray (List.map (fun n => Value.int .i64 n) (Gr.fr g)))))), Value.iface 3 (Value.iface (List.length (Gr.to g)) (Value.iface (Gr.tx g) (Value.agg (List.toArray (List.map (fun n => Value.int .i64 n) (Gr.to g)))))), Value.int .i64 (Gr.number g), Value.int .i64 (Gr.life g), Value.int .i64 (Gr.at' g), Value.int .i64 (Gr.total g), Value.int .i64 (Gr.report g), Value.bool (Gr.more g), Value.bool (Gr.may g), Value.bool (Gr.wants g), Value.string (Gr.data g), Value.int .i64 size, Value.int .i64 less, Value.iface 3 (Value.iface (List.length o) (Value.iface x (Value.agg (List.toArray (List.map (fun n => Value.int .i64 n) o)))))]] ++ [])) (Blk.mk 24 true (Array.toList (List.toArray (cellsG q))))) ?_ (hop := fun _ => o_append0 (e := 24) _ q1 q2)
        refine kp 6 (.slice (some ⟨1, 0, none⟩) (List.length q) (List.length q)) ?_
        refine WpOps.nil (blockK_norm (thenK_at (Wp.text ?_)))
        refine kp 35 (.int IntKind.i64 (↑k : Int)) ?_
        refine kp 36 (.int IntKind.i64 (IntKind.wrap .i64 ((↑k : Int) + 1))) ?_
        refine kp 7 (.int IntKind.i64 (IntKind.wrap .i64 ((↑k : Int) + 1))) ?_
        refine WpOps.nil (thenK_at ?_)
        refine ⟨k + 1, by omega, ⟨by omega, hall2⟩, ?_⟩
        try dsimp only
        rw [hn, oV_own q4, oB_own q4]
        exact View.of [0, 1] [⟨52, true, caseC g size less x o⟩, ⟨24, true, cellsG q⟩] _ (by decide) rfl ⟨⟨_, by kernel_rfl, CellsOk.eq rfl (by kernel_rfl)⟩, ⟨_, by kernel_rfl, CellsOk.eq rfl (cellsG_flat _)⟩, trivial⟩ ⟨⟨by kernel_rfl, rfl⟩, ⟨by kernel_rfl, rfl⟩, ⟨by kernel_rfl, rfl⟩, ⟨congrArg (Value.int .i64) (wr _ (by omega) (by omega)), rfl⟩, trivial⟩
      · rw [oV_own h0, oB_own h0]
        have q1 : ¬ (A.length + q.length ≤ A.length) := by omega
        have q2 : 1 ≤ 112 ∧ (A.length + q.length) * 112 ≤ 140737488355328 ∧ 11 = 11 ∧ A.length + q.length ≤ 9223372036854775807 := by omega
        have q3 := cells_own A
        refine Wp.seq (Wp.seq (Wp.text ?_))
        refine kp 31 (.int IntKind.i64 (↑k : Int)) ?_
        refine kp 32 (.iface 24 (Value.iface (List.length l) (Value.iface 0 (Value.agg (List.toArray (cellsG l)))))) ?_
        refine kp 33 (.int IntKind.i64 (↑(List.length l) : Int)) ?_
        refine kp 34 (.bool true) ?_ (hop := fun _ => by_fact e1)
        refine WpOps.nil (thenK_at (on' (Wp.skip (thenK_at (Wp.seq (Wp.block (Wp.seq ?_)))))))
        refine Wp.region (by kernel_rfl) ?_
        refine kp 38 (.iface 24 (Value.iface (List.length l) (Value.iface 0 (Value.agg (List.toArray (cellsG l)))))) ?_
        refine kp 39 (.int IntKind.i64 (↑k : Int)) ?_
        refine kp 40 (.iface 24 (Value.iface (Int.toNat (↑k : Int) * 11) (Value.agg (List.toArray (cellsG l))))) ?_ (hop := fun _ => o_indexI (e := 24) (size := 11) (a := (↑k : Int)) g1)
        refine kp 41 (.agg (List.toArray (gc l[k]))) ?_ (hop := fun _ => o_loadIA (Int.toNat (↑k : Int) * 11) v1)
        refine kp 42 (.pointer (some ⟨0, 12, none⟩)) ?_
        refine kp 43 (.int IntKind.i64 less) ?_
        refine fr 44 14 [Value.agg (List.toArray (gc l[k])), Value.int .i64 less] ?_
        refine WpFun.of (c2) ?_
        refine kp 37 (.tuple #[FS 24 (List.length q) 0 (List.toArray (cellsG q)), Value.int .i64 0]) ?_
        refine kp 45 (.iface 24 (Value.iface (List.length q) (Value.iface 0 (Value.agg (List.toArray (cellsG q)))))) ?_
        refine kp 46 (.int IntKind.i64 0) ?_
        refine kp 8 (.iface 24 (Value.iface (List.length q) (Value.iface 0 (Value.agg (List.toArray (cellsG q)))))) ?_
        refine kp 9 (.int IntKind.i64 0) ?_
        refine WpOps.nil (thenK_at (Wp.seq (Wp.seq (Wp.text ?_))))
        refine kp 47 (.int IntKind.i64 0) ?_
        refine kp 48 (.bool false) ?_
        refine WpOps.nil (thenK_at (off' (Wp.skip (thenK_at (Wp.text ?_)))))
        refine kp 49 (.slice (some ⟨1, 0, none⟩) (List.length A) (List.length A)) ?_
        refine kp 50 (.iface 24 (Value.iface (List.length q) (Value.iface 0 (Value.agg (List.toArray (cellsG q)))))) ?_
        refine cg 51 (.slice (some ⟨2, 0, none⟩) (List.length A + List.length q) (List.length A + List.length q)) (Heap.alloc (Heap.set (heapOf ([Blk.mk 52 true [Value.iface 3 (Value.iface (List.length (Gr.fr g)) (Value.iface (Gr.fx g) (Value.agg (List.toArray (List.map (fun n => Value.int .i64 n) (Gr.fr g)))))), Value.iface 3 (Value.iface (List.length (Gr.to g)) (Value.iface (Gr.tx g) (Value.agg (List.toArray (List.map (fun n => Value.int .i64 n) (Gr.to g)))))), Value.int .i64 (Gr.number g), Value.int .i64 (Gr.life g), Value.int .i64 (Gr.at' g), Value.int .i64 (Gr.total g), Value.int .i64 (Gr.report g), Value.bool (Gr.more g), Value.bool (Gr.may g), Value.bool (Gr.wants g), Value.string (Gr.data g), Value.int .i64 size, Value.int .i64 less, Value.iface 3 (Value.iface (List.length o) (Value.iface x (Value.agg (List.toArray (List.map (fun n => Value.int .i64 n) o)))))]] ++ [Blk.mk 24 true (cellsG A)])) 1 none) (Blk.mk 24 true (cellsG A ++ Array.toList (List.toArray (cellsG q))))) ?_ (hop := fun _ => o_append (e := 24) (1) (0) (List.length A) _ (List.length A) q1 q2 q3)
        refine kp 6 (.slice (some ⟨2, 0, none⟩) (List.length A + List.length q) (List.length A + List.length q)) ?_
        refine WpOps.nil (blockK_norm (thenK_at (Wp.text ?_)))
        refine kp 35 (.int IntKind.i64 (↑k : Int)) ?_
        refine kp 36 (.int IntKind.i64 (IntKind.wrap .i64 ((↑k : Int) + 1))) ?_
        refine kp 7 (.int IntKind.i64 (IntKind.wrap .i64 ((↑k : Int) + 1))) ?_
        refine WpOps.nil (thenK_at ?_)
        refine ⟨k + 1, by omega, ⟨by omega, hall2⟩, ?_⟩
        try dsimp only
        rw [hn]
        rw [oV_own (show ¬ (A ++ q).length = 0 by rw [List.length_append]; omega), oB_own (show ¬ (A ++ q).length = 0 by rw [List.length_append]; omega)]
        have hz : (A ++ q).length = A.length + q.length := List.length_append
        rw [hz]
        exact View.of [0, 2] [⟨52, true, caseC g size less x o⟩, ⟨24, true, cellsG (A ++ q)⟩] _ (by decide) rfl ⟨⟨_, by kernel_rfl, CellsOk.eq rfl (by kernel_rfl)⟩, ⟨_, by kernel_rfl, CellsOk.eq (cells_app A q) (cellsG_flat _)⟩, trivial⟩ ⟨⟨by kernel_rfl, rfl⟩, ⟨by kernel_rfl, rfl⟩, ⟨by kernel_rfl, rfl⟩, ⟨congrArg (Value.int .i64) (wr _ (by omega) (by omega)), rfl⟩, trivial⟩
  · obtain rfl : k = l.length := by omega
    have e1 : decide ((l.length : Int) < l.length) = false := decide_eq_false (by omega)
    rw [List.take_length]
    have hc : cut2 l less = some (acc l less) := by
      unfold cut2
      rw [if_pos]
      rw [List.all_eq_true]
      intro p hp
      obtain ⟨j, hj, rfl⟩ := List.getElem_of_mem hp
      exact hall j hj hj
    rw [hc]
    unfold pcsV
    have hpos : ¬ (acc l less).length = 0 := by
      have h0 := hall 0 hl1 hl1
      cases e : cutAll l[0] less with
      | none =>
        rw [e] at h0
        cases h0
      | some q =>
        have hq := (cutAll_some (okl _ (List.getElem_mem hl1)) e).1
        have h2 := acc_next hl1 e
        have h3 : (acc (l.take 1) less).length ≤ (acc l less).length := by
          conv => rhs; rw [← List.take_append_drop 1 l]
          unfold acc
          rw [List.map_append, List.flatten_append, List.length_append]
          omega
        rw [show (0 : Nat) + 1 = 1 from rfl] at h2
        rw [h2, List.length_append] at h3
        omega
    generalize acc l less = A at hpos ⊢
    rw [oV_own hpos, oB_own hpos]
    unfold grams
    refine Wp.seq (Wp.seq (Wp.text ?_))
    refine kp 31 (.int IntKind.i64 (↑(List.length l) : Int)) ?_
    refine kp 32 (.iface 24 (Value.iface (List.length l) (Value.iface 0 (Value.agg (List.toArray (cellsG l)))))) ?_
    refine kp 33 (.int IntKind.i64 (↑(List.length l) : Int)) ?_
    refine kp 34 (.bool false) ?_ (hop := fun _ => by_fact e1)
    refine WpOps.nil (thenK_at (off' (Wp.exit (thenK_exit (thenK_exit (blockK_hit (thenK_at (Wp.seq (Wp.text ?_)))))))))
    refine kp 52 (.slice (some ⟨1, 0, none⟩) (List.length A) (List.length A)) ?_
    refine kp 53 (.slice (some ⟨1, 0, none⟩) (List.length A) (List.length A)) ?_
    refine kp 54 (.int IntKind.i64 (↑(List.length A) : Int)) ?_
    refine kp 55 (.bool (decide ((↑(List.length A) : Int) ≤ 200))) ?_
    refine kp 2 (.slice (some ⟨1, 0, none⟩) (List.length A) (List.length A)) ?_
    refine kp 3 (.bool (decide ((↑(List.length A) : Int) ≤ 200))) ?_
    refine WpOps.nil (thenK_at (Wp.ret ?_))
    refine endK_retn [Value.slice (some (Addr.mk 1 0 none)) (List.length A) (List.length A), Value.bool (decide ((↑(List.length A) : Int) ≤ 200))] (Value.tuple #[Value.slice (some (Addr.mk 1 0 none)) (List.length A) (List.length A), Value.bool (decide ((↑(List.length A) : Int) ≤ 200))]) (by kernel_rfl) (by kernel_rfl) ?_
    have hr := iceC_row (E := E) (hp := heapOf ([⟨52, true, caseC g size less x o⟩] ++ [⟨24, true, cellsG A⟩])) (b := 1) (n := A.length) (c := A.length) 3 types24 rfl (cellsG_len A).symm (cellsG_flat _)
    exact ice_pair hr rfl
theorem pieces29 (g : Gr) (ok : OkGr g) (size less : Int) (x : Nat) (o : List Int) : Fun E 29 [caseV g size less x o] (pcsV (pcsOf g size less)) := by
  unfold pcsOf
  cases h : cutAll g size with
  | none => exact pieces29_none g ok size less x o h
  | some l =>
    by_cases h2 : (g.at' == 0) = true ∧ g.more = false
    · show Fun E 29 [caseV g size less x o] (pcsV (if (g.at' == 0) = true ∧ g.more = false then cut2 l less else none))
      rw [if_pos h2]
      exact pieces29_ok g ok size less x o l h h2.1 h2.2
    · show Fun E 29 [caseV g size less x o] (pcsV (if (g.at' == 0) = true ∧ g.more = false then cut2 l less else none))
      rw [if_neg h2]
      exact pieces29_no g ok size less x o l h h2
/-- A store of one. -/
theorem f30 : E.funcs 30 = some Try.f30 := by kernel_rfl
theorem new30 : Lent E 30 [.int .i64 1, .int .i64 60] [] (.tuple #[.pointer (some ⟨0, 0, none⟩), .int .i64 0]) [⟨66, true, [.int .i64 1, .int .i64 60, .slice none 0 0]⟩] := by
  refine Lent.of f30 rfl (of_decide_eq_true (by kernel_rfl)) rfl rfl (Nat.zero_le _) rfl (by kernel_rfl) (by kernel_rfl) ?_
  have c1 := in44 1 1 20
  have c2 := in44 60 1 60
  rw [show inR 1 1 20 = true from rfl] at c1
  rw [show inR 60 1 60 = true from rfl] at c2
  refine Wp.seq (Wp.text ?_)
  refine kp 4 (.pointer none) ?_
  refine kp 5 (.int IntKind.i64 0) ?_
  refine WpOps.nil (thenK_at (Wp.seq (Wp.seq (Wp.text ?_))))
  refine kp 6 (.int IntKind.i64 1) ?_
  refine fr 7 44 [Value.int .i64 1, Value.int .i64 1, Value.int .i64 20] ?_
  refine WpFun.of (c1) ?_
  refine kp 8 (.bool false) ?_
  refine kp 9 (.bool false) ?_
  refine kp 10 (.int IntKind.i64 60) ?_
  refine fr 11 44 [Value.int .i64 60, Value.int .i64 1, Value.int .i64 60] ?_
  refine WpFun.of (c2) ?_
  refine kp 12 (.bool false) ?_
  refine kp 13 (.bool false) ?_
  refine WpOps.nil (thenK_at (off' (Wp.skip (thenK_at (Wp.seq (Wp.text ?_))))))
  refine kp 14 (.int IntKind.i64 1) ?_
  refine kp 15 (.int IntKind.i64 60) ?_
  refine kp 16 (.agg #[Value.int .i64 1, Value.int .i64 60, Value.slice none 0 0]) ?_
  refine md 17 (.pointer (some ⟨0, 0, none⟩)) (Blk.mk 66 true [Value.int .i64 1, Value.int .i64 60, Value.slice none 0 0]) ?_
  refine kp 4 (.pointer (some ⟨0, 0, none⟩)) ?_
  refine kp 5 (.int IntKind.i64 0) ?_
  refine WpOps.nil (thenK_at (Wp.ret ?_))
  refine endK_retn [Value.pointer (some (Addr.mk 0 0 none)), Value.int IntKind.i64 0] (Value.tuple #[Value.pointer (some (Addr.mk 0 0 none)), Value.int IntKind.i64 0]) (by kernel_rfl) (by kernel_rfl) ?_
  exact ⟨[0], by decide, by kernel_rfl, ⟨⟨[.int .i64 1, .int .i64 60, .slice none 0 0], by kernel_rfl, toldC_flat rfl⟩, trivial⟩, .tuple _ _ rfl rfl (.cons (.un rfl rfl) (.cons (.un rfl rfl) .nil))⟩
/-- Copy, in memory of one's own. -/
theorem copy31L (x : Nat) (l : List Int) (hl : l.length ≤ 17592186044416) : Lent E 31 [sl x l] [] (.slice (some ⟨0, 0, none⟩) l.length l.length) [⟨3, true, l.map fun n => Value.int .i64 n⟩] := by
  have hf : (l.map fun n => Value.int .i64 n).all flat = true := List.all_eq_true.2 (sl_flat l)
  refine Lent.of f31 rfl (of_decide_eq_true (by kernel_rfl)) rfl rfl (Nat.zero_le _) (by kernel_rfl) ?_ (by kernel_rfl) ?_
  · simp only [List.all_cons, List.all_nil, okCs_flat hf, Bool.and_true]
  rcases Nat.eq_zero_or_pos l.length with h0 | h0
  · obtain rfl := List.eq_nil_of_length_eq_zero h0
    unfold sl
    refine Wp.seq (Wp.text ?_)
    refine kp 2 (.slice none 0 0) ?_
    refine WpOps.nil (thenK_at (Wp.seq (Wp.text ?_)))
    refine md 3 (.slice (some ⟨0, 0, none⟩) 0 0) (Blk.mk 3 true []) ?_
    refine kp 4 (.iface 3 (Value.iface 0 (Value.iface x (Value.agg #[])))) ?_
    refine kp 5 (.slice (some ⟨0, 0, none⟩) 0 0) ?_
    refine kp 2 (.slice (some ⟨0, 0, none⟩) 0 0) ?_
    refine WpOps.nil (thenK_at (Wp.ret ?_))
    refine endK_retn [Value.slice (some (Addr.mk 0 0 none)) 0 0] (Value.slice (some (Addr.mk 0 0 none)) 0 0) (by kernel_rfl) (by kernel_rfl) ?_
    exact ⟨[0], by decide, by kernel_rfl, ⟨⟨[], by kernel_rfl, .nil⟩, trivial⟩, .w (.un rfl rfl)⟩
  · have h1 : ¬ (0 + l.length ≤ 0) := by omega
    have h2 : 1 ≤ 8 ∧ (0 + l.length) * 8 ≤ 140737488355328 ∧ 1 = 1 ∧ 0 + l.length ≤ 9223372036854775807 := by omega
    have h3 : l.length ≠ 0 := by omega
    have hz : 0 + l.length = l.length := Nat.zero_add _
    unfold sl
    refine Wp.seq (Wp.text ?_)
    refine kp 2 (.slice none 0 0) ?_
    refine WpOps.nil (thenK_at (Wp.seq (Wp.text ?_)))
    refine md 3 (.slice (some ⟨0, 0, none⟩) 0 0) (Blk.mk 3 true []) ?_
    refine kp 4 (.iface 3 (Value.iface (List.length l) (Value.iface x (Value.agg (List.toArray (List.map (fun n => Value.int .i64 n) l)))))) ?_
    refine ra 5 (.slice (some ⟨1, 0, none⟩) (0 + List.length l) (0 + List.length l)) (0) (Blk.mk 3 true ([] ++ Array.toList (List.toArray (List.map (fun n => Value.int .i64 n) l)))) ?_ (hop := fun _ => o_append (e := 3) (0) (0) (0) _ (0) h1 h2)
    refine kp 2 (.slice (some ⟨1, 0, none⟩) (0 + List.length l) (0 + List.length l)) ?_
    refine WpOps.nil (thenK_at (Wp.ret ?_))
    refine endK_retn [Value.slice (some (Addr.mk 1 0 none)) (0 + List.length l) (0 + List.length l)] (Value.slice (some (Addr.mk 1 0 none)) (0 + List.length l) (0 + List.length l)) (by kernel_rfl) (by kernel_rfl) ?_
    rw [hz]
    exact ⟨[1], by simp, by kernel_rfl, ⟨⟨_, by kernel_rfl, toldC_flat hf⟩, trivial⟩, .w (.un rfl rfl)⟩
end Go.Proofs.Ytpkkcpglbjbgfaa.D
