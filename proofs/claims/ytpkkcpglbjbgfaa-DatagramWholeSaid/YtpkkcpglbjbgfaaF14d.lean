/- Copies of rows and of datagrams. -/
import Derived.Test.YtpkkcpglbjbgfaaFwLem
import Derived.Test.YtpkkcpglbjbgfaaF14c
namespace Go.Proofs.Ytpkkcpglbjbgfaa.D
open Go.Fw Go.RowKit

theorem f81 : E.funcs 81 = some Try.f81 := by kernel_rfl
theorem f31 : E.funcs 31 = some Try.f31 := by kernel_rfl
def nx (x : Nat) : Nat := if x = 2 then 2 else 0
theorem sl_flat (l : List Int) : ∀ v ∈ (l.map fun n => Value.int .i64 n), flat v = true := fun v hv => by
  obtain ⟨n, _, rfl⟩ := List.mem_map.1 hv
  rfl
theorem ice_ints (h : Heap) (m : Nat) (l : List Int) : mapO (iceC E h m) (l.map fun n => Value.int .i64 n) = some (l.map fun n => Value.int .i64 n) := mapO_id fun v hv => flat_ice (sl_flat l v hv) m
theorem types3 : (E.types 3).map (fun i => (i.size, i.desc)) = some (1, .int .i64) := by kernel_rfl
theorem E3 : ∃ ti, E.types 3 = some ti := by
  obtain ⟨ti, h, _⟩ := Option.map_eq_some_iff.1 types3
  exact ⟨ti, h⟩

/-- A row of one's own of ints, as a value. -/
theorem ice_row {hp : Heap} {b n c : Nat} (l : List Int) (hn : n = l.length) (hb : hp.get b = some ⟨3, true, l.map fun n => Value.int .i64 n⟩) : iceV E hp (.slice (some ⟨b, 0, none⟩) n c) = some (sl 0 l) := by
  subst hn
  obtain ⟨ti, h1, h2⟩ := Option.map_eq_some_iff.1 types3
  have h3 : ti.size = 1 := congrArg Prod.fst h2
  have hc : cellsAt (l.map fun n => Value.int .i64 n) 0 (l.length * 1) = some (l.map fun n => Value.int .i64 n) := by
    have : (l.map fun n => Value.int .i64 n).length = l.length := List.length_map _
    simp only [cellsAt, Nat.zero_add, Nat.mul_one, this, Nat.le_refl, if_true, List.drop_zero]
    rw [List.take_of_length_le (by rw [this]; exact Nat.le_refl _)]
  show iceC E hp 4 _ = _
  unfold iceC
  simp only [hb, h1, h3, hc, ice_ints]
  rfl

theorem copy31 (x : Nat) (l : List Int) (hl : l.length ≤ 17592186044416) : Fun E 31 [sl x l] (sl 0 l) := by
  refine Fun.of f31 rfl (of_decide_eq_true (by kernel_rfl)) rfl ?_
  rcases Nat.eq_zero_or_pos l.length with h0 | h0
  · obtain rfl := List.eq_nil_of_length_eq_zero h0
    refine Wp.seq (Wp.text ?_)
    refine kp 2 (.slice none 0 0) ?_
    refine WpOps.nil (thenK_at (Wp.seq (Wp.text ?_)))
    refine md 3 (.slice (some ⟨0, 0, none⟩) 0 0) (Blk.mk 3 true []) ?_
    refine kp 4 (.iface 3 (Value.iface 0 (Value.iface x (Value.agg #[])))) ?_
    refine kp 5 (.slice (some ⟨0, 0, none⟩) 0 0) ?_
    refine kp 2 (.slice (some ⟨0, 0, none⟩) 0 0) ?_
    refine WpOps.nil (thenK_at (Wp.ret ?_))
    refine endK_retn [Value.slice (some (Addr.mk 0 0 none)) 0 0] (Value.slice (some (Addr.mk 0 0 none)) 0 0) (by kernel_rfl) (by kernel_rfl) ?_
    kernel_rfl
  · have h1 : ¬ (0 + l.length ≤ 0) := by omega
    have h2 : 1 ≤ 8 ∧ (0 + l.length) * 8 ≤ 140737488355328 ∧ 1 = 1 ∧ 0 + l.length ≤ 9223372036854775807 := by omega
    refine Wp.seq (Wp.text ?_)
    refine kp 2 (.slice none 0 0) ?_
    refine WpOps.nil (thenK_at (Wp.seq (Wp.text ?_)))
    refine md 3 (.slice (some ⟨0, 0, none⟩) 0 0) (Blk.mk 3 true []) ?_
    refine kp 4 (.iface 3 (Value.iface (List.length l) (Value.iface x (Value.agg (List.toArray (List.map (fun n => Value.int .i64 n) l)))))) ?_
    refine ra 5 (.slice (some ⟨1, 0, none⟩) (0 + List.length l) (0 + List.length l)) (0) (Blk.mk 3 true ([] ++ Array.toList (List.toArray (List.map (fun n => Value.int .i64 n) l)))) ?_ (hop := fun _ => o_append (e := 3) (0) (0) (0) _ (0) h1 h2)
    refine kp 2 (.slice (some ⟨1, 0, none⟩) (0 + List.length l) (0 + List.length l)) ?_
    refine WpOps.nil (thenK_at (Wp.ret ?_))
    refine endK_retn [Value.slice (some (Addr.mk 1 0 none)) (0 + List.length l) (0 + List.length l)] (Value.slice (some (Addr.mk 1 0 none)) (0 + List.length l) (0 + List.length l)) (by kernel_rfl) (by kernel_rfl) ?_
    exact ice_row l (Nat.zero_add _) (by kernel_rfl)

theorem clone81 (x : Nat) (l : List Int) (hx : x = 2 → l = []) (hl : l.length ≤ 17592186044416) : Fun E 81 [sl x l] (sl (nx x) l) := by
  refine Fun.ofN f81 rfl (of_decide_eq_true (by kernel_rfl)) rfl ?_
  refine Wp.seq (Wp.text ?_)
  refine kp 2 (.slice none 0 0) ?_
  refine WpOps.nil (thenK_at (Wp.seq (Wp.seq (Wp.text ?_))))
  refine kp 3 (.iface 3 (Value.iface (List.length l) (Value.iface x (Value.agg (List.toArray (List.map (fun n => Value.int .i64 n) l)))))) ?_
  refine kp 4 (.bool (x == 2)) ?_
  refine WpOps.nil (thenK_at ?_)
  refine Wp.split (x == 2) (by kernel_rfl) (fun hc => ?_) (fun hc => ?_)
  · have hx2 : x = 2 := by simpa using hc
    obtain rfl := hx hx2
    refine Wp.seq (Wp.text ?_)
    refine kp 2 (.slice none 0 0) ?_
    refine WpOps.nil (thenK_at (Wp.ret (thenK_ret ?_)))
    refine endK_retn [Value.slice none 0 0] (Value.slice none 0 0) (by kernel_rfl) (by kernel_rfl) ?_
    obtain ⟨ti, ht⟩ := E3
    refine ⟨_, by kernel_rfl, .w (.c (.inr ⟨rfl, 3, ti, ht, ?_⟩))⟩
    rw [hx2]
    rfl
  · have hx2 : nx x = 0 := by
      have : x ≠ 2 := by simpa using hc
      simp only [nx, this, if_false]
    rw [hx2]
    rcases Nat.eq_zero_or_pos l.length with h0 | h0
    · obtain rfl := List.eq_nil_of_length_eq_zero h0
      refine Wp.skip (thenK_at (Wp.seq (Wp.text ?_)))
      refine md 5 (.slice (some ⟨0, 0, none⟩) 0 0) (Blk.mk 3 true []) ?_
      refine kp 6 (.iface 3 (Value.iface 0 (Value.iface x (Value.agg #[])))) ?_
      refine kp 7 (.slice (some ⟨0, 0, none⟩) 0 0) ?_
      refine kp 2 (.slice (some ⟨0, 0, none⟩) 0 0) ?_
      refine WpOps.nil (thenK_at (Wp.ret ?_))
      refine endK_retn [Value.slice (some (Addr.mk 0 0 none)) 0 0] (Value.slice (some (Addr.mk 0 0 none)) 0 0) (by kernel_rfl) (by kernel_rfl) ?_
      exact ⟨_, by kernel_rfl, .w (.c (.inl rfl))⟩
    · have h1 : ¬ (0 + l.length ≤ 0) := by omega
      have h2 : 1 ≤ 8 ∧ (0 + l.length) * 8 ≤ 140737488355328 ∧ 1 = 1 ∧ 0 + l.length ≤ 9223372036854775807 := by omega
      refine Wp.skip (thenK_at (Wp.seq (Wp.text ?_)))
      refine md 5 (.slice (some ⟨0, 0, none⟩) 0 0) (Blk.mk 3 true []) ?_
      refine kp 6 (.iface 3 (Value.iface (List.length l) (Value.iface x (Value.agg (List.toArray (List.map (fun n => Value.int .i64 n) l)))))) ?_
      refine ra 7 (.slice (some ⟨1, 0, none⟩) (0 + List.length l) (0 + List.length l)) (0) (Blk.mk 3 true ([] ++ Array.toList (List.toArray (List.map (fun n => Value.int .i64 n) l)))) ?_ (hop := fun _ => o_append (e := 3) (0) (0) (0) _ (0) h1 h2)
      refine kp 2 (.slice (some ⟨1, 0, none⟩) (0 + List.length l) (0 + List.length l)) ?_
      refine WpOps.nil (thenK_at (Wp.ret ?_))
      refine endK_retn [Value.slice (some (Addr.mk 1 0 none)) (0 + List.length l) (0 + List.length l)] (Value.slice (some (Addr.mk 1 0 none)) (0 + List.length l) (0 + List.length l)) (by kernel_rfl) (by kernel_rfl) ?_
      exact ⟨_, ice_row l (Nat.zero_add _) (by kernel_rfl), .w (.c (.inl rfl))⟩

/-- Its rows are told well. -/
structure OkGr (g : Gr) : Prop where
  fx : g.fx = 2 → g.fr = []
  tx : g.tx = 2 → g.to = []
  fl : g.fr.length ≤ 17592186044416
  tl : g.to.length ≤ 17592186044416

theorem f64 : E.funcs 64 = some Try.f64 := by kernel_rfl
theorem own64 (g : Gr) (ok : OkGr g) : Fun E 64 [gv g] (gv { g with fx := nx g.fx, tx := nx g.tx }) := by
  refine Fun.of f64 rfl (of_decide_eq_true (by kernel_rfl)) (by kernel_rfl) ?_
  have c1 := clone81 g.fx g.fr ok.fx ok.fl
  have c2 := clone81 g.tx g.to ok.tx ok.tl
  refine Wp.seq (Wp.text ?_)
  refine md 1 (.pointer (some ⟨0, 0, none⟩)) (Blk.mk 24 true (gc g)) ?_
  refine md 2 (.pointer (some ⟨1, 0, none⟩)) (Blk.mk 24 true [Value.slice none 0 0, Value.slice none 0 0, Value.int .i64 0, Value.int .i64 0, Value.int .i64 0, Value.int .i64 0, Value.int .i64 0, Value.bool false, Value.bool false, Value.bool false, Value.string (ByteArray.mk #[])]) ?_
  refine WpOps.nil (thenK_at (Wp.seq ?_))
  refine Wp.region (by kernel_rfl) ?_
  refine kp 3 (.pointer (some ⟨0, 0, none⟩)) ?_
  refine kp 4 (.iface 3 (Value.iface (List.length (Gr.fr g)) (Value.iface (Gr.fx g) (Value.agg (List.toArray (List.map (fun n => Value.int .i64 n) (Gr.fr g))))))) ?_
  refine fr 5 81 [Value.iface 3 (Value.iface (List.length (Gr.fr g)) (Value.iface (Gr.fx g) (Value.agg (List.toArray (List.map (fun n => Value.int .i64 n) (Gr.fr g))))))] ?_
  refine WpFun.of (c1) ?_
  refine kp 6 (.pointer (some ⟨0, 1, none⟩)) ?_
  refine kp 7 (.iface 3 (Value.iface (List.length (Gr.to g)) (Value.iface (Gr.tx g) (Value.agg (List.toArray (List.map (fun n => Value.int .i64 n) (Gr.to g))))))) ?_
  refine fr 8 81 [Value.iface 3 (Value.iface (List.length (Gr.to g)) (Value.iface (Gr.tx g) (Value.agg (List.toArray (List.map (fun n => Value.int .i64 n) (Gr.to g))))))] ?_
  refine WpFun.of (c2) ?_
  refine kp 9 (.pointer (some ⟨0, 0, none⟩)) ?_
  refine ld (.tuple #[]) (0) (Blk.mk 24 true [Value.iface 3 (Value.iface (List.length (Gr.fr g)) (Value.iface (nx (Gr.fx g)) (Value.agg (List.toArray (List.map (fun n => Value.int .i64 n) (Gr.fr g)))))), Value.iface 3 (Value.iface (List.length (Gr.to g)) (Value.iface (Gr.tx g) (Value.agg (List.toArray (List.map (fun n => Value.int .i64 n) (Gr.to g)))))), Value.int .i64 (Gr.number g), Value.int .i64 (Gr.life g), Value.int .i64 (Gr.at' g), Value.int .i64 (Gr.total g), Value.int .i64 (Gr.report g), Value.bool (Gr.more g), Value.bool (Gr.may g), Value.bool (Gr.wants g), Value.string (Gr.data g)]) ?_
  refine kp 10 (.pointer (some ⟨0, 1, none⟩)) ?_
  refine ld (.tuple #[]) (0) (Blk.mk 24 true [Value.iface 3 (Value.iface (List.length (Gr.fr g)) (Value.iface (nx (Gr.fx g)) (Value.agg (List.toArray (List.map (fun n => Value.int .i64 n) (Gr.fr g)))))), Value.iface 3 (Value.iface (List.length (Gr.to g)) (Value.iface (nx (Gr.tx g)) (Value.agg (List.toArray (List.map (fun n => Value.int .i64 n) (Gr.to g)))))), Value.int .i64 (Gr.number g), Value.int .i64 (Gr.life g), Value.int .i64 (Gr.at' g), Value.int .i64 (Gr.total g), Value.int .i64 (Gr.report g), Value.bool (Gr.more g), Value.bool (Gr.may g), Value.bool (Gr.wants g), Value.string (Gr.data g)]) ?_
  refine WpOps.nil (thenK_at (Wp.seq (Wp.text ?_)))
  refine kp 11 (.agg #[Value.iface 3 (Value.iface (List.length (Gr.fr g)) (Value.iface (nx (Gr.fx g)) (Value.agg (List.toArray (List.map (fun n => Value.int .i64 n) (Gr.fr g)))))), Value.iface 3 (Value.iface (List.length (Gr.to g)) (Value.iface (nx (Gr.tx g)) (Value.agg (List.toArray (List.map (fun n => Value.int .i64 n) (Gr.to g)))))), Value.int .i64 (Gr.number g), Value.int .i64 (Gr.life g), Value.int .i64 (Gr.at' g), Value.int .i64 (Gr.total g), Value.int .i64 (Gr.report g), Value.bool (Gr.more g), Value.bool (Gr.may g), Value.bool (Gr.wants g), Value.string (Gr.data g)]) ?_
  refine ld (.tuple #[]) (1) (Blk.mk 24 true [Value.iface 3 (Value.iface (List.length (Gr.fr g)) (Value.iface (nx (Gr.fx g)) (Value.agg (List.toArray (List.map (fun n => Value.int .i64 n) (Gr.fr g)))))), Value.iface 3 (Value.iface (List.length (Gr.to g)) (Value.iface (nx (Gr.tx g)) (Value.agg (List.toArray (List.map (fun n => Value.int .i64 n) (Gr.to g)))))), Value.int .i64 (Gr.number g), Value.int .i64 (Gr.life g), Value.int .i64 (Gr.at' g), Value.int .i64 (Gr.total g), Value.int .i64 (Gr.report g), Value.bool (Gr.more g), Value.bool (Gr.may g), Value.bool (Gr.wants g), Value.string (Gr.data g)]) ?_
  refine WpOps.nil (thenK_at (Wp.ret ?_))
  refine endK_retn [Value.agg #[Value.iface 3 (Value.iface (List.length (Gr.fr g)) (Value.iface (nx (Gr.fx g)) (Value.agg (List.toArray (List.map (fun n => Value.int IntKind.i64 n) (Gr.fr g)))))), Value.iface 3 (Value.iface (List.length (Gr.to g)) (Value.iface (nx (Gr.tx g)) (Value.agg (List.toArray (List.map (fun n => Value.int IntKind.i64 n) (Gr.to g)))))), Value.int IntKind.i64 (Gr.number g), Value.int IntKind.i64 (Gr.life g), Value.int IntKind.i64 (Gr.at' g), Value.int IntKind.i64 (Gr.total g), Value.int IntKind.i64 (Gr.report g), Value.bool (Gr.more g), Value.bool (Gr.may g), Value.bool (Gr.wants g), Value.string (Gr.data g)]] (Value.agg #[Value.iface 3 (Value.iface (List.length (Gr.fr g)) (Value.iface (nx (Gr.fx g)) (Value.agg (List.toArray (List.map (fun n => Value.int IntKind.i64 n) (Gr.fr g)))))), Value.iface 3 (Value.iface (List.length (Gr.to g)) (Value.iface (nx (Gr.tx g)) (Value.agg (List.toArray (List.map (fun n => Value.int IntKind.i64 n) (Gr.to g)))))), Value.int IntKind.i64 (Gr.number g), Value.int IntKind.i64 (Gr.life g), Value.int IntKind.i64 (Gr.at' g), Value.int IntKind.i64 (Gr.total g), Value.int IntKind.i64 (Gr.report g), Value.bool (Gr.more g), Value.bool (Gr.may g), Value.bool (Gr.wants g), Value.string (Gr.data g)]) (by kernel_rfl) (by kernel_rfl) ?_
  kernel_rfl
theorem wr (z : Int) (h0 : 0 ≤ z) (h1 : z ≤ 9223372036854775807) : IntKind.i64.wrap z = z := wrap_i64 z h0 h1
theorem okG_size {g : Gr} (h : okG g = true) : g.data.size ≤ 4000 := by
  simp only [okG, Bool.and_eq_true, decide_eq_true_eq] at h
  obtain ⟨⟨⟨⟨_, h1⟩, h2⟩, h3⟩, _⟩ := h
  have i1 := h1
  have i2 := h2
  simp only [inR, Bool.cond_false_right, Bool.and_eq_true, decide_eq_true_eq] at i1 i2
  rw [wr _ (by omega) (by omega)] at h3
  omega

def cellsG (l : List Gr) : List Value := l.flatMap gc
theorem cellsG_len (l : List Gr) : (cellsG l).length = l.length * 11 := by
  induction l with
  | nil => rfl
  | cons g r ih => simp only [cellsG, List.flatMap_cons, List.length_append, List.length_cons] at ih ⊢; rw [ih]; simp only [gc, List.length_cons, List.length_nil]; omega
theorem gc_flat (g : Gr) : (gc g).all flat = true := rfl
theorem cellsG_flat (l : List Gr) : (cellsG l).all flat = true := by
  rw [List.all_eq_true]
  intro v hv
  obtain ⟨g, _, hg⟩ := List.mem_flatMap.1 hv
  exact List.all_eq_true.1 (gc_flat g) v hg
theorem types24 : (E.types 24).map TI.size = some 11 := by kernel_rfl
theorem types32 : (E.types 32).map TI.size = some 11 := by kernel_rfl
theorem ice_pair {hp : Heap} {b n c : Nat} {o : Nat} {v u w : Value} (h1 : iceC E hp 4 (.slice (some ⟨b, o, none⟩) n c) = some u) (h2 : iceW E hp v = some w) : iceV E hp (.tuple #[.slice (some ⟨b, o, none⟩) n c, v]) = some (.tuple #[u, w]) := by
  have h3 : iceW E hp (.slice (some ⟨b, o, none⟩) n c) = some u := h1
  simp only [iceV, mapO, h3, h2, Option.map_some]
def grams (e : TypeId) (l : List Gr) : Value := FS e l.length 0 (cellsG l).toArray
end Go.Proofs.Ytpkkcpglbjbgfaa.D
