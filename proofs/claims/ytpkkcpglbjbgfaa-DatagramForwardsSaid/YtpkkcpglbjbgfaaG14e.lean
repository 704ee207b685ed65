/- Forwarding: datagram.Forward. -/
import Derived.Test.YtpkkcpglbjbgfaaFwLem
import Derived.Test.YtpkkcpglbjbgfaaG14d
namespace Go.Proofs.Ytpkkcpglbjbgfaa.D
open Go.Fw Go.RowKit

theorem repV_w (t x : Nat) (me : List Int) (g : Gr) (k : Int) : iceW E Heap.none (repV t x me g k) = some (repV t x me g k) := rfl
theorem fwd_ice (t x : Nat) (me : List Int) (l : List En) (ls : List Ln) (g : Gr) : iceV E Heap.none (fwV (fwAll t x me l ls g)) = some (fwV (fwAll t x me l ls g)) := by
  have key : ∀ (a b : Value) (n k : Int), iceW E Heap.none a = some a → iceW E Heap.none b = some b → iceV E Heap.none (fwV ⟨a, n, b, k⟩) = some (fwV ⟨a, n, b, k⟩) := fun a b n k ha hb => by
    show (mapO _ [a, .int .i64 n, b, .int .i64 k]).map _ = _
    simp only [mapO, ha, hb]
    rfl
  unfold fwAll
  split
  · unfold fwd
    split
    · exact key _ _ _ _ rfl (repV_w ..)
    · split
      · exact key _ _ _ _ rfl (repV_w ..)
      · split
        · exact key _ _ _ _ rfl rfl
        · split
          · exact key _ _ _ _ rfl (repV_w ..)
          · exact key _ _ _ _ rfl rfl
  · exact key _ _ _ _ rfl rfl
theorem row_enOk {l : List En} {i : Nat} (hi : i < l.length) (h : tblOk l = true) : enOk (l.getD i zE) = true := by
  unfold tblOk at h
  simp only [Bool.and_eq_true, decide_eq_true_eq, List.all_eq_true, List.mem_range] at h
  have := h.2 i hi
  unfold rowOk at this
  simp only [Bool.and_eq_true] at this
  exact this.1
theorem found_ok {l : List En} {a : List Int} {e : En} (ht : tblOk l = true) (h : found l a = some e) : 0 ≤ e.to ∧ e.to ≤ 999 ∧ e ∈ l := by
  unfold found at h
  split at h
  · cases h
  · rename_i hz
    obtain rfl := Option.some.inj h
    have hb := best_in l a l.length
    have hi : (bestAt l a l.length).toNat < l.length := by omega
    have := row_enOk hi ht
    unfold enOk at this
    simp only [Bool.and_eq_true, decide_eq_true_eq] at this
    refine ⟨this.1.2, this.2, ?_⟩
    rw [List.getD_eq_getElem?_getD, List.getElem?_eq_getElem hi]
    exact List.getElem_mem hi
theorem line_ok {ls : List Ln} (h : ls.any badL = false) {i : Nat} (hi : i < ls.length) : 1 ≤ (ls.getD i ⟨0, 0⟩).size ∧ (ls.getD i ⟨0, 0⟩).size ≤ 4000 := by
  rw [List.getD_eq_getElem?_getD, List.getElem?_eq_getElem hi]
  rw [List.any_eq_false] at h
  have := h _ (List.getElem_mem hi)
  unfold badL inR at this
  rcases hx : decide (1 ≤ ls[i].size) with _ | _
  · rw [hx] at this; exact absurd rfl this
  · rw [hx, cond_true, Bool.not_eq_true, Bool.not_eq_false'] at this
    exact ⟨of_decide_eq_true hx, of_decide_eq_true this⟩
theorem ok_life {g : Gr} (og : OkGr g) : OkGr (lifeDown g) := ⟨og.fx, og.tx, og.fl, og.tl⟩
theorem f36 : E.funcs 36 = some Try.f36 := by kernel_rfl
section
variable (x xt xl : Nat) (me : List Int) (l : List En) (ls : List Ln) (g : Gr) (hm : me.length ≤ 17592186044416) (hxt : xt = 0 ∨ (xt = 2 ∧ l = [])) (ok : ∀ e ∈ l, OkEn e) (og : OkGr g) (hls : ls.length ≤ 17592186044416)
include hm hxt ok og hls
theorem forward36_bad (h : okF me l ls g = false) : Fun E 36 [sl x me, ents 98 xt l, lns 76 xl ls, gv g] (fwV ⟨nilV, 0, nilV, 1⟩) := by
  refine Fun.of f36 rfl (of_decide_eq_true (by kernel_rfl)) rfl ?_
  have c1 := valid49 x me (by omega)
  have c2 := contains71 xl ls (by omega)
  have c3 := valid20 g (by have := og.fl; omega) (by have := og.tl; omega)
  unfold okF at h
  cases h1 : isAddr me with
  | false =>
    rw [h1] at c1
    refine Wp.seq ?_
    refine Wp.text ?_
    refine WpOps.made 7 (Value.pointer (some (Addr.mk 0 0 none))) (Blk.mk 24 true [Value.iface 3 (Value.iface (List.length (Gr.fr g)) (Value.iface (Gr.fx g) (Value.agg (List.toArray (List.map (fun n => Value.int IntKind.i64 n) (Gr.fr g)))))), Value.iface 3 (Value.iface (List.length (Gr.to g)) (Value.iface (Gr.tx g) (Value.agg (List.toArray (List.map (fun n => Value.int IntKind.i64 n) (Gr.to g)))))), Value.int IntKind.i64 (Gr.number g), Value.int IntKind.i64 (Gr.life g), Value.int IntKind.i64 (Gr.at' g), Value.int IntKind.i64 (Gr.total g), Value.int IntKind.i64 (Gr.report g), Value.bool (Gr.more g), Value.bool (Gr.may g), Value.bool (Gr.wants g), Value.string (Gr.data g)]) (by kernel_rfl) (by kernel_rfl) (by kernel_rfl) ?_ (fun cf => (by kernel_rfl))
    refine WpOps.keep 8 (Value.slice none 0 0) (by kernel_rfl) (by kernel_rfl) (by kernel_rfl) ?_ (fun cf => (by kernel_rfl))
    refine WpOps.keep 9 (Value.int IntKind.i64 0) (by kernel_rfl) (by kernel_rfl) (by kernel_rfl) ?_ (fun cf => (by kernel_rfl))
    refine WpOps.keep 10 (Value.slice none 0 0) (by kernel_rfl) (by kernel_rfl) (by kernel_rfl) ?_ (fun cf => (by kernel_rfl))
    refine WpOps.keep 11 (Value.int IntKind.i64 0) (by kernel_rfl) (by kernel_rfl) (by kernel_rfl) ?_ (fun cf => (by kernel_rfl))
    refine WpOps.nil ?_
    refine thenK_at ?_
    refine Wp.seq ?_
    refine Wp.seq ?_
    refine Wp.text ?_
    refine WpOps.keep 16 (Value.iface 3 (Value.iface (List.length me) (Value.iface x (Value.agg (List.toArray (List.map (fun n => Value.int IntKind.i64 n) me)))))) (by kernel_rfl) (by kernel_rfl) (by kernel_rfl) ?_ (fun cf => (by kernel_rfl))
    refine WpOps.framed 17 49 [Value.iface 3 (Value.iface (List.length me) (Value.iface x (Value.agg (List.toArray (List.map (fun n => Value.int IntKind.i64 n) me)))))] (by kernel_rfl) (by kernel_rfl) (by kernel_rfl) (by kernel_rfl) (by kernel_rfl) (fun cf => (by kernel_rfl)) ?_
    refine WpFun.of (c1) ?_
    refine WpOps.keep 18 (Value.bool true) (by kernel_rfl) (by kernel_rfl) (by kernel_rfl) ?_ (fun cf => (by kernel_rfl))
    refine WpOps.keep 19 (Value.bool true) (by kernel_rfl) (by kernel_rfl) (by kernel_rfl) ?_ (fun cf => (by kernel_rfl))
    refine WpOps.unmet 20 (by kernel_rfl) (by kernel_rfl) (by kernel_rfl) ?_
    refine WpOps.unmet 21 (by kernel_rfl) (by kernel_rfl) (by kernel_rfl) ?_
    refine WpOps.keep 22 (Value.bool true) (by kernel_rfl) (by kernel_rfl) (by kernel_rfl) ?_ (fun cf => (by kernel_rfl))
    refine WpOps.keep 23 (Value.bool true) (by kernel_rfl) (by kernel_rfl) (by kernel_rfl) ?_ (fun cf => (by kernel_rfl))
    refine WpOps.unmet 24 (by kernel_rfl) (by kernel_rfl) (by kernel_rfl) ?_
    refine WpOps.unmet 25 (by kernel_rfl) (by kernel_rfl) (by kernel_rfl) ?_
    refine WpOps.unmet 26 (by kernel_rfl) (by kernel_rfl) (by kernel_rfl) ?_
    refine WpOps.keep 27 (Value.bool true) (by kernel_rfl) (by kernel_rfl) (by kernel_rfl) ?_ (fun cf => (by kernel_rfl))
    refine WpOps.nil ?_
    refine thenK_at ?_
    refine Wp.on (by kernel_rfl) ?_
    refine Wp.seq ?_
    refine Wp.text ?_
    refine WpOps.keep 8 (Value.slice none 0 0) (by kernel_rfl) (by kernel_rfl) (by kernel_rfl) ?_ (fun cf => (by kernel_rfl))
    refine WpOps.keep 9 (Value.int IntKind.i64 0) (by kernel_rfl) (by kernel_rfl) (by kernel_rfl) ?_ (fun cf => (by kernel_rfl))
    refine WpOps.keep 10 (Value.slice none 0 0) (by kernel_rfl) (by kernel_rfl) (by kernel_rfl) ?_ (fun cf => (by kernel_rfl))
    refine WpOps.keep 11 (Value.int IntKind.i64 1) (by kernel_rfl) (by kernel_rfl) (by kernel_rfl) ?_ (fun cf => (by kernel_rfl))
    refine WpOps.nil ?_
    refine thenK_at ?_
    refine Wp.ret ?_
    refine thenK_ret ?_
    refine endK_retn [Value.slice none 0 0, Value.int IntKind.i64 0, Value.slice none 0 0, Value.int IntKind.i64 1] (Value.tuple #[Value.slice none 0 0, Value.int IntKind.i64 0, Value.slice none 0 0, Value.int IntKind.i64 1]) (by kernel_rfl) (by kernel_rfl) ?_
    kernel_rfl
  | true =>
    rw [h1] at c1
    cases h2 : ls.any badL with
    | true =>
      rw [h2] at c2
      refine Wp.seq ?_
      refine Wp.text ?_
      refine WpOps.made 7 (Value.pointer (some (Addr.mk 0 0 none))) (Blk.mk 24 true [Value.iface 3 (Value.iface (List.length (Gr.fr g)) (Value.iface (Gr.fx g) (Value.agg (List.toArray (List.map (fun n => Value.int IntKind.i64 n) (Gr.fr g)))))), Value.iface 3 (Value.iface (List.length (Gr.to g)) (Value.iface (Gr.tx g) (Value.agg (List.toArray (List.map (fun n => Value.int IntKind.i64 n) (Gr.to g)))))), Value.int IntKind.i64 (Gr.number g), Value.int IntKind.i64 (Gr.life g), Value.int IntKind.i64 (Gr.at' g), Value.int IntKind.i64 (Gr.total g), Value.int IntKind.i64 (Gr.report g), Value.bool (Gr.more g), Value.bool (Gr.may g), Value.bool (Gr.wants g), Value.string (Gr.data g)]) (by kernel_rfl) (by kernel_rfl) (by kernel_rfl) ?_ (fun cf => (by kernel_rfl))
      refine WpOps.keep 8 (Value.slice none 0 0) (by kernel_rfl) (by kernel_rfl) (by kernel_rfl) ?_ (fun cf => (by kernel_rfl))
      refine WpOps.keep 9 (Value.int IntKind.i64 0) (by kernel_rfl) (by kernel_rfl) (by kernel_rfl) ?_ (fun cf => (by kernel_rfl))
      refine WpOps.keep 10 (Value.slice none 0 0) (by kernel_rfl) (by kernel_rfl) (by kernel_rfl) ?_ (fun cf => (by kernel_rfl))
      refine WpOps.keep 11 (Value.int IntKind.i64 0) (by kernel_rfl) (by kernel_rfl) (by kernel_rfl) ?_ (fun cf => (by kernel_rfl))
      refine WpOps.nil ?_
      refine thenK_at ?_
      refine Wp.seq ?_
      refine Wp.seq ?_
      refine Wp.text ?_
      refine WpOps.keep 16 (Value.iface 3 (Value.iface (List.length me) (Value.iface x (Value.agg (List.toArray (List.map (fun n => Value.int IntKind.i64 n) me)))))) (by kernel_rfl) (by kernel_rfl) (by kernel_rfl) ?_ (fun cf => (by kernel_rfl))
      refine WpOps.framed 17 49 [Value.iface 3 (Value.iface (List.length me) (Value.iface x (Value.agg (List.toArray (List.map (fun n => Value.int IntKind.i64 n) me)))))] (by kernel_rfl) (by kernel_rfl) (by kernel_rfl) (by kernel_rfl) (by kernel_rfl) (fun cf => (by kernel_rfl)) ?_
      refine WpFun.of (c1) ?_
      refine WpOps.keep 18 (Value.bool false) (by kernel_rfl) (by kernel_rfl) (by kernel_rfl) ?_ (fun cf => (by kernel_rfl))
      refine WpOps.keep 19 (Value.bool false) (by kernel_rfl) (by kernel_rfl) (by kernel_rfl) ?_ (fun cf => (by kernel_rfl))
      refine WpOps.keep 20 (Value.iface 76 (Value.iface (List.length ls) (Value.iface xl (Value.agg (List.toArray (List.flatMap lc ls)))))) (by kernel_rfl) (by kernel_rfl) (by kernel_rfl) ?_ (fun cf => (by kernel_rfl))
      refine WpOps.framed 21 71 [Value.iface 76 (Value.iface (List.length ls) (Value.iface xl (Value.agg (List.toArray (List.flatMap lc ls))))), Value.func (Fn.func 72) #[] #[]] (by kernel_rfl) (by kernel_rfl) (by kernel_rfl) (by kernel_rfl) (by kernel_rfl) (fun cf => (by kernel_rfl)) ?_
      refine WpFun.of (c2) ?_
      refine WpOps.keep 22 (Value.bool true) (by kernel_rfl) (by kernel_rfl) (by kernel_rfl) ?_ (fun cf => (by kernel_rfl))
      refine WpOps.keep 23 (Value.bool true) (by kernel_rfl) (by kernel_rfl) (by kernel_rfl) ?_ (fun cf => (by kernel_rfl))
      refine WpOps.unmet 24 (by kernel_rfl) (by kernel_rfl) (by kernel_rfl) ?_
      refine WpOps.unmet 25 (by kernel_rfl) (by kernel_rfl) (by kernel_rfl) ?_
      refine WpOps.unmet 26 (by kernel_rfl) (by kernel_rfl) (by kernel_rfl) ?_
      refine WpOps.keep 27 (Value.bool true) (by kernel_rfl) (by kernel_rfl) (by kernel_rfl) ?_ (fun cf => (by kernel_rfl))
      refine WpOps.nil ?_
      refine thenK_at ?_
      refine Wp.on (by kernel_rfl) ?_
      refine Wp.seq ?_
      refine Wp.text ?_
      refine WpOps.keep 8 (Value.slice none 0 0) (by kernel_rfl) (by kernel_rfl) (by kernel_rfl) ?_ (fun cf => (by kernel_rfl))
      refine WpOps.keep 9 (Value.int IntKind.i64 0) (by kernel_rfl) (by kernel_rfl) (by kernel_rfl) ?_ (fun cf => (by kernel_rfl))
      refine WpOps.keep 10 (Value.slice none 0 0) (by kernel_rfl) (by kernel_rfl) (by kernel_rfl) ?_ (fun cf => (by kernel_rfl))
      refine WpOps.keep 11 (Value.int IntKind.i64 1) (by kernel_rfl) (by kernel_rfl) (by kernel_rfl) ?_ (fun cf => (by kernel_rfl))
      refine WpOps.nil ?_
      refine thenK_at ?_
      refine Wp.ret ?_
      refine thenK_ret ?_
      refine endK_retn [Value.slice none 0 0, Value.int IntKind.i64 0, Value.slice none 0 0, Value.int IntKind.i64 1] (Value.tuple #[Value.slice none 0 0, Value.int IntKind.i64 0, Value.slice none 0 0, Value.int IntKind.i64 1]) (by kernel_rfl) (by kernel_rfl) ?_
      kernel_rfl
    | false =>
      rw [h2] at c2
      cases h3 : okG g with
      | false =>
        rw [h3] at c3
        refine Wp.seq ?_
        refine Wp.text ?_
        refine WpOps.made 7 (Value.pointer (some (Addr.mk 0 0 none))) (Blk.mk 24 true [Value.iface 3 (Value.iface (List.length (Gr.fr g)) (Value.iface (Gr.fx g) (Value.agg (List.toArray (List.map (fun n => Value.int IntKind.i64 n) (Gr.fr g)))))), Value.iface 3 (Value.iface (List.length (Gr.to g)) (Value.iface (Gr.tx g) (Value.agg (List.toArray (List.map (fun n => Value.int IntKind.i64 n) (Gr.to g)))))), Value.int IntKind.i64 (Gr.number g), Value.int IntKind.i64 (Gr.life g), Value.int IntKind.i64 (Gr.at' g), Value.int IntKind.i64 (Gr.total g), Value.int IntKind.i64 (Gr.report g), Value.bool (Gr.more g), Value.bool (Gr.may g), Value.bool (Gr.wants g), Value.string (Gr.data g)]) (by kernel_rfl) (by kernel_rfl) (by kernel_rfl) ?_ (fun cf => (by kernel_rfl))
        refine WpOps.keep 8 (Value.slice none 0 0) (by kernel_rfl) (by kernel_rfl) (by kernel_rfl) ?_ (fun cf => (by kernel_rfl))
        refine WpOps.keep 9 (Value.int IntKind.i64 0) (by kernel_rfl) (by kernel_rfl) (by kernel_rfl) ?_ (fun cf => (by kernel_rfl))
        refine WpOps.keep 10 (Value.slice none 0 0) (by kernel_rfl) (by kernel_rfl) (by kernel_rfl) ?_ (fun cf => (by kernel_rfl))
        refine WpOps.keep 11 (Value.int IntKind.i64 0) (by kernel_rfl) (by kernel_rfl) (by kernel_rfl) ?_ (fun cf => (by kernel_rfl))
        refine WpOps.nil ?_
        refine thenK_at ?_
        refine Wp.seq ?_
        refine Wp.seq ?_
        refine Wp.text ?_
        refine WpOps.keep 16 (Value.iface 3 (Value.iface (List.length me) (Value.iface x (Value.agg (List.toArray (List.map (fun n => Value.int IntKind.i64 n) me)))))) (by kernel_rfl) (by kernel_rfl) (by kernel_rfl) ?_ (fun cf => (by kernel_rfl))
        refine WpOps.framed 17 49 [Value.iface 3 (Value.iface (List.length me) (Value.iface x (Value.agg (List.toArray (List.map (fun n => Value.int IntKind.i64 n) me)))))] (by kernel_rfl) (by kernel_rfl) (by kernel_rfl) (by kernel_rfl) (by kernel_rfl) (fun cf => (by kernel_rfl)) ?_
        refine WpFun.of (c1) ?_
        refine WpOps.keep 18 (Value.bool false) (by kernel_rfl) (by kernel_rfl) (by kernel_rfl) ?_ (fun cf => (by kernel_rfl))
        refine WpOps.keep 19 (Value.bool false) (by kernel_rfl) (by kernel_rfl) (by kernel_rfl) ?_ (fun cf => (by kernel_rfl))
        refine WpOps.keep 20 (Value.iface 76 (Value.iface (List.length ls) (Value.iface xl (Value.agg (List.toArray (List.flatMap lc ls)))))) (by kernel_rfl) (by kernel_rfl) (by kernel_rfl) ?_ (fun cf => (by kernel_rfl))
        refine WpOps.framed 21 71 [Value.iface 76 (Value.iface (List.length ls) (Value.iface xl (Value.agg (List.toArray (List.flatMap lc ls))))), Value.func (Fn.func 72) #[] #[]] (by kernel_rfl) (by kernel_rfl) (by kernel_rfl) (by kernel_rfl) (by kernel_rfl) (fun cf => (by kernel_rfl)) ?_
        refine WpFun.of (c2) ?_
        refine WpOps.keep 22 (Value.bool false) (by kernel_rfl) (by kernel_rfl) (by kernel_rfl) ?_ (fun cf => (by kernel_rfl))
        refine WpOps.keep 23 (Value.bool false) (by kernel_rfl) (by kernel_rfl) (by kernel_rfl) ?_ (fun cf => (by kernel_rfl))
        refine WpOps.keep 24 (Value.agg #[Value.iface 3 (Value.iface (List.length (Gr.fr g)) (Value.iface (Gr.fx g) (Value.agg (List.toArray (List.map (fun n => Value.int IntKind.i64 n) (Gr.fr g)))))), Value.iface 3 (Value.iface (List.length (Gr.to g)) (Value.iface (Gr.tx g) (Value.agg (List.toArray (List.map (fun n => Value.int IntKind.i64 n) (Gr.to g)))))), Value.int IntKind.i64 (Gr.number g), Value.int IntKind.i64 (Gr.life g), Value.int IntKind.i64 (Gr.at' g), Value.int IntKind.i64 (Gr.total g), Value.int IntKind.i64 (Gr.report g), Value.bool (Gr.more g), Value.bool (Gr.may g), Value.bool (Gr.wants g), Value.string (Gr.data g)]) (by kernel_rfl) (by kernel_rfl) (by kernel_rfl) ?_ (fun cf => (by kernel_rfl))
        refine WpOps.framed 25 20 [Value.agg #[Value.iface 3 (Value.iface (List.length (Gr.fr g)) (Value.iface (Gr.fx g) (Value.agg (List.toArray (List.map (fun n => Value.int IntKind.i64 n) (Gr.fr g)))))), Value.iface 3 (Value.iface (List.length (Gr.to g)) (Value.iface (Gr.tx g) (Value.agg (List.toArray (List.map (fun n => Value.int IntKind.i64 n) (Gr.to g)))))), Value.int IntKind.i64 (Gr.number g), Value.int IntKind.i64 (Gr.life g), Value.int IntKind.i64 (Gr.at' g), Value.int IntKind.i64 (Gr.total g), Value.int IntKind.i64 (Gr.report g), Value.bool (Gr.more g), Value.bool (Gr.may g), Value.bool (Gr.wants g), Value.string (Gr.data g)]] (by kernel_rfl) (by kernel_rfl) (by kernel_rfl) (by kernel_rfl) (by kernel_rfl) (fun cf => (by kernel_rfl)) ?_
        refine WpFun.of (c3) ?_
        refine WpOps.keep 26 (Value.bool true) (by kernel_rfl) (by kernel_rfl) (by kernel_rfl) ?_ (fun cf => (by kernel_rfl))
        refine WpOps.keep 27 (Value.bool true) (by kernel_rfl) (by kernel_rfl) (by kernel_rfl) ?_ (fun cf => (by kernel_rfl))
        refine WpOps.nil ?_
        refine thenK_at ?_
        refine Wp.on (by kernel_rfl) ?_
        refine Wp.seq ?_
        refine Wp.text ?_
        refine WpOps.keep 8 (Value.slice none 0 0) (by kernel_rfl) (by kernel_rfl) (by kernel_rfl) ?_ (fun cf => (by kernel_rfl))
        refine WpOps.keep 9 (Value.int IntKind.i64 0) (by kernel_rfl) (by kernel_rfl) (by kernel_rfl) ?_ (fun cf => (by kernel_rfl))
        refine WpOps.keep 10 (Value.slice none 0 0) (by kernel_rfl) (by kernel_rfl) (by kernel_rfl) ?_ (fun cf => (by kernel_rfl))
        refine WpOps.keep 11 (Value.int IntKind.i64 1) (by kernel_rfl) (by kernel_rfl) (by kernel_rfl) ?_ (fun cf => (by kernel_rfl))
        refine WpOps.nil ?_
        refine thenK_at ?_
        refine Wp.ret ?_
        refine thenK_ret ?_
        refine endK_retn [Value.slice none 0 0, Value.int IntKind.i64 0, Value.slice none 0 0, Value.int IntKind.i64 1] (Value.tuple #[Value.slice none 0 0, Value.int IntKind.i64 0, Value.slice none 0 0, Value.int IntKind.i64 1]) (by kernel_rfl) (by kernel_rfl) ?_
        kernel_rfl
      | true =>
        rw [h3] at c3
        have h4 : tblOk l = false := by rw [h1, h2, h3] at h; simpa using h
        have ha : isAddr g.to = true := by
          unfold okG at h3
          simp only [Bool.and_eq_true] at h3
          exact h3.1.1.1.1.1.1.1.1.2
        have c4 := find73 xt g.tx l g.to hxt ok ha (by have := og.tl; omega)
        rw [findV, if_neg (by rw [h4]; decide)] at c4
        refine Wp.seq ?_
        refine Wp.text ?_
        refine WpOps.made 7 (Value.pointer (some (Addr.mk 0 0 none))) (Blk.mk 24 true [Value.iface 3 (Value.iface (List.length (Gr.fr g)) (Value.iface (Gr.fx g) (Value.agg (List.toArray (List.map (fun n => Value.int IntKind.i64 n) (Gr.fr g)))))), Value.iface 3 (Value.iface (List.length (Gr.to g)) (Value.iface (Gr.tx g) (Value.agg (List.toArray (List.map (fun n => Value.int IntKind.i64 n) (Gr.to g)))))), Value.int IntKind.i64 (Gr.number g), Value.int IntKind.i64 (Gr.life g), Value.int IntKind.i64 (Gr.at' g), Value.int IntKind.i64 (Gr.total g), Value.int IntKind.i64 (Gr.report g), Value.bool (Gr.more g), Value.bool (Gr.may g), Value.bool (Gr.wants g), Value.string (Gr.data g)]) (by kernel_rfl) (by kernel_rfl) (by kernel_rfl) ?_ (fun cf => (by kernel_rfl))
        refine WpOps.keep 8 (Value.slice none 0 0) (by kernel_rfl) (by kernel_rfl) (by kernel_rfl) ?_ (fun cf => (by kernel_rfl))
        refine WpOps.keep 9 (Value.int IntKind.i64 0) (by kernel_rfl) (by kernel_rfl) (by kernel_rfl) ?_ (fun cf => (by kernel_rfl))
        refine WpOps.keep 10 (Value.slice none 0 0) (by kernel_rfl) (by kernel_rfl) (by kernel_rfl) ?_ (fun cf => (by kernel_rfl))
        refine WpOps.keep 11 (Value.int IntKind.i64 0) (by kernel_rfl) (by kernel_rfl) (by kernel_rfl) ?_ (fun cf => (by kernel_rfl))
        refine WpOps.nil ?_
        refine thenK_at ?_
        refine Wp.seq ?_
        refine Wp.seq ?_
        refine Wp.text ?_
        refine WpOps.keep 16 (Value.iface 3 (Value.iface (List.length me) (Value.iface x (Value.agg (List.toArray (List.map (fun n => Value.int IntKind.i64 n) me)))))) (by kernel_rfl) (by kernel_rfl) (by kernel_rfl) ?_ (fun cf => (by kernel_rfl))
        refine WpOps.framed 17 49 [Value.iface 3 (Value.iface (List.length me) (Value.iface x (Value.agg (List.toArray (List.map (fun n => Value.int IntKind.i64 n) me)))))] (by kernel_rfl) (by kernel_rfl) (by kernel_rfl) (by kernel_rfl) (by kernel_rfl) (fun cf => (by kernel_rfl)) ?_
        refine WpFun.of (c1) ?_
        refine WpOps.keep 18 (Value.bool false) (by kernel_rfl) (by kernel_rfl) (by kernel_rfl) ?_ (fun cf => (by kernel_rfl))
        refine WpOps.keep 19 (Value.bool false) (by kernel_rfl) (by kernel_rfl) (by kernel_rfl) ?_ (fun cf => (by kernel_rfl))
        refine WpOps.keep 20 (Value.iface 76 (Value.iface (List.length ls) (Value.iface xl (Value.agg (List.toArray (List.flatMap lc ls)))))) (by kernel_rfl) (by kernel_rfl) (by kernel_rfl) ?_ (fun cf => (by kernel_rfl))
        refine WpOps.framed 21 71 [Value.iface 76 (Value.iface (List.length ls) (Value.iface xl (Value.agg (List.toArray (List.flatMap lc ls))))), Value.func (Fn.func 72) #[] #[]] (by kernel_rfl) (by kernel_rfl) (by kernel_rfl) (by kernel_rfl) (by kernel_rfl) (fun cf => (by kernel_rfl)) ?_
        refine WpFun.of (c2) ?_
        refine WpOps.keep 22 (Value.bool false) (by kernel_rfl) (by kernel_rfl) (by kernel_rfl) ?_ (fun cf => (by kernel_rfl))
        refine WpOps.keep 23 (Value.bool false) (by kernel_rfl) (by kernel_rfl) (by kernel_rfl) ?_ (fun cf => (by kernel_rfl))
        refine WpOps.keep 24 (Value.agg #[Value.iface 3 (Value.iface (List.length (Gr.fr g)) (Value.iface (Gr.fx g) (Value.agg (List.toArray (List.map (fun n => Value.int IntKind.i64 n) (Gr.fr g)))))), Value.iface 3 (Value.iface (List.length (Gr.to g)) (Value.iface (Gr.tx g) (Value.agg (List.toArray (List.map (fun n => Value.int IntKind.i64 n) (Gr.to g)))))), Value.int IntKind.i64 (Gr.number g), Value.int IntKind.i64 (Gr.life g), Value.int IntKind.i64 (Gr.at' g), Value.int IntKind.i64 (Gr.total g), Value.int IntKind.i64 (Gr.report g), Value.bool (Gr.more g), Value.bool (Gr.may g), Value.bool (Gr.wants g), Value.string (Gr.data g)]) (by kernel_rfl) (by kernel_rfl) (by kernel_rfl) ?_ (fun cf => (by kernel_rfl))
        refine WpOps.framed 25 20 [Value.agg #[Value.iface 3 (Value.iface (List.length (Gr.fr g)) (Value.iface (Gr.fx g) (Value.agg (List.toArray (List.map (fun n => Value.int IntKind.i64 n) (Gr.fr g)))))), Value.iface 3 (Value.iface (List.length (Gr.to g)) (Value.iface (Gr.tx g) (Value.agg (List.toArray (List.map (fun n => Value.int IntKind.i64 n) (Gr.to g)))))), Value.int IntKind.i64 (Gr.number g), Value.int IntKind.i64 (Gr.life g), Value.int IntKind.i64 (Gr.at' g), Value.int IntKind.i64 (Gr.total g), Value.int IntKind.i64 (Gr.report g), Value.bool (Gr.more g), Value.bool (Gr.may g), Value.bool (Gr.wants g), Value.string (Gr.data g)]] (by kernel_rfl) (by kernel_rfl) (by kernel_rfl) (by kernel_rfl) (by kernel_rfl) (fun cf => (by kernel_rfl)) ?_
        refine WpFun.of (c3) ?_
        refine WpOps.keep 26 (Value.bool false) (by kernel_rfl) (by kernel_rfl) (by kernel_rfl) ?_ (fun cf => (by kernel_rfl))
        refine WpOps.keep 27 (Value.bool false) (by kernel_rfl) (by kernel_rfl) (by kernel_rfl) ?_ (fun cf => (by kernel_rfl))
        refine WpOps.nil ?_
        refine thenK_at ?_
        refine Wp.off (by kernel_rfl) ?_
        refine Wp.skip ?_
        refine thenK_at ?_
        refine Wp.seq ?_
        refine Wp.text ?_
        refine WpOps.keep 29 (Value.iface 98 (Value.iface (List.length l) (Value.iface xt (Value.agg (List.toArray (List.flatMap ec l)))))) (by kernel_rfl) (by kernel_rfl) (by kernel_rfl) ?_ (fun cf => (by kernel_rfl))
        refine WpOps.keep 30 (Value.pointer (some (Addr.mk 0 1 none))) (by kernel_rfl) (by kernel_rfl) (by kernel_rfl) ?_ (fun cf => (by kernel_rfl))
        refine WpOps.keep 31 (Value.iface 3 (Value.iface (List.length (Gr.to g)) (Value.iface (Gr.tx g) (Value.agg (List.toArray (List.map (fun n => Value.int IntKind.i64 n) (Gr.to g))))))) (by kernel_rfl) (by kernel_rfl) (by kernel_rfl) ?_ (fun cf => (by kernel_rfl))
        refine WpOps.framed 32 73 [Value.iface 98 (Value.iface (List.length l) (Value.iface xt (Value.agg (List.toArray (List.flatMap ec l))))), Value.iface 3 (Value.iface (List.length (Gr.to g)) (Value.iface (Gr.tx g) (Value.agg (List.toArray (List.map (fun n => Value.int IntKind.i64 n) (Gr.to g))))))] (by kernel_rfl) (by kernel_rfl) (by kernel_rfl) (by kernel_rfl) (by kernel_rfl) (fun cf => (by kernel_rfl)) ?_
        refine WpFun.of (c4) ?_
        refine WpOps.keep 28 (Value.tuple #[Value.agg #[Value.slice none 0 0, Value.int IntKind.i64 0], Value.int IntKind.i64 1]) (by kernel_rfl) (by kernel_rfl) (by kernel_rfl) ?_ (fun cf => (by kernel_rfl))
        refine WpOps.keep 33 (Value.agg #[Value.slice none 0 0, Value.int IntKind.i64 0]) (by kernel_rfl) (by kernel_rfl) (by kernel_rfl) ?_ (fun cf => (by kernel_rfl))
        refine WpOps.keep 34 (Value.int IntKind.i64 1) (by kernel_rfl) (by kernel_rfl) (by kernel_rfl) ?_ (fun cf => (by kernel_rfl))
        refine WpOps.made 12 (Value.pointer (some (Addr.mk 1 0 none))) (Blk.mk 98 true [Value.slice none 0 0, Value.int IntKind.i64 0]) (by kernel_rfl) (by kernel_rfl) (by kernel_rfl) ?_ (fun cf => (by kernel_rfl))
        refine WpOps.laid (Value.tuple #[]) (1) (Blk.mk 98 true [Value.slice none 0 0, Value.int IntKind.i64 0]) (by kernel_rfl) (by kernel_rfl) (by kernel_rfl) ?_ (fun cf => (by kernel_rfl))
        refine WpOps.keep 13 (Value.int IntKind.i64 1) (by kernel_rfl) (by kernel_rfl) (by kernel_rfl) ?_ (fun cf => (by kernel_rfl))
        refine WpOps.nil ?_
        refine thenK_at ?_
        refine Wp.seq ?_
        refine Wp.seq ?_
        refine Wp.text ?_
        refine WpOps.keep 35 (Value.int IntKind.i64 1) (by kernel_rfl) (by kernel_rfl) (by kernel_rfl) ?_ (fun cf => (by kernel_rfl))
        refine WpOps.keep 36 (Value.bool true) (by kernel_rfl) (by kernel_rfl) (by kernel_rfl) ?_ (fun cf => (by kernel_rfl))
        refine WpOps.keep 37 (Value.bool true) (by kernel_rfl) (by kernel_rfl) (by kernel_rfl) ?_ (fun cf => (by kernel_rfl))
        refine WpOps.keep 38 (Value.int IntKind.i64 1) (by kernel_rfl) (by kernel_rfl) (by kernel_rfl) ?_ (fun cf => (by kernel_rfl))
        refine WpOps.keep 39 (Value.bool true) (by kernel_rfl) (by kernel_rfl) (by kernel_rfl) ?_ (fun cf => (by kernel_rfl))
        refine WpOps.keep 40 (Value.bool true) (by kernel_rfl) (by kernel_rfl) (by kernel_rfl) ?_ (fun cf => (by kernel_rfl))
        refine WpOps.nil ?_
        refine thenK_at ?_
        refine Wp.on (by kernel_rfl) ?_
        refine Wp.seq ?_
        refine Wp.text ?_
        refine WpOps.keep 41 (Value.int IntKind.i64 1) (by kernel_rfl) (by kernel_rfl) (by kernel_rfl) ?_ (fun cf => (by kernel_rfl))
        refine WpOps.keep 8 (Value.slice none 0 0) (by kernel_rfl) (by kernel_rfl) (by kernel_rfl) ?_ (fun cf => (by kernel_rfl))
        refine WpOps.keep 9 (Value.int IntKind.i64 0) (by kernel_rfl) (by kernel_rfl) (by kernel_rfl) ?_ (fun cf => (by kernel_rfl))
        refine WpOps.keep 10 (Value.slice none 0 0) (by kernel_rfl) (by kernel_rfl) (by kernel_rfl) ?_ (fun cf => (by kernel_rfl))
        refine WpOps.keep 11 (Value.int IntKind.i64 1) (by kernel_rfl) (by kernel_rfl) (by kernel_rfl) ?_ (fun cf => (by kernel_rfl))
        refine WpOps.nil ?_
        refine thenK_at ?_
        refine Wp.ret ?_
        refine thenK_ret ?_
        refine endK_retn [Value.slice none 0 0, Value.int IntKind.i64 0, Value.slice none 0 0, Value.int IntKind.i64 1] (Value.tuple #[Value.slice none 0 0, Value.int IntKind.i64 0, Value.slice none 0 0, Value.int IntKind.i64 1]) (by kernel_rfl) (by kernel_rfl) ?_
        kernel_rfl
theorem forward36_good (hx : x = 2 → me = []) (h : okF me l ls g = true) : Fun E 36 [sl x me, ents 98 xt l, lns 76 xl ls, gv g] (fwV (fwd 24 x me l ls g)) := by
  have hall : fwAll 24 x me l ls g = fwd 24 x me l ls g := if_pos h
  have hice := fwd_ice 24 x me l ls g
  rw [hall] at hice
  refine Fun.of f36 rfl (of_decide_eq_true (by kernel_rfl)) hice ?_
  have c1 := valid49 x me (by omega)
  have c2 := contains71 xl ls (by omega)
  have c3 := valid20 g (by have := og.fl; omega) (by have := og.tl; omega)
  unfold okF at h
  simp only [Bool.and_eq_true, Bool.not_eq_true'] at h
  obtain ⟨⟨⟨h1, h2⟩, h3⟩, h4⟩ := h
  rw [h1] at c1
  rw [h2] at c2
  rw [h3] at c3
  have hd := okG_size h3
  have ha : isAddr g.to = true := by
    unfold okG at h3
    simp only [Bool.and_eq_true] at h3
    exact h3.1.1.1.1.1.1.1.1.2
  have c4 := find73 xt g.tx l g.to hxt ok ha (by have := og.tl; omega)
  rw [findV, if_pos h4] at c4
  have d1 := reports68 x me g 1 hx hm og hd
  have d2 := reports68 x me g 2 hx hm og hd
  have d3 := reports68 x me (lifeDown g) 3 hx hm (ok_life og) hd
  have r3 : repV 24 x me (lifeDown g) 3 = repV 24 x me g 3 := rfl
  rw [r3] at d3
  unfold fwd
  rw [r3]
  unfold repV at d1 d2 d3 ⊢
  by_cases hl : g.life ≤ 1
  · have z1 : decide (g.life ≤ 1) = true := decide_eq_true hl
    rw [if_pos hl]
    cases hf : found l g.to with
    | none =>
      rw [hf] at c4
      refine Wp.seq ?_
      refine Wp.text ?_
      refine WpOps.made 7 (Value.pointer (some (Addr.mk 0 0 none))) (Blk.mk 24 true [Value.iface 3 (Value.iface (List.length (Gr.fr g)) (Value.iface (Gr.fx g) (Value.agg (List.toArray (List.map (fun n => Value.int IntKind.i64 n) (Gr.fr g)))))), Value.iface 3 (Value.iface (List.length (Gr.to g)) (Value.iface (Gr.tx g) (Value.agg (List.toArray (List.map (fun n => Value.int IntKind.i64 n) (Gr.to g)))))), Value.int IntKind.i64 (Gr.number g), Value.int IntKind.i64 (Gr.life g), Value.int IntKind.i64 (Gr.at' g), Value.int IntKind.i64 (Gr.total g), Value.int IntKind.i64 (Gr.report g), Value.bool (Gr.more g), Value.bool (Gr.may g), Value.bool (Gr.wants g), Value.string (Gr.data g)]) (by kernel_rfl) (by kernel_rfl) (by kernel_rfl) ?_ (fun cf => (by kernel_rfl))
      refine WpOps.keep 8 (Value.slice none 0 0) (by kernel_rfl) (by kernel_rfl) (by kernel_rfl) ?_ (fun cf => (by kernel_rfl))
      refine WpOps.keep 9 (Value.int IntKind.i64 0) (by kernel_rfl) (by kernel_rfl) (by kernel_rfl) ?_ (fun cf => (by kernel_rfl))
      refine WpOps.keep 10 (Value.slice none 0 0) (by kernel_rfl) (by kernel_rfl) (by kernel_rfl) ?_ (fun cf => (by kernel_rfl))
      refine WpOps.keep 11 (Value.int IntKind.i64 0) (by kernel_rfl) (by kernel_rfl) (by kernel_rfl) ?_ (fun cf => (by kernel_rfl))
      refine WpOps.nil ?_
      refine thenK_at ?_
      refine Wp.seq ?_
      refine Wp.seq ?_
      refine Wp.text ?_
      refine WpOps.keep 16 (Value.iface 3 (Value.iface (List.length me) (Value.iface x (Value.agg (List.toArray (List.map (fun n => Value.int IntKind.i64 n) me)))))) (by kernel_rfl) (by kernel_rfl) (by kernel_rfl) ?_ (fun cf => (by kernel_rfl))
      refine WpOps.framed 17 49 [Value.iface 3 (Value.iface (List.length me) (Value.iface x (Value.agg (List.toArray (List.map (fun n => Value.int IntKind.i64 n) me)))))] (by kernel_rfl) (by kernel_rfl) (by kernel_rfl) (by kernel_rfl) (by kernel_rfl) (fun cf => (by kernel_rfl)) ?_
      refine WpFun.of (c1) ?_
      refine WpOps.keep 18 (Value.bool false) (by kernel_rfl) (by kernel_rfl) (by kernel_rfl) ?_ (fun cf => (by kernel_rfl))
      refine WpOps.keep 19 (Value.bool false) (by kernel_rfl) (by kernel_rfl) (by kernel_rfl) ?_ (fun cf => (by kernel_rfl))
      refine WpOps.keep 20 (Value.iface 76 (Value.iface (List.length ls) (Value.iface xl (Value.agg (List.toArray (List.flatMap lc ls)))))) (by kernel_rfl) (by kernel_rfl) (by kernel_rfl) ?_ (fun cf => (by kernel_rfl))
      refine WpOps.framed 21 71 [Value.iface 76 (Value.iface (List.length ls) (Value.iface xl (Value.agg (List.toArray (List.flatMap lc ls))))), Value.func (Fn.func 72) #[] #[]] (by kernel_rfl) (by kernel_rfl) (by kernel_rfl) (by kernel_rfl) (by kernel_rfl) (fun cf => (by kernel_rfl)) ?_
      refine WpFun.of (c2) ?_
      refine WpOps.keep 22 (Value.bool false) (by kernel_rfl) (by kernel_rfl) (by kernel_rfl) ?_ (fun cf => (by kernel_rfl))
      refine WpOps.keep 23 (Value.bool false) (by kernel_rfl) (by kernel_rfl) (by kernel_rfl) ?_ (fun cf => (by kernel_rfl))
      refine WpOps.keep 24 (Value.agg #[Value.iface 3 (Value.iface (List.length (Gr.fr g)) (Value.iface (Gr.fx g) (Value.agg (List.toArray (List.map (fun n => Value.int IntKind.i64 n) (Gr.fr g)))))), Value.iface 3 (Value.iface (List.length (Gr.to g)) (Value.iface (Gr.tx g) (Value.agg (List.toArray (List.map (fun n => Value.int IntKind.i64 n) (Gr.to g)))))), Value.int IntKind.i64 (Gr.number g), Value.int IntKind.i64 (Gr.life g), Value.int IntKind.i64 (Gr.at' g), Value.int IntKind.i64 (Gr.total g), Value.int IntKind.i64 (Gr.report g), Value.bool (Gr.more g), Value.bool (Gr.may g), Value.bool (Gr.wants g), Value.string (Gr.data g)]) (by kernel_rfl) (by kernel_rfl) (by kernel_rfl) ?_ (fun cf => (by kernel_rfl))
      refine WpOps.framed 25 20 [Value.agg #[Value.iface 3 (Value.iface (List.length (Gr.fr g)) (Value.iface (Gr.fx g) (Value.agg (List.toArray (List.map (fun n => Value.int IntKind.i64 n) (Gr.fr g)))))), Value.iface 3 (Value.iface (List.length (Gr.to g)) (Value.iface (Gr.tx g) (Value.agg (List.toArray (List.map (fun n => Value.int IntKind.i64 n) (Gr.to g)))))), Value.int IntKind.i64 (Gr.number g), Value.int IntKind.i64 (Gr.life g), Value.int IntKind.i64 (Gr.at' g), Value.int IntKind.i64 (Gr.total g), Value.int IntKind.i64 (Gr.report g), Value.bool (Gr.more g), Value.bool (Gr.may g), Value.bool (Gr.wants g), Value.string (Gr.data g)]] (by kernel_rfl) (by kernel_rfl) (by kernel_rfl) (by kernel_rfl) (by kernel_rfl) (fun cf => (by kernel_rfl)) ?_
      refine WpFun.of (c3) ?_
      refine WpOps.keep 26 (Value.bool false) (by kernel_rfl) (by kernel_rfl) (by kernel_rfl) ?_ (fun cf => (by kernel_rfl))
      refine WpOps.keep 27 (Value.bool false) (by kernel_rfl) (by kernel_rfl) (by kernel_rfl) ?_ (fun cf => (by kernel_rfl))
      refine WpOps.nil ?_
      refine thenK_at ?_
      refine Wp.off (by kernel_rfl) ?_
      refine Wp.skip ?_
      refine thenK_at ?_
      refine Wp.seq ?_
      refine Wp.text ?_
      refine WpOps.keep 29 (Value.iface 98 (Value.iface (List.length l) (Value.iface xt (Value.agg (List.toArray (List.flatMap ec l)))))) (by kernel_rfl) (by kernel_rfl) (by kernel_rfl) ?_ (fun cf => (by kernel_rfl))
      refine WpOps.keep 30 (Value.pointer (some (Addr.mk 0 1 none))) (by kernel_rfl) (by kernel_rfl) (by kernel_rfl) ?_ (fun cf => (by kernel_rfl))
      refine WpOps.keep 31 (Value.iface 3 (Value.iface (List.length (Gr.to g)) (Value.iface (Gr.tx g) (Value.agg (List.toArray (List.map (fun n => Value.int IntKind.i64 n) (Gr.to g))))))) (by kernel_rfl) (by kernel_rfl) (by kernel_rfl) ?_ (fun cf => (by kernel_rfl))
      refine WpOps.framed 32 73 [Value.iface 98 (Value.iface (List.length l) (Value.iface xt (Value.agg (List.toArray (List.flatMap ec l))))), Value.iface 3 (Value.iface (List.length (Gr.to g)) (Value.iface (Gr.tx g) (Value.agg (List.toArray (List.map (fun n => Value.int IntKind.i64 n) (Gr.to g))))))] (by kernel_rfl) (by kernel_rfl) (by kernel_rfl) (by kernel_rfl) (by kernel_rfl) (fun cf => (by kernel_rfl)) ?_
      refine WpFun.of (c4) ?_
      refine WpOps.keep 28 (Value.tuple #[Value.agg #[Value.slice none 0 0, Value.int IntKind.i64 0], Value.int IntKind.i64 3]) (by kernel_rfl) (by kernel_rfl) (by kernel_rfl) ?_ (fun cf => (by kernel_rfl))
      refine WpOps.keep 33 (Value.agg #[Value.slice none 0 0, Value.int IntKind.i64 0]) (by kernel_rfl) (by kernel_rfl) (by kernel_rfl) ?_ (fun cf => (by kernel_rfl))
      refine WpOps.keep 34 (Value.int IntKind.i64 3) (by kernel_rfl) (by kernel_rfl) (by kernel_rfl) ?_ (fun cf => (by kernel_rfl))
      refine WpOps.made 12 (Value.pointer (some (Addr.mk 1 0 none))) (Blk.mk 98 true [Value.slice none 0 0, Value.int IntKind.i64 0]) (by kernel_rfl) (by kernel_rfl) (by kernel_rfl) ?_ (fun cf => (by kernel_rfl))
      refine WpOps.laid (Value.tuple #[]) (1) (Blk.mk 98 true [Value.slice none 0 0, Value.int IntKind.i64 0]) (by kernel_rfl) (by kernel_rfl) (by kernel_rfl) ?_ (fun cf => (by kernel_rfl))
      refine WpOps.keep 13 (Value.int IntKind.i64 3) (by kernel_rfl) (by kernel_rfl) (by kernel_rfl) ?_ (fun cf => (by kernel_rfl))
      refine WpOps.nil ?_
      refine thenK_at ?_
      refine Wp.seq ?_
      refine Wp.seq ?_
      refine Wp.text ?_
      refine WpOps.keep 35 (Value.int IntKind.i64 3) (by kernel_rfl) (by kernel_rfl) (by kernel_rfl) ?_ (fun cf => (by kernel_rfl))
      refine WpOps.keep 36 (Value.bool true) (by kernel_rfl) (by kernel_rfl) (by kernel_rfl) ?_ (fun cf => (by kernel_rfl))
      refine WpOps.keep 37 (Value.bool true) (by kernel_rfl) (by kernel_rfl) (by kernel_rfl) ?_ (fun cf => (by kernel_rfl))
      refine WpOps.keep 38 (Value.int IntKind.i64 3) (by kernel_rfl) (by kernel_rfl) (by kernel_rfl) ?_ (fun cf => (by kernel_rfl))
      refine WpOps.keep 39 (Value.bool false) (by kernel_rfl) (by kernel_rfl) (by kernel_rfl) ?_ (fun cf => (by kernel_rfl))
      refine WpOps.keep 40 (Value.bool false) (by kernel_rfl) (by kernel_rfl) (by kernel_rfl) ?_ (fun cf => (by kernel_rfl))
      refine WpOps.nil ?_
      refine thenK_at ?_
      refine Wp.off (by kernel_rfl) ?_
      refine Wp.skip ?_
      refine thenK_at ?_
      refine Wp.seq ?_
      refine Wp.seq ?_
      refine Wp.text ?_
      refine WpOps.keep 42 (Value.pointer (some (Addr.mk 0 3 none))) (by kernel_rfl) (by kernel_rfl) (by kernel_rfl) ?_ (fun cf => (by kernel_rfl))
      refine WpOps.keep 43 (Value.int IntKind.i64 (Gr.life g)) (by kernel_rfl) (by kernel_rfl) (by kernel_rfl) ?_ (fun cf => (by kernel_rfl))
      refine WpOps.keep 44 (Value.bool true) (by kernel_rfl) (by kernel_rfl) (by kernel_rfl) ?_ (fun cf => by_fact z1 ((by kernel_rfl)))
      refine WpOps.nil ?_
      refine thenK_at ?_
      refine Wp.on (by kernel_rfl) ?_
      refine Wp.seq ?_
      refine Wp.text ?_
      refine WpOps.keep 45 (Value.iface 3 (Value.iface (List.length me) (Value.iface x (Value.agg (List.toArray (List.map (fun n => Value.int IntKind.i64 n) me)))))) (by kernel_rfl) (by kernel_rfl) (by kernel_rfl) ?_ (fun cf => (by kernel_rfl))
      refine WpOps.keep 46 (Value.agg #[Value.iface 3 (Value.iface (List.length (Gr.fr g)) (Value.iface (Gr.fx g) (Value.agg (List.toArray (List.map (fun n => Value.int IntKind.i64 n) (Gr.fr g)))))), Value.iface 3 (Value.iface (List.length (Gr.to g)) (Value.iface (Gr.tx g) (Value.agg (List.toArray (List.map (fun n => Value.int IntKind.i64 n) (Gr.to g)))))), Value.int IntKind.i64 (Gr.number g), Value.int IntKind.i64 (Gr.life g), Value.int IntKind.i64 (Gr.at' g), Value.int IntKind.i64 (Gr.total g), Value.int IntKind.i64 (Gr.report g), Value.bool (Gr.more g), Value.bool (Gr.may g), Value.bool (Gr.wants g), Value.string (Gr.data g)]) (by kernel_rfl) (by kernel_rfl) (by kernel_rfl) ?_ (fun cf => (by kernel_rfl))
      refine WpOps.framed 47 68 [Value.iface 3 (Value.iface (List.length me) (Value.iface x (Value.agg (List.toArray (List.map (fun n => Value.int IntKind.i64 n) me))))), Value.agg #[Value.iface 3 (Value.iface (List.length (Gr.fr g)) (Value.iface (Gr.fx g) (Value.agg (List.toArray (List.map (fun n => Value.int IntKind.i64 n) (Gr.fr g)))))), Value.iface 3 (Value.iface (List.length (Gr.to g)) (Value.iface (Gr.tx g) (Value.agg (List.toArray (List.map (fun n => Value.int IntKind.i64 n) (Gr.to g)))))), Value.int IntKind.i64 (Gr.number g), Value.int IntKind.i64 (Gr.life g), Value.int IntKind.i64 (Gr.at' g), Value.int IntKind.i64 (Gr.total g), Value.int IntKind.i64 (Gr.report g), Value.bool (Gr.more g), Value.bool (Gr.may g), Value.bool (Gr.wants g), Value.string (Gr.data g)], Value.int IntKind.i64 1] (by kernel_rfl) (by kernel_rfl) (by kernel_rfl) (by kernel_rfl) (by kernel_rfl) (fun cf => (by kernel_rfl)) ?_
      refine WpFun.of (d1) ?_
      refine WpOps.keep 8 (Value.slice none 0 0) (by kernel_rfl) (by kernel_rfl) (by kernel_rfl) ?_ (fun cf => (by kernel_rfl))
      refine WpOps.keep 9 (Value.int IntKind.i64 (-1)) (by kernel_rfl) (by kernel_rfl) (by kernel_rfl) ?_ (fun cf => (by kernel_rfl))
      refine WpOps.keep 10 (Value.iface 24 (Value.iface (List.length (repL x me g 1)) (Value.iface (wx g) (Value.agg (List.toArray (cellsG (repL x me g 1))))))) (by kernel_rfl) (by kernel_rfl) (by kernel_rfl) ?_ (fun cf => (by kernel_rfl))
      refine WpOps.keep 11 (Value.int IntKind.i64 0) (by kernel_rfl) (by kernel_rfl) (by kernel_rfl) ?_ (fun cf => (by kernel_rfl))
      refine WpOps.nil ?_
      refine thenK_at ?_
      refine Wp.ret ?_
      refine thenK_ret ?_
      refine endK_retn [Value.slice none 0 0, Value.int IntKind.i64 (-1), Value.iface 24 (Value.iface (List.length (repL x me g 1)) (Value.iface (wx g) (Value.agg (List.toArray (cellsG (repL x me g 1)))))), Value.int IntKind.i64 0] (Value.tuple #[Value.slice none 0 0, Value.int IntKind.i64 (-1), Value.iface 24 (Value.iface (List.length (repL x me g 1)) (Value.iface (wx g) (Value.agg (List.toArray (cellsG (repL x me g 1)))))), Value.int IntKind.i64 0]) (by kernel_rfl) (by kernel_rfl) ?_
      kernel_rfl
    | some e =>
      rw [hf] at c4
      refine Wp.seq ?_
      refine Wp.text ?_
      refine WpOps.made 7 (Value.pointer (some (Addr.mk 0 0 none))) (Blk.mk 24 true [Value.iface 3 (Value.iface (List.length (Gr.fr g)) (Value.iface (Gr.fx g) (Value.agg (List.toArray (List.map (fun n => Value.int IntKind.i64 n) (Gr.fr g)))))), Value.iface 3 (Value.iface (List.length (Gr.to g)) (Value.iface (Gr.tx g) (Value.agg (List.toArray (List.map (fun n => Value.int IntKind.i64 n) (Gr.to g)))))), Value.int IntKind.i64 (Gr.number g), Value.int IntKind.i64 (Gr.life g), Value.int IntKind.i64 (Gr.at' g), Value.int IntKind.i64 (Gr.total g), Value.int IntKind.i64 (Gr.report g), Value.bool (Gr.more g), Value.bool (Gr.may g), Value.bool (Gr.wants g), Value.string (Gr.data g)]) (by kernel_rfl) (by kernel_rfl) (by kernel_rfl) ?_ (fun cf => (by kernel_rfl))
      refine WpOps.keep 8 (Value.slice none 0 0) (by kernel_rfl) (by kernel_rfl) (by kernel_rfl) ?_ (fun cf => (by kernel_rfl))
      refine WpOps.keep 9 (Value.int IntKind.i64 0) (by kernel_rfl) (by kernel_rfl) (by kernel_rfl) ?_ (fun cf => (by kernel_rfl))
      refine WpOps.keep 10 (Value.slice none 0 0) (by kernel_rfl) (by kernel_rfl) (by kernel_rfl) ?_ (fun cf => (by kernel_rfl))
      refine WpOps.keep 11 (Value.int IntKind.i64 0) (by kernel_rfl) (by kernel_rfl) (by kernel_rfl) ?_ (fun cf => (by kernel_rfl))
      refine WpOps.nil ?_
      refine thenK_at ?_
      refine Wp.seq ?_
      refine Wp.seq ?_
      refine Wp.text ?_
      refine WpOps.keep 16 (Value.iface 3 (Value.iface (List.length me) (Value.iface x (Value.agg (List.toArray (List.map (fun n => Value.int IntKind.i64 n) me)))))) (by kernel_rfl) (by kernel_rfl) (by kernel_rfl) ?_ (fun cf => (by kernel_rfl))
      refine WpOps.framed 17 49 [Value.iface 3 (Value.iface (List.length me) (Value.iface x (Value.agg (List.toArray (List.map (fun n => Value.int IntKind.i64 n) me)))))] (by kernel_rfl) (by kernel_rfl) (by kernel_rfl) (by kernel_rfl) (by kernel_rfl) (fun cf => (by kernel_rfl)) ?_
      refine WpFun.of (c1) ?_
      refine WpOps.keep 18 (Value.bool false) (by kernel_rfl) (by kernel_rfl) (by kernel_rfl) ?_ (fun cf => (by kernel_rfl))
      refine WpOps.keep 19 (Value.bool false) (by kernel_rfl) (by kernel_rfl) (by kernel_rfl) ?_ (fun cf => (by kernel_rfl))
      refine WpOps.keep 20 (Value.iface 76 (Value.iface (List.length ls) (Value.iface xl (Value.agg (List.toArray (List.flatMap lc ls)))))) (by kernel_rfl) (by kernel_rfl) (by kernel_rfl) ?_ (fun cf => (by kernel_rfl))
      refine WpOps.framed 21 71 [Value.iface 76 (Value.iface (List.length ls) (Value.iface xl (Value.agg (List.toArray (List.flatMap lc ls))))), Value.func (Fn.func 72) #[] #[]] (by kernel_rfl) (by kernel_rfl) (by kernel_rfl) (by kernel_rfl) (by kernel_rfl) (fun cf => (by kernel_rfl)) ?_
      refine WpFun.of (c2) ?_
      refine WpOps.keep 22 (Value.bool false) (by kernel_rfl) (by kernel_rfl) (by kernel_rfl) ?_ (fun cf => (by kernel_rfl))
      refine WpOps.keep 23 (Value.bool false) (by kernel_rfl) (by kernel_rfl) (by kernel_rfl) ?_ (fun cf => (by kernel_rfl))
      refine WpOps.keep 24 (Value.agg #[Value.iface 3 (Value.iface (List.length (Gr.fr g)) (Value.iface (Gr.fx g) (Value.agg (List.toArray (List.map (fun n => Value.int IntKind.i64 n) (Gr.fr g)))))), Value.iface 3 (Value.iface (List.length (Gr.to g)) (Value.iface (Gr.tx g) (Value.agg (List.toArray (List.map (fun n => Value.int IntKind.i64 n) (Gr.to g)))))), Value.int IntKind.i64 (Gr.number g), Value.int IntKind.i64 (Gr.life g), Value.int IntKind.i64 (Gr.at' g), Value.int IntKind.i64 (Gr.total g), Value.int IntKind.i64 (Gr.report g), Value.bool (Gr.more g), Value.bool (Gr.may g), Value.bool (Gr.wants g), Value.string (Gr.data g)]) (by kernel_rfl) (by kernel_rfl) (by kernel_rfl) ?_ (fun cf => (by kernel_rfl))
      refine WpOps.framed 25 20 [Value.agg #[Value.iface 3 (Value.iface (List.length (Gr.fr g)) (Value.iface (Gr.fx g) (Value.agg (List.toArray (List.map (fun n => Value.int IntKind.i64 n) (Gr.fr g)))))), Value.iface 3 (Value.iface (List.length (Gr.to g)) (Value.iface (Gr.tx g) (Value.agg (List.toArray (List.map (fun n => Value.int IntKind.i64 n) (Gr.to g)))))), Value.int IntKind.i64 (Gr.number g), Value.int IntKind.i64 (Gr.life g), Value.int IntKind.i64 (Gr.at' g), Value.int IntKind.i64 (Gr.total g), Value.int IntKind.i64 (Gr.report g), Value.bool (Gr.more g), Value.bool (Gr.may g), Value.bool (Gr.wants g), Value.string (Gr.data g)]] (by kernel_rfl) (by kernel_rfl) (by kernel_rfl) (by kernel_rfl) (by kernel_rfl) (fun cf => (by kernel_rfl)) ?_
      refine WpFun.of (c3) ?_
      refine WpOps.keep 26 (Value.bool false) (by kernel_rfl) (by kernel_rfl) (by kernel_rfl) ?_ (fun cf => (by kernel_rfl))
      refine WpOps.keep 27 (Value.bool false) (by kernel_rfl) (by kernel_rfl) (by kernel_rfl) ?_ (fun cf => (by kernel_rfl))
      refine WpOps.nil ?_
      refine thenK_at ?_
      refine Wp.off (by kernel_rfl) ?_
      refine Wp.skip ?_
      refine thenK_at ?_
      refine Wp.seq ?_
      refine Wp.text ?_
      refine WpOps.keep 29 (Value.iface 98 (Value.iface (List.length l) (Value.iface xt (Value.agg (List.toArray (List.flatMap ec l)))))) (by kernel_rfl) (by kernel_rfl) (by kernel_rfl) ?_ (fun cf => (by kernel_rfl))
      refine WpOps.keep 30 (Value.pointer (some (Addr.mk 0 1 none))) (by kernel_rfl) (by kernel_rfl) (by kernel_rfl) ?_ (fun cf => (by kernel_rfl))
      refine WpOps.keep 31 (Value.iface 3 (Value.iface (List.length (Gr.to g)) (Value.iface (Gr.tx g) (Value.agg (List.toArray (List.map (fun n => Value.int IntKind.i64 n) (Gr.to g))))))) (by kernel_rfl) (by kernel_rfl) (by kernel_rfl) ?_ (fun cf => (by kernel_rfl))
      refine WpOps.framed 32 73 [Value.iface 98 (Value.iface (List.length l) (Value.iface xt (Value.agg (List.toArray (List.flatMap ec l))))), Value.iface 3 (Value.iface (List.length (Gr.to g)) (Value.iface (Gr.tx g) (Value.agg (List.toArray (List.map (fun n => Value.int IntKind.i64 n) (Gr.to g))))))] (by kernel_rfl) (by kernel_rfl) (by kernel_rfl) (by kernel_rfl) (by kernel_rfl) (fun cf => (by kernel_rfl)) ?_
      refine WpFun.of (c4) ?_
      refine WpOps.keep 28 (Value.tuple #[evl (En.mk (nx (En.x e)) (En.p e) (En.to e)), Value.int IntKind.i64 0]) (by kernel_rfl) (by kernel_rfl) (by kernel_rfl) ?_ (fun cf => (by kernel_rfl))
      refine WpOps.keep 33 (Value.agg (List.toArray (ec (En.mk (nx (En.x e)) (En.p e) (En.to e))))) (by kernel_rfl) (by kernel_rfl) (by kernel_rfl) ?_ (fun cf => (by kernel_rfl))
      refine WpOps.keep 34 (Value.int IntKind.i64 0) (by kernel_rfl) (by kernel_rfl) (by kernel_rfl) ?_ (fun cf => (by kernel_rfl))
      refine WpOps.made 12 (Value.pointer (some (Addr.mk 1 0 none))) (Blk.mk 98 true [Value.slice none 0 0, Value.int IntKind.i64 0]) (by kernel_rfl) (by kernel_rfl) (by kernel_rfl) ?_ (fun cf => (by kernel_rfl))
      refine WpOps.laid (Value.tuple #[]) (1) (Blk.mk 98 true [Value.iface 3 (Value.iface (List.length (En.p (En.mk (nx (En.x e)) (En.p e) (En.to e)))) (Value.iface (En.x (En.mk (nx (En.x e)) (En.p e) (En.to e))) (Value.agg (List.toArray (List.map (fun n => Value.int IntKind.i64 n) (En.p (En.mk (nx (En.x e)) (En.p e) (En.to e)))))))), Value.int IntKind.i64 (En.to (En.mk (nx (En.x e)) (En.p e) (En.to e)))]) (by kernel_rfl) (by kernel_rfl) (by kernel_rfl) ?_ (fun cf => (by kernel_rfl))
      refine WpOps.keep 13 (Value.int IntKind.i64 0) (by kernel_rfl) (by kernel_rfl) (by kernel_rfl) ?_ (fun cf => (by kernel_rfl))
      refine WpOps.nil ?_
      refine thenK_at ?_
      refine Wp.seq ?_
      refine Wp.seq ?_
      refine Wp.text ?_
      refine WpOps.keep 35 (Value.int IntKind.i64 0) (by kernel_rfl) (by kernel_rfl) (by kernel_rfl) ?_ (fun cf => (by kernel_rfl))
      refine WpOps.keep 36 (Value.bool false) (by kernel_rfl) (by kernel_rfl) (by kernel_rfl) ?_ (fun cf => (by kernel_rfl))
      refine WpOps.keep 37 (Value.bool false) (by kernel_rfl) (by kernel_rfl) (by kernel_rfl) ?_ (fun cf => (by kernel_rfl))
      refine WpOps.unmet 38 (by kernel_rfl) (by kernel_rfl) (by kernel_rfl) ?_
      refine WpOps.unmet 39 (by kernel_rfl) (by kernel_rfl) (by kernel_rfl) ?_
      refine WpOps.keep 40 (Value.bool false) (by kernel_rfl) (by kernel_rfl) (by kernel_rfl) ?_ (fun cf => (by kernel_rfl))
      refine WpOps.nil ?_
      refine thenK_at ?_
      refine Wp.off (by kernel_rfl) ?_
      refine Wp.skip ?_
      refine thenK_at ?_
      refine Wp.seq ?_
      refine Wp.seq ?_
      refine Wp.text ?_
      refine WpOps.keep 42 (Value.pointer (some (Addr.mk 0 3 none))) (by kernel_rfl) (by kernel_rfl) (by kernel_rfl) ?_ (fun cf => (by kernel_rfl))
      refine WpOps.keep 43 (Value.int IntKind.i64 (Gr.life g)) (by kernel_rfl) (by kernel_rfl) (by kernel_rfl) ?_ (fun cf => (by kernel_rfl))
      refine WpOps.keep 44 (Value.bool true) (by kernel_rfl) (by kernel_rfl) (by kernel_rfl) ?_ (fun cf => by_fact z1 ((by kernel_rfl)))
      refine WpOps.nil ?_
      refine thenK_at ?_
      refine Wp.on (by kernel_rfl) ?_
      refine Wp.seq ?_
      refine Wp.text ?_
      refine WpOps.keep 45 (Value.iface 3 (Value.iface (List.length me) (Value.iface x (Value.agg (List.toArray (List.map (fun n => Value.int IntKind.i64 n) me)))))) (by kernel_rfl) (by kernel_rfl) (by kernel_rfl) ?_ (fun cf => (by kernel_rfl))
      refine WpOps.keep 46 (Value.agg #[Value.iface 3 (Value.iface (List.length (Gr.fr g)) (Value.iface (Gr.fx g) (Value.agg (List.toArray (List.map (fun n => Value.int IntKind.i64 n) (Gr.fr g)))))), Value.iface 3 (Value.iface (List.length (Gr.to g)) (Value.iface (Gr.tx g) (Value.agg (List.toArray (List.map (fun n => Value.int IntKind.i64 n) (Gr.to g)))))), Value.int IntKind.i64 (Gr.number g), Value.int IntKind.i64 (Gr.life g), Value.int IntKind.i64 (Gr.at' g), Value.int IntKind.i64 (Gr.total g), Value.int IntKind.i64 (Gr.report g), Value.bool (Gr.more g), Value.bool (Gr.may g), Value.bool (Gr.wants g), Value.string (Gr.data g)]) (by kernel_rfl) (by kernel_rfl) (by kernel_rfl) ?_ (fun cf => (by kernel_rfl))
      refine WpOps.framed 47 68 [Value.iface 3 (Value.iface (List.length me) (Value.iface x (Value.agg (List.toArray (List.map (fun n => Value.int IntKind.i64 n) me))))), Value.agg #[Value.iface 3 (Value.iface (List.length (Gr.fr g)) (Value.iface (Gr.fx g) (Value.agg (List.toArray (List.map (fun n => Value.int IntKind.i64 n) (Gr.fr g)))))), Value.iface 3 (Value.iface (List.length (Gr.to g)) (Value.iface (Gr.tx g) (Value.agg (List.toArray (List.map (fun n => Value.int IntKind.i64 n) (Gr.to g)))))), Value.int IntKind.i64 (Gr.number g), Value.int IntKind.i64 (Gr.life g), Value.int IntKind.i64 (Gr.at' g), Value.int IntKind.i64 (Gr.total g), Value.int IntKind.i64 (Gr.report g), Value.bool (Gr.more g), Value.bool (Gr.may g), Value.bool (Gr.wants g), Value.string (Gr.data g)], Value.int IntKind.i64 1] (by kernel_rfl) (by kernel_rfl) (by kernel_rfl) (by kernel_rfl) (by kernel_rfl) (fun cf => (by kernel_rfl)) ?_
      refine WpFun.of (d1) ?_
      refine WpOps.keep 8 (Value.slice none 0 0) (by kernel_rfl) (by kernel_rfl) (by kernel_rfl) ?_ (fun cf => (by kernel_rfl))
      refine WpOps.keep 9 (Value.int IntKind.i64 (-1)) (by kernel_rfl) (by kernel_rfl) (by kernel_rfl) ?_ (fun cf => (by kernel_rfl))
      refine WpOps.keep 10 (Value.iface 24 (Value.iface (List.length (repL x me g 1)) (Value.iface (wx g) (Value.agg (List.toArray (cellsG (repL x me g 1))))))) (by kernel_rfl) (by kernel_rfl) (by kernel_rfl) ?_ (fun cf => (by kernel_rfl))
      refine WpOps.keep 11 (Value.int IntKind.i64 0) (by kernel_rfl) (by kernel_rfl) (by kernel_rfl) ?_ (fun cf => (by kernel_rfl))
      refine WpOps.nil ?_
      refine thenK_at ?_
      refine Wp.ret ?_
      refine thenK_ret ?_
      refine endK_retn [Value.slice none 0 0, Value.int IntKind.i64 (-1), Value.iface 24 (Value.iface (List.length (repL x me g 1)) (Value.iface (wx g) (Value.agg (List.toArray (cellsG (repL x me g 1)))))), Value.int IntKind.i64 0] (Value.tuple #[Value.slice none 0 0, Value.int IntKind.i64 (-1), Value.iface 24 (Value.iface (List.length (repL x me g 1)) (Value.iface (wx g) (Value.agg (List.toArray (cellsG (repL x me g 1)))))), Value.int IntKind.i64 0]) (by kernel_rfl) (by kernel_rfl) ?_
      kernel_rfl
  · have z1 : decide (g.life ≤ 1) = false := decide_eq_false hl
    rw [if_neg hl]
    cases hf : found l g.to with
    | none =>
      rw [hf] at c4
      refine Wp.seq ?_
      refine Wp.text ?_
      refine WpOps.made 7 (Value.pointer (some (Addr.mk 0 0 none))) (Blk.mk 24 true [Value.iface 3 (Value.iface (List.length (Gr.fr g)) (Value.iface (Gr.fx g) (Value.agg (List.toArray (List.map (fun n => Value.int IntKind.i64 n) (Gr.fr g)))))), Value.iface 3 (Value.iface (List.length (Gr.to g)) (Value.iface (Gr.tx g) (Value.agg (List.toArray (List.map (fun n => Value.int IntKind.i64 n) (Gr.to g)))))), Value.int IntKind.i64 (Gr.number g), Value.int IntKind.i64 (Gr.life g), Value.int IntKind.i64 (Gr.at' g), Value.int IntKind.i64 (Gr.total g), Value.int IntKind.i64 (Gr.report g), Value.bool (Gr.more g), Value.bool (Gr.may g), Value.bool (Gr.wants g), Value.string (Gr.data g)]) (by kernel_rfl) (by kernel_rfl) (by kernel_rfl) ?_ (fun cf => (by kernel_rfl))
      refine WpOps.keep 8 (Value.slice none 0 0) (by kernel_rfl) (by kernel_rfl) (by kernel_rfl) ?_ (fun cf => (by kernel_rfl))
      refine WpOps.keep 9 (Value.int IntKind.i64 0) (by kernel_rfl) (by kernel_rfl) (by kernel_rfl) ?_ (fun cf => (by kernel_rfl))
      refine WpOps.keep 10 (Value.slice none 0 0) (by kernel_rfl) (by kernel_rfl) (by kernel_rfl) ?_ (fun cf => (by kernel_rfl))
      refine WpOps.keep 11 (Value.int IntKind.i64 0) (by kernel_rfl) (by kernel_rfl) (by kernel_rfl) ?_ (fun cf => (by kernel_rfl))
      refine WpOps.nil ?_
      refine thenK_at ?_
      refine Wp.seq ?_
      refine Wp.seq ?_
      refine Wp.text ?_
      refine WpOps.keep 16 (Value.iface 3 (Value.iface (List.length me) (Value.iface x (Value.agg (List.toArray (List.map (fun n => Value.int IntKind.i64 n) me)))))) (by kernel_rfl) (by kernel_rfl) (by kernel_rfl) ?_ (fun cf => (by kernel_rfl))
      refine WpOps.framed 17 49 [Value.iface 3 (Value.iface (List.length me) (Value.iface x (Value.agg (List.toArray (List.map (fun n => Value.int IntKind.i64 n) me)))))] (by kernel_rfl) (by kernel_rfl) (by kernel_rfl) (by kernel_rfl) (by kernel_rfl) (fun cf => (by kernel_rfl)) ?_
      refine WpFun.of (c1) ?_
      refine WpOps.keep 18 (Value.bool false) (by kernel_rfl) (by kernel_rfl) (by kernel_rfl) ?_ (fun cf => (by kernel_rfl))
      refine WpOps.keep 19 (Value.bool false) (by kernel_rfl) (by kernel_rfl) (by kernel_rfl) ?_ (fun cf => (by kernel_rfl))
      refine WpOps.keep 20 (Value.iface 76 (Value.iface (List.length ls) (Value.iface xl (Value.agg (List.toArray (List.flatMap lc ls)))))) (by kernel_rfl) (by kernel_rfl) (by kernel_rfl) ?_ (fun cf => (by kernel_rfl))
      refine WpOps.framed 21 71 [Value.iface 76 (Value.iface (List.length ls) (Value.iface xl (Value.agg (List.toArray (List.flatMap lc ls))))), Value.func (Fn.func 72) #[] #[]] (by kernel_rfl) (by kernel_rfl) (by kernel_rfl) (by kernel_rfl) (by kernel_rfl) (fun cf => (by kernel_rfl)) ?_
      refine WpFun.of (c2) ?_
      refine WpOps.keep 22 (Value.bool false) (by kernel_rfl) (by kernel_rfl) (by kernel_rfl) ?_ (fun cf => (by kernel_rfl))
      refine WpOps.keep 23 (Value.bool false) (by kernel_rfl) (by kernel_rfl) (by kernel_rfl) ?_ (fun cf => (by kernel_rfl))
      refine WpOps.keep 24 (Value.agg #[Value.iface 3 (Value.iface (List.length (Gr.fr g)) (Value.iface (Gr.fx g) (Value.agg (List.toArray (List.map (fun n => Value.int IntKind.i64 n) (Gr.fr g)))))), Value.iface 3 (Value.iface (List.length (Gr.to g)) (Value.iface (Gr.tx g) (Value.agg (List.toArray (List.map (fun n => Value.int IntKind.i64 n) (Gr.to g)))))), Value.int IntKind.i64 (Gr.number g), Value.int IntKind.i64 (Gr.life g), Value.int IntKind.i64 (Gr.at' g), Value.int IntKind.i64 (Gr.total g), Value.int IntKind.i64 (Gr.report g), Value.bool (Gr.more g), Value.bool (Gr.may g), Value.bool (Gr.wants g), Value.string (Gr.data g)]) (by kernel_rfl) (by kernel_rfl) (by kernel_rfl) ?_ (fun cf => (by kernel_rfl))
      refine WpOps.framed 25 20 [Value.agg #[Value.iface 3 (Value.iface (List.length (Gr.fr g)) (Value.iface (Gr.fx g) (Value.agg (List.toArray (List.map (fun n => Value.int IntKind.i64 n) (Gr.fr g)))))), Value.iface 3 (Value.iface (List.length (Gr.to g)) (Value.iface (Gr.tx g) (Value.agg (List.toArray (List.map (fun n => Value.int IntKind.i64 n) (Gr.to g)))))), Value.int IntKind.i64 (Gr.number g), Value.int IntKind.i64 (Gr.life g), Value.int IntKind.i64 (Gr.at' g), Value.int IntKind.i64 (Gr.total g), Value.int IntKind.i64 (Gr.report g), Value.bool (Gr.more g), Value.bool (Gr.may g), Value.bool (Gr.wants g), Value.string (Gr.data g)]] (by kernel_rfl) (by kernel_rfl) (by kernel_rfl) (by kernel_rfl) (by kernel_rfl) (fun cf => (by kernel_rfl)) ?_
      refine WpFun.of (c3) ?_
      refine WpOps.keep 26 (Value.bool false) (by kernel_rfl) (by kernel_rfl) (by kernel_rfl) ?_ (fun cf => (by kernel_rfl))
      refine WpOps.keep 27 (Value.bool false) (by kernel_rfl) (by kernel_rfl) (by kernel_rfl) ?_ (fun cf => (by kernel_rfl))
      refine WpOps.nil ?_
      refine thenK_at ?_
      refine Wp.off (by kernel_rfl) ?_
      refine Wp.skip ?_
      refine thenK_at ?_
      refine Wp.seq ?_
      refine Wp.text ?_
      refine WpOps.keep 29 (Value.iface 98 (Value.iface (List.length l) (Value.iface xt (Value.agg (List.toArray (List.flatMap ec l)))))) (by kernel_rfl) (by kernel_rfl) (by kernel_rfl) ?_ (fun cf => (by kernel_rfl))
      refine WpOps.keep 30 (Value.pointer (some (Addr.mk 0 1 none))) (by kernel_rfl) (by kernel_rfl) (by kernel_rfl) ?_ (fun cf => (by kernel_rfl))
      refine WpOps.keep 31 (Value.iface 3 (Value.iface (List.length (Gr.to g)) (Value.iface (Gr.tx g) (Value.agg (List.toArray (List.map (fun n => Value.int IntKind.i64 n) (Gr.to g))))))) (by kernel_rfl) (by kernel_rfl) (by kernel_rfl) ?_ (fun cf => (by kernel_rfl))
      refine WpOps.framed 32 73 [Value.iface 98 (Value.iface (List.length l) (Value.iface xt (Value.agg (List.toArray (List.flatMap ec l))))), Value.iface 3 (Value.iface (List.length (Gr.to g)) (Value.iface (Gr.tx g) (Value.agg (List.toArray (List.map (fun n => Value.int IntKind.i64 n) (Gr.to g))))))] (by kernel_rfl) (by kernel_rfl) (by kernel_rfl) (by kernel_rfl) (by kernel_rfl) (fun cf => (by kernel_rfl)) ?_
      refine WpFun.of (c4) ?_
      refine WpOps.keep 28 (Value.tuple #[Value.agg #[Value.slice none 0 0, Value.int IntKind.i64 0], Value.int IntKind.i64 3]) (by kernel_rfl) (by kernel_rfl) (by kernel_rfl) ?_ (fun cf => (by kernel_rfl))
      refine WpOps.keep 33 (Value.agg #[Value.slice none 0 0, Value.int IntKind.i64 0]) (by kernel_rfl) (by kernel_rfl) (by kernel_rfl) ?_ (fun cf => (by kernel_rfl))
      refine WpOps.keep 34 (Value.int IntKind.i64 3) (by kernel_rfl) (by kernel_rfl) (by kernel_rfl) ?_ (fun cf => (by kernel_rfl))
      refine WpOps.made 12 (Value.pointer (some (Addr.mk 1 0 none))) (Blk.mk 98 true [Value.slice none 0 0, Value.int IntKind.i64 0]) (by kernel_rfl) (by kernel_rfl) (by kernel_rfl) ?_ (fun cf => (by kernel_rfl))
      refine WpOps.laid (Value.tuple #[]) (1) (Blk.mk 98 true [Value.slice none 0 0, Value.int IntKind.i64 0]) (by kernel_rfl) (by kernel_rfl) (by kernel_rfl) ?_ (fun cf => (by kernel_rfl))
      refine WpOps.keep 13 (Value.int IntKind.i64 3) (by kernel_rfl) (by kernel_rfl) (by kernel_rfl) ?_ (fun cf => (by kernel_rfl))
      refine WpOps.nil ?_
      refine thenK_at ?_
      refine Wp.seq ?_
      refine Wp.seq ?_
      refine Wp.text ?_
      refine WpOps.keep 35 (Value.int IntKind.i64 3) (by kernel_rfl) (by kernel_rfl) (by kernel_rfl) ?_ (fun cf => (by kernel_rfl))
      refine WpOps.keep 36 (Value.bool true) (by kernel_rfl) (by kernel_rfl) (by kernel_rfl) ?_ (fun cf => (by kernel_rfl))
      refine WpOps.keep 37 (Value.bool true) (by kernel_rfl) (by kernel_rfl) (by kernel_rfl) ?_ (fun cf => (by kernel_rfl))
      refine WpOps.keep 38 (Value.int IntKind.i64 3) (by kernel_rfl) (by kernel_rfl) (by kernel_rfl) ?_ (fun cf => (by kernel_rfl))
      refine WpOps.keep 39 (Value.bool false) (by kernel_rfl) (by kernel_rfl) (by kernel_rfl) ?_ (fun cf => (by kernel_rfl))
      refine WpOps.keep 40 (Value.bool false) (by kernel_rfl) (by kernel_rfl) (by kernel_rfl) ?_ (fun cf => (by kernel_rfl))
      refine WpOps.nil ?_
      refine thenK_at ?_
      refine Wp.off (by kernel_rfl) ?_
      refine Wp.skip ?_
      refine thenK_at ?_
      refine Wp.seq ?_
      refine Wp.seq ?_
      refine Wp.text ?_
      refine WpOps.keep 42 (Value.pointer (some (Addr.mk 0 3 none))) (by kernel_rfl) (by kernel_rfl) (by kernel_rfl) ?_ (fun cf => (by kernel_rfl))
      refine WpOps.keep 43 (Value.int IntKind.i64 (Gr.life g)) (by kernel_rfl) (by kernel_rfl) (by kernel_rfl) ?_ (fun cf => (by kernel_rfl))
      refine WpOps.keep 44 (Value.bool false) (by kernel_rfl) (by kernel_rfl) (by kernel_rfl) ?_ (fun cf => by_fact z1 ((by kernel_rfl)))
      refine WpOps.nil ?_
      refine thenK_at ?_
      refine Wp.off (by kernel_rfl) ?_
      refine Wp.skip ?_
      refine thenK_at ?_
      refine Wp.seq ?_
      refine Wp.seq ?_
      refine Wp.text ?_
      refine WpOps.keep 48 (Value.int IntKind.i64 3) (by kernel_rfl) (by kernel_rfl) (by kernel_rfl) ?_ (fun cf => (by kernel_rfl))
      refine WpOps.keep 49 (Value.bool true) (by kernel_rfl) (by kernel_rfl) (by kernel_rfl) ?_ (fun cf => (by kernel_rfl))
      refine WpOps.nil ?_
      refine thenK_at ?_
      refine Wp.on (by kernel_rfl) ?_
      refine Wp.seq ?_
      refine Wp.text ?_
      refine WpOps.keep 50 (Value.iface 3 (Value.iface (List.length me) (Value.iface x (Value.agg (List.toArray (List.map (fun n => Value.int IntKind.i64 n) me)))))) (by kernel_rfl) (by kernel_rfl) (by kernel_rfl) ?_ (fun cf => (by kernel_rfl))
      refine WpOps.keep 51 (Value.agg #[Value.iface 3 (Value.iface (List.length (Gr.fr g)) (Value.iface (Gr.fx g) (Value.agg (List.toArray (List.map (fun n => Value.int IntKind.i64 n) (Gr.fr g)))))), Value.iface 3 (Value.iface (List.length (Gr.to g)) (Value.iface (Gr.tx g) (Value.agg (List.toArray (List.map (fun n => Value.int IntKind.i64 n) (Gr.to g)))))), Value.int IntKind.i64 (Gr.number g), Value.int IntKind.i64 (Gr.life g), Value.int IntKind.i64 (Gr.at' g), Value.int IntKind.i64 (Gr.total g), Value.int IntKind.i64 (Gr.report g), Value.bool (Gr.more g), Value.bool (Gr.may g), Value.bool (Gr.wants g), Value.string (Gr.data g)]) (by kernel_rfl) (by kernel_rfl) (by kernel_rfl) ?_ (fun cf => (by kernel_rfl))
      refine WpOps.framed 52 68 [Value.iface 3 (Value.iface (List.length me) (Value.iface x (Value.agg (List.toArray (List.map (fun n => Value.int IntKind.i64 n) me))))), Value.agg #[Value.iface 3 (Value.iface (List.length (Gr.fr g)) (Value.iface (Gr.fx g) (Value.agg (List.toArray (List.map (fun n => Value.int IntKind.i64 n) (Gr.fr g)))))), Value.iface 3 (Value.iface (List.length (Gr.to g)) (Value.iface (Gr.tx g) (Value.agg (List.toArray (List.map (fun n => Value.int IntKind.i64 n) (Gr.to g)))))), Value.int IntKind.i64 (Gr.number g), Value.int IntKind.i64 (Gr.life g), Value.int IntKind.i64 (Gr.at' g), Value.int IntKind.i64 (Gr.total g), Value.int IntKind.i64 (Gr.report g), Value.bool (Gr.more g), Value.bool (Gr.may g), Value.bool (Gr.wants g), Value.string (Gr.data g)], Value.int IntKind.i64 2] (by kernel_rfl) (by kernel_rfl) (by kernel_rfl) (by kernel_rfl) (by kernel_rfl) (fun cf => (by kernel_rfl)) ?_
      refine WpFun.of (d2) ?_
      refine WpOps.keep 8 (Value.slice none 0 0) (by kernel_rfl) (by kernel_rfl) (by kernel_rfl) ?_ (fun cf => (by kernel_rfl))
      refine WpOps.keep 9 (Value.int IntKind.i64 (-1)) (by kernel_rfl) (by kernel_rfl) (by kernel_rfl) ?_ (fun cf => (by kernel_rfl))
      refine WpOps.keep 10 (Value.iface 24 (Value.iface (List.length (repL x me g 2)) (Value.iface (wx g) (Value.agg (List.toArray (cellsG (repL x me g 2))))))) (by kernel_rfl) (by kernel_rfl) (by kernel_rfl) ?_ (fun cf => (by kernel_rfl))
      refine WpOps.keep 11 (Value.int IntKind.i64 0) (by kernel_rfl) (by kernel_rfl) (by kernel_rfl) ?_ (fun cf => (by kernel_rfl))
      refine WpOps.nil ?_
      refine thenK_at ?_
      refine Wp.ret ?_
      refine thenK_ret ?_
      refine endK_retn [Value.slice none 0 0, Value.int IntKind.i64 (-1), Value.iface 24 (Value.iface (List.length (repL x me g 2)) (Value.iface (wx g) (Value.agg (List.toArray (cellsG (repL x me g 2)))))), Value.int IntKind.i64 0] (Value.tuple #[Value.slice none 0 0, Value.int IntKind.i64 (-1), Value.iface 24 (Value.iface (List.length (repL x me g 2)) (Value.iface (wx g) (Value.agg (List.toArray (cellsG (repL x me g 2)))))), Value.int IntKind.i64 0]) (by kernel_rfl) (by kernel_rfl) ?_
      kernel_rfl
    | some e =>
      rw [hf] at c4
      obtain ⟨e1, e2, _⟩ := found_ok h4 hf
      dsimp only
      by_cases ht : e.to ≥ ls.length
      · have z2 : decide (e.to ≥ ls.length) = true := decide_eq_true ht
        rw [if_pos ht]
        refine Wp.seq ?_
        refine Wp.text ?_
        refine WpOps.made 7 (Value.pointer (some (Addr.mk 0 0 none))) (Blk.mk 24 true [Value.iface 3 (Value.iface (List.length (Gr.fr g)) (Value.iface (Gr.fx g) (Value.agg (List.toArray (List.map (fun n => Value.int IntKind.i64 n) (Gr.fr g)))))), Value.iface 3 (Value.iface (List.length (Gr.to g)) (Value.iface (Gr.tx g) (Value.agg (List.toArray (List.map (fun n => Value.int IntKind.i64 n) (Gr.to g)))))), Value.int IntKind.i64 (Gr.number g), Value.int IntKind.i64 (Gr.life g), Value.int IntKind.i64 (Gr.at' g), Value.int IntKind.i64 (Gr.total g), Value.int IntKind.i64 (Gr.report g), Value.bool (Gr.more g), Value.bool (Gr.may g), Value.bool (Gr.wants g), Value.string (Gr.data g)]) (by kernel_rfl) (by kernel_rfl) (by kernel_rfl) ?_ (fun cf => (by kernel_rfl))
        refine WpOps.keep 8 (Value.slice none 0 0) (by kernel_rfl) (by kernel_rfl) (by kernel_rfl) ?_ (fun cf => (by kernel_rfl))
        refine WpOps.keep 9 (Value.int IntKind.i64 0) (by kernel_rfl) (by kernel_rfl) (by kernel_rfl) ?_ (fun cf => (by kernel_rfl))
        refine WpOps.keep 10 (Value.slice none 0 0) (by kernel_rfl) (by kernel_rfl) (by kernel_rfl) ?_ (fun cf => (by kernel_rfl))
        refine WpOps.keep 11 (Value.int IntKind.i64 0) (by kernel_rfl) (by kernel_rfl) (by kernel_rfl) ?_ (fun cf => (by kernel_rfl))
        refine WpOps.nil ?_
        refine thenK_at ?_
        refine Wp.seq ?_
        refine Wp.seq ?_
        refine Wp.text ?_
        refine WpOps.keep 16 (Value.iface 3 (Value.iface (List.length me) (Value.iface x (Value.agg (List.toArray (List.map (fun n => Value.int IntKind.i64 n) me)))))) (by kernel_rfl) (by kernel_rfl) (by kernel_rfl) ?_ (fun cf => (by kernel_rfl))
        refine WpOps.framed 17 49 [Value.iface 3 (Value.iface (List.length me) (Value.iface x (Value.agg (List.toArray (List.map (fun n => Value.int IntKind.i64 n) me)))))] (by kernel_rfl) (by kernel_rfl) (by kernel_rfl) (by kernel_rfl) (by kernel_rfl) (fun cf => (by kernel_rfl)) ?_
        refine WpFun.of (c1) ?_
        refine WpOps.keep 18 (Value.bool false) (by kernel_rfl) (by kernel_rfl) (by kernel_rfl) ?_ (fun cf => (by kernel_rfl))
        refine WpOps.keep 19 (Value.bool false) (by kernel_rfl) (by kernel_rfl) (by kernel_rfl) ?_ (fun cf => (by kernel_rfl))
        refine WpOps.keep 20 (Value.iface 76 (Value.iface (List.length ls) (Value.iface xl (Value.agg (List.toArray (List.flatMap lc ls)))))) (by kernel_rfl) (by kernel_rfl) (by kernel_rfl) ?_ (fun cf => (by kernel_rfl))
        refine WpOps.framed 21 71 [Value.iface 76 (Value.iface (List.length ls) (Value.iface xl (Value.agg (List.toArray (List.flatMap lc ls))))), Value.func (Fn.func 72) #[] #[]] (by kernel_rfl) (by kernel_rfl) (by kernel_rfl) (by kernel_rfl) (by kernel_rfl) (fun cf => (by kernel_rfl)) ?_
        refine WpFun.of (c2) ?_
        refine WpOps.keep 22 (Value.bool false) (by kernel_rfl) (by kernel_rfl) (by kernel_rfl) ?_ (fun cf => (by kernel_rfl))
        refine WpOps.keep 23 (Value.bool false) (by kernel_rfl) (by kernel_rfl) (by kernel_rfl) ?_ (fun cf => (by kernel_rfl))
        refine WpOps.keep 24 (Value.agg #[Value.iface 3 (Value.iface (List.length (Gr.fr g)) (Value.iface (Gr.fx g) (Value.agg (List.toArray (List.map (fun n => Value.int IntKind.i64 n) (Gr.fr g)))))), Value.iface 3 (Value.iface (List.length (Gr.to g)) (Value.iface (Gr.tx g) (Value.agg (List.toArray (List.map (fun n => Value.int IntKind.i64 n) (Gr.to g)))))), Value.int IntKind.i64 (Gr.number g), Value.int IntKind.i64 (Gr.life g), Value.int IntKind.i64 (Gr.at' g), Value.int IntKind.i64 (Gr.total g), Value.int IntKind.i64 (Gr.report g), Value.bool (Gr.more g), Value.bool (Gr.may g), Value.bool (Gr.wants g), Value.string (Gr.data g)]) (by kernel_rfl) (by kernel_rfl) (by kernel_rfl) ?_ (fun cf => (by kernel_rfl))
        refine WpOps.framed 25 20 [Value.agg #[Value.iface 3 (Value.iface (List.length (Gr.fr g)) (Value.iface (Gr.fx g) (Value.agg (List.toArray (List.map (fun n => Value.int IntKind.i64 n) (Gr.fr g)))))), Value.iface 3 (Value.iface (List.length (Gr.to g)) (Value.iface (Gr.tx g) (Value.agg (List.toArray (List.map (fun n => Value.int IntKind.i64 n) (Gr.to g)))))), Value.int IntKind.i64 (Gr.number g), Value.int IntKind.i64 (Gr.life g), Value.int IntKind.i64 (Gr.at' g), Value.int IntKind.i64 (Gr.total g), Value.int IntKind.i64 (Gr.report g), Value.bool (Gr.more g), Value.bool (Gr.may g), Value.bool (Gr.wants g), Value.string (Gr.data g)]] (by kernel_rfl) (by kernel_rfl) (by kernel_rfl) (by kernel_rfl) (by kernel_rfl) (fun cf => (by kernel_rfl)) ?_
        refine WpFun.of (c3) ?_
        refine WpOps.keep 26 (Value.bool false) (by kernel_rfl) (by kernel_rfl) (by kernel_rfl) ?_ (fun cf => (by kernel_rfl))
        refine WpOps.keep 27 (Value.bool false) (by kernel_rfl) (by kernel_rfl) (by kernel_rfl) ?_ (fun cf => (by kernel_rfl))
        refine WpOps.nil ?_
        refine thenK_at ?_
        refine Wp.off (by kernel_rfl) ?_
        refine Wp.skip ?_
        refine thenK_at ?_
        refine Wp.seq ?_
        refine Wp.text ?_
        refine WpOps.keep 29 (Value.iface 98 (Value.iface (List.length l) (Value.iface xt (Value.agg (List.toArray (List.flatMap ec l)))))) (by kernel_rfl) (by kernel_rfl) (by kernel_rfl) ?_ (fun cf => (by kernel_rfl))
        refine WpOps.keep 30 (Value.pointer (some (Addr.mk 0 1 none))) (by kernel_rfl) (by kernel_rfl) (by kernel_rfl) ?_ (fun cf => (by kernel_rfl))
        refine WpOps.keep 31 (Value.iface 3 (Value.iface (List.length (Gr.to g)) (Value.iface (Gr.tx g) (Value.agg (List.toArray (List.map (fun n => Value.int IntKind.i64 n) (Gr.to g))))))) (by kernel_rfl) (by kernel_rfl) (by kernel_rfl) ?_ (fun cf => (by kernel_rfl))
        refine WpOps.framed 32 73 [Value.iface 98 (Value.iface (List.length l) (Value.iface xt (Value.agg (List.toArray (List.flatMap ec l))))), Value.iface 3 (Value.iface (List.length (Gr.to g)) (Value.iface (Gr.tx g) (Value.agg (List.toArray (List.map (fun n => Value.int IntKind.i64 n) (Gr.to g))))))] (by kernel_rfl) (by kernel_rfl) (by kernel_rfl) (by kernel_rfl) (by kernel_rfl) (fun cf => (by kernel_rfl)) ?_
        refine WpFun.of (c4) ?_
        refine WpOps.keep 28 (Value.tuple #[evl (En.mk (nx (En.x e)) (En.p e) (En.to e)), Value.int IntKind.i64 0]) (by kernel_rfl) (by kernel_rfl) (by kernel_rfl) ?_ (fun cf => (by kernel_rfl))
        refine WpOps.keep 33 (Value.agg (List.toArray (ec (En.mk (nx (En.x e)) (En.p e) (En.to e))))) (by kernel_rfl) (by kernel_rfl) (by kernel_rfl) ?_ (fun cf => (by kernel_rfl))
        refine WpOps.keep 34 (Value.int IntKind.i64 0) (by kernel_rfl) (by kernel_rfl) (by kernel_rfl) ?_ (fun cf => (by kernel_rfl))
        refine WpOps.made 12 (Value.pointer (some (Addr.mk 1 0 none))) (Blk.mk 98 true [Value.slice none 0 0, Value.int IntKind.i64 0]) (by kernel_rfl) (by kernel_rfl) (by kernel_rfl) ?_ (fun cf => (by kernel_rfl))
        refine WpOps.laid (Value.tuple #[]) (1) (Blk.mk 98 true [Value.iface 3 (Value.iface (List.length (En.p (En.mk (nx (En.x e)) (En.p e) (En.to e)))) (Value.iface (En.x (En.mk (nx (En.x e)) (En.p e) (En.to e))) (Value.agg (List.toArray (List.map (fun n => Value.int IntKind.i64 n) (En.p (En.mk (nx (En.x e)) (En.p e) (En.to e)))))))), Value.int IntKind.i64 (En.to (En.mk (nx (En.x e)) (En.p e) (En.to e)))]) (by kernel_rfl) (by kernel_rfl) (by kernel_rfl) ?_ (fun cf => (by kernel_rfl))
        refine WpOps.keep 13 (Value.int IntKind.i64 0) (by kernel_rfl) (by kernel_rfl) (by kernel_rfl) ?_ (fun cf => (by kernel_rfl))
        refine WpOps.nil ?_
        refine thenK_at ?_
        refine Wp.seq ?_
        refine Wp.seq ?_
        refine Wp.text ?_
        refine WpOps.keep 35 (Value.int IntKind.i64 0) (by kernel_rfl) (by kernel_rfl) (by kernel_rfl) ?_ (fun cf => (by kernel_rfl))
        refine WpOps.keep 36 (Value.bool false) (by kernel_rfl) (by kernel_rfl) (by kernel_rfl) ?_ (fun cf => (by kernel_rfl))
        refine WpOps.keep 37 (Value.bool false) (by kernel_rfl) (by kernel_rfl) (by kernel_rfl) ?_ (fun cf => (by kernel_rfl))
        refine WpOps.unmet 38 (by kernel_rfl) (by kernel_rfl) (by kernel_rfl) ?_
        refine WpOps.unmet 39 (by kernel_rfl) (by kernel_rfl) (by kernel_rfl) ?_
        refine WpOps.keep 40 (Value.bool false) (by kernel_rfl) (by kernel_rfl) (by kernel_rfl) ?_ (fun cf => (by kernel_rfl))
        refine WpOps.nil ?_
        refine thenK_at ?_
        refine Wp.off (by kernel_rfl) ?_
        refine Wp.skip ?_
        refine thenK_at ?_
        refine Wp.seq ?_
        refine Wp.seq ?_
        refine Wp.text ?_
        refine WpOps.keep 42 (Value.pointer (some (Addr.mk 0 3 none))) (by kernel_rfl) (by kernel_rfl) (by kernel_rfl) ?_ (fun cf => (by kernel_rfl))
        refine WpOps.keep 43 (Value.int IntKind.i64 (Gr.life g)) (by kernel_rfl) (by kernel_rfl) (by kernel_rfl) ?_ (fun cf => (by kernel_rfl))
        refine WpOps.keep 44 (Value.bool false) (by kernel_rfl) (by kernel_rfl) (by kernel_rfl) ?_ (fun cf => by_fact z1 ((by kernel_rfl)))
        refine WpOps.nil ?_
        refine thenK_at ?_
        refine Wp.off (by kernel_rfl) ?_
        refine Wp.skip ?_
        refine thenK_at ?_
        refine Wp.seq ?_
        refine Wp.seq ?_
        refine Wp.text ?_
        refine WpOps.keep 48 (Value.int IntKind.i64 0) (by kernel_rfl) (by kernel_rfl) (by kernel_rfl) ?_ (fun cf => (by kernel_rfl))
        refine WpOps.keep 49 (Value.bool false) (by kernel_rfl) (by kernel_rfl) (by kernel_rfl) ?_ (fun cf => (by kernel_rfl))
        refine WpOps.nil ?_
        refine thenK_at ?_
        refine Wp.off (by kernel_rfl) ?_
        refine Wp.skip ?_
        refine thenK_at ?_
        refine Wp.seq ?_
        refine Wp.seq ?_
        refine Wp.text ?_
        refine WpOps.keep 53 (Value.pointer (some (Addr.mk 1 1 none))) (by kernel_rfl) (by kernel_rfl) (by kernel_rfl) ?_ (fun cf => (by kernel_rfl))
        refine WpOps.keep 54 (Value.int IntKind.i64 (En.to (En.mk (nx (En.x e)) (En.p e) (En.to e)))) (by kernel_rfl) (by kernel_rfl) (by kernel_rfl) ?_ (fun cf => (by kernel_rfl))
        refine WpOps.keep 55 (Value.iface 76 (Value.iface (List.length ls) (Value.iface xl (Value.agg (List.toArray (List.flatMap lc ls)))))) (by kernel_rfl) (by kernel_rfl) (by kernel_rfl) ?_ (fun cf => (by kernel_rfl))
        refine WpOps.keep 56 (Value.int IntKind.i64 (↑(List.length ls) : Int)) (by kernel_rfl) (by kernel_rfl) (by kernel_rfl) ?_ (fun cf => (by kernel_rfl))
        refine WpOps.keep 57 (Value.bool true) (by kernel_rfl) (by kernel_rfl) (by kernel_rfl) ?_ (fun cf => by_fact z2 ((by kernel_rfl)))
        refine WpOps.nil ?_
        refine thenK_at ?_
        refine Wp.on (by kernel_rfl) ?_
        refine Wp.seq ?_
        refine Wp.text ?_
        refine WpOps.keep 8 (Value.slice none 0 0) (by kernel_rfl) (by kernel_rfl) (by kernel_rfl) ?_ (fun cf => (by kernel_rfl))
        refine WpOps.keep 9 (Value.int IntKind.i64 0) (by kernel_rfl) (by kernel_rfl) (by kernel_rfl) ?_ (fun cf => (by kernel_rfl))
        refine WpOps.keep 10 (Value.slice none 0 0) (by kernel_rfl) (by kernel_rfl) (by kernel_rfl) ?_ (fun cf => (by kernel_rfl))
        refine WpOps.keep 11 (Value.int IntKind.i64 1) (by kernel_rfl) (by kernel_rfl) (by kernel_rfl) ?_ (fun cf => (by kernel_rfl))
        refine WpOps.nil ?_
        refine thenK_at ?_
        refine Wp.ret ?_
        refine thenK_ret ?_
        refine endK_retn [Value.slice none 0 0, Value.int IntKind.i64 0, Value.slice none 0 0, Value.int IntKind.i64 1] (Value.tuple #[Value.slice none 0 0, Value.int IntKind.i64 0, Value.slice none 0 0, Value.int IntKind.i64 1]) (by kernel_rfl) (by kernel_rfl) ?_
        kernel_rfl
      · have z2 : decide (e.to ≥ ls.length) = false := decide_eq_false ht
        rw [if_neg ht]
        have i1 : 0 ≤ e.to ∧ e.to < ls.length := by omega
        obtain ⟨s1, s2⟩ := line_ok h2 (i := e.to.toNat) (by omega)
        have hv : (List.flatMap lc ls)[e.to.toNat * 2 + 1]? = some (.int .i64 (ls.getD e.to.toNat ⟨0, 0⟩).size) := by
          rw [flat_get lc 2 (fun _ => rfl) ls e.to.toNat 1 (by omega) (by omega), List.getD_eq_getElem?_getD, List.getElem?_eq_getElem (show e.to.toNat < ls.length by omega)]
          rfl
        have c5 := cut45 (lifeDown g) (ok_life og) (ls.getD e.to.toNat ⟨0, 0⟩).size s1 s2 hd
        cases hc : cutL (lifeDown g) (ls.getD e.to.toNat ⟨0, 0⟩).size with
        | none =>
          rw [hc] at c5
          refine Wp.seq ?_
          refine Wp.text ?_
          refine WpOps.made 7 (Value.pointer (some (Addr.mk 0 0 none))) (Blk.mk 24 true [Value.iface 3 (Value.iface (List.length (Gr.fr g)) (Value.iface (Gr.fx g) (Value.agg (List.toArray (List.map (fun n => Value.int IntKind.i64 n) (Gr.fr g)))))), Value.iface 3 (Value.iface (List.length (Gr.to g)) (Value.iface (Gr.tx g) (Value.agg (List.toArray (List.map (fun n => Value.int IntKind.i64 n) (Gr.to g)))))), Value.int IntKind.i64 (Gr.number g), Value.int IntKind.i64 (Gr.life g), Value.int IntKind.i64 (Gr.at' g), Value.int IntKind.i64 (Gr.total g), Value.int IntKind.i64 (Gr.report g), Value.bool (Gr.more g), Value.bool (Gr.may g), Value.bool (Gr.wants g), Value.string (Gr.data g)]) (by kernel_rfl) (by kernel_rfl) (by kernel_rfl) ?_ (fun cf => (by kernel_rfl))
          refine WpOps.keep 8 (Value.slice none 0 0) (by kernel_rfl) (by kernel_rfl) (by kernel_rfl) ?_ (fun cf => (by kernel_rfl))
          refine WpOps.keep 9 (Value.int IntKind.i64 0) (by kernel_rfl) (by kernel_rfl) (by kernel_rfl) ?_ (fun cf => (by kernel_rfl))
          refine WpOps.keep 10 (Value.slice none 0 0) (by kernel_rfl) (by kernel_rfl) (by kernel_rfl) ?_ (fun cf => (by kernel_rfl))
          refine WpOps.keep 11 (Value.int IntKind.i64 0) (by kernel_rfl) (by kernel_rfl) (by kernel_rfl) ?_ (fun cf => (by kernel_rfl))
          refine WpOps.nil ?_
          refine thenK_at ?_
          refine Wp.seq ?_
          refine Wp.seq ?_
          refine Wp.text ?_
          refine WpOps.keep 16 (Value.iface 3 (Value.iface (List.length me) (Value.iface x (Value.agg (List.toArray (List.map (fun n => Value.int IntKind.i64 n) me)))))) (by kernel_rfl) (by kernel_rfl) (by kernel_rfl) ?_ (fun cf => (by kernel_rfl))
          refine WpOps.framed 17 49 [Value.iface 3 (Value.iface (List.length me) (Value.iface x (Value.agg (List.toArray (List.map (fun n => Value.int IntKind.i64 n) me)))))] (by kernel_rfl) (by kernel_rfl) (by kernel_rfl) (by kernel_rfl) (by kernel_rfl) (fun cf => (by kernel_rfl)) ?_
          refine WpFun.of (c1) ?_
          refine WpOps.keep 18 (Value.bool false) (by kernel_rfl) (by kernel_rfl) (by kernel_rfl) ?_ (fun cf => (by kernel_rfl))
          refine WpOps.keep 19 (Value.bool false) (by kernel_rfl) (by kernel_rfl) (by kernel_rfl) ?_ (fun cf => (by kernel_rfl))
          refine WpOps.keep 20 (Value.iface 76 (Value.iface (List.length ls) (Value.iface xl (Value.agg (List.toArray (List.flatMap lc ls)))))) (by kernel_rfl) (by kernel_rfl) (by kernel_rfl) ?_ (fun cf => (by kernel_rfl))
          refine WpOps.framed 21 71 [Value.iface 76 (Value.iface (List.length ls) (Value.iface xl (Value.agg (List.toArray (List.flatMap lc ls))))), Value.func (Fn.func 72) #[] #[]] (by kernel_rfl) (by kernel_rfl) (by kernel_rfl) (by kernel_rfl) (by kernel_rfl) (fun cf => (by kernel_rfl)) ?_
          refine WpFun.of (c2) ?_
          refine WpOps.keep 22 (Value.bool false) (by kernel_rfl) (by kernel_rfl) (by kernel_rfl) ?_ (fun cf => (by kernel_rfl))
          refine WpOps.keep 23 (Value.bool false) (by kernel_rfl) (by kernel_rfl) (by kernel_rfl) ?_ (fun cf => (by kernel_rfl))
          refine WpOps.keep 24 (Value.agg #[Value.iface 3 (Value.iface (List.length (Gr.fr g)) (Value.iface (Gr.fx g) (Value.agg (List.toArray (List.map (fun n => Value.int IntKind.i64 n) (Gr.fr g)))))), Value.iface 3 (Value.iface (List.length (Gr.to g)) (Value.iface (Gr.tx g) (Value.agg (List.toArray (List.map (fun n => Value.int IntKind.i64 n) (Gr.to g)))))), Value.int IntKind.i64 (Gr.number g), Value.int IntKind.i64 (Gr.life g), Value.int IntKind.i64 (Gr.at' g), Value.int IntKind.i64 (Gr.total g), Value.int IntKind.i64 (Gr.report g), Value.bool (Gr.more g), Value.bool (Gr.may g), Value.bool (Gr.wants g), Value.string (Gr.data g)]) (by kernel_rfl) (by kernel_rfl) (by kernel_rfl) ?_ (fun cf => (by kernel_rfl))
          refine WpOps.framed 25 20 [Value.agg #[Value.iface 3 (Value.iface (List.length (Gr.fr g)) (Value.iface (Gr.fx g) (Value.agg (List.toArray (List.map (fun n => Value.int IntKind.i64 n) (Gr.fr g)))))), Value.iface 3 (Value.iface (List.length (Gr.to g)) (Value.iface (Gr.tx g) (Value.agg (List.toArray (List.map (fun n => Value.int IntKind.i64 n) (Gr.to g)))))), Value.int IntKind.i64 (Gr.number g), Value.int IntKind.i64 (Gr.life g), Value.int IntKind.i64 (Gr.at' g), Value.int IntKind.i64 (Gr.total g), Value.int IntKind.i64 (Gr.report g), Value.bool (Gr.more g), Value.bool (Gr.may g), Value.bool (Gr.wants g), Value.string (Gr.data g)]] (by kernel_rfl) (by kernel_rfl) (by kernel_rfl) (by kernel_rfl) (by kernel_rfl) (fun cf => (by kernel_rfl)) ?_
          refine WpFun.of (c3) ?_
          refine WpOps.keep 26 (Value.bool false) (by kernel_rfl) (by kernel_rfl) (by kernel_rfl) ?_ (fun cf => (by kernel_rfl))
          refine WpOps.keep 27 (Value.bool false) (by kernel_rfl) (by kernel_rfl) (by kernel_rfl) ?_ (fun cf => (by kernel_rfl))
          refine WpOps.nil ?_
          refine thenK_at ?_
          refine Wp.off (by kernel_rfl) ?_
          refine Wp.skip ?_
          refine thenK_at ?_
          refine Wp.seq ?_
          refine Wp.text ?_
          refine WpOps.keep 29 (Value.iface 98 (Value.iface (List.length l) (Value.iface xt (Value.agg (List.toArray (List.flatMap ec l)))))) (by kernel_rfl) (by kernel_rfl) (by kernel_rfl) ?_ (fun cf => (by kernel_rfl))
          refine WpOps.keep 30 (Value.pointer (some (Addr.mk 0 1 none))) (by kernel_rfl) (by kernel_rfl) (by kernel_rfl) ?_ (fun cf => (by kernel_rfl))
          refine WpOps.keep 31 (Value.iface 3 (Value.iface (List.length (Gr.to g)) (Value.iface (Gr.tx g) (Value.agg (List.toArray (List.map (fun n => Value.int IntKind.i64 n) (Gr.to g))))))) (by kernel_rfl) (by kernel_rfl) (by kernel_rfl) ?_ (fun cf => (by kernel_rfl))
          refine WpOps.framed 32 73 [Value.iface 98 (Value.iface (List.length l) (Value.iface xt (Value.agg (List.toArray (List.flatMap ec l))))), Value.iface 3 (Value.iface (List.length (Gr.to g)) (Value.iface (Gr.tx g) (Value.agg (List.toArray (List.map (fun n => Value.int IntKind.i64 n) (Gr.to g))))))] (by kernel_rfl) (by kernel_rfl) (by kernel_rfl) (by kernel_rfl) (by kernel_rfl) (fun cf => (by kernel_rfl)) ?_
          refine WpFun.of (c4) ?_
          refine WpOps.keep 28 (Value.tuple #[evl (En.mk (nx (En.x e)) (En.p e) (En.to e)), Value.int IntKind.i64 0]) (by kernel_rfl) (by kernel_rfl) (by kernel_rfl) ?_ (fun cf => (by kernel_rfl))
          refine WpOps.keep 33 (Value.agg (List.toArray (ec (En.mk (nx (En.x e)) (En.p e) (En.to e))))) (by kernel_rfl) (by kernel_rfl) (by kernel_rfl) ?_ (fun cf => (by kernel_rfl))
          refine WpOps.keep 34 (Value.int IntKind.i64 0) (by kernel_rfl) (by kernel_rfl) (by kernel_rfl) ?_ (fun cf => (by kernel_rfl))
          refine WpOps.made 12 (Value.pointer (some (Addr.mk 1 0 none))) (Blk.mk 98 true [Value.slice none 0 0, Value.int IntKind.i64 0]) (by kernel_rfl) (by kernel_rfl) (by kernel_rfl) ?_ (fun cf => (by kernel_rfl))
          refine WpOps.laid (Value.tuple #[]) (1) (Blk.mk 98 true [Value.iface 3 (Value.iface (List.length (En.p (En.mk (nx (En.x e)) (En.p e) (En.to e)))) (Value.iface (En.x (En.mk (nx (En.x e)) (En.p e) (En.to e))) (Value.agg (List.toArray (List.map (fun n => Value.int IntKind.i64 n) (En.p (En.mk (nx (En.x e)) (En.p e) (En.to e)))))))), Value.int IntKind.i64 (En.to (En.mk (nx (En.x e)) (En.p e) (En.to e)))]) (by kernel_rfl) (by kernel_rfl) (by kernel_rfl) ?_ (fun cf => (by kernel_rfl))
          refine WpOps.keep 13 (Value.int IntKind.i64 0) (by kernel_rfl) (by kernel_rfl) (by kernel_rfl) ?_ (fun cf => (by kernel_rfl))
          refine WpOps.nil ?_
          refine thenK_at ?_
          refine Wp.seq ?_
          refine Wp.seq ?_
          refine Wp.text ?_
          refine WpOps.keep 35 (Value.int IntKind.i64 0) (by kernel_rfl) (by kernel_rfl) (by kernel_rfl) ?_ (fun cf => (by kernel_rfl))
          refine WpOps.keep 36 (Value.bool false) (by kernel_rfl) (by kernel_rfl) (by kernel_rfl) ?_ (fun cf => (by kernel_rfl))
          refine WpOps.keep 37 (Value.bool false) (by kernel_rfl) (by kernel_rfl) (by kernel_rfl) ?_ (fun cf => (by kernel_rfl))
          refine WpOps.unmet 38 (by kernel_rfl) (by kernel_rfl) (by kernel_rfl) ?_
          refine WpOps.unmet 39 (by kernel_rfl) (by kernel_rfl) (by kernel_rfl) ?_
          refine WpOps.keep 40 (Value.bool false) (by kernel_rfl) (by kernel_rfl) (by kernel_rfl) ?_ (fun cf => (by kernel_rfl))
          refine WpOps.nil ?_
          refine thenK_at ?_
          refine Wp.off (by kernel_rfl) ?_
          refine Wp.skip ?_
          refine thenK_at ?_
          refine Wp.seq ?_
          refine Wp.seq ?_
          refine Wp.text ?_
          refine WpOps.keep 42 (Value.pointer (some (Addr.mk 0 3 none))) (by kernel_rfl) (by kernel_rfl) (by kernel_rfl) ?_ (fun cf => (by kernel_rfl))
          refine WpOps.keep 43 (Value.int IntKind.i64 (Gr.life g)) (by kernel_rfl) (by kernel_rfl) (by kernel_rfl) ?_ (fun cf => (by kernel_rfl))
          refine WpOps.keep 44 (Value.bool false) (by kernel_rfl) (by kernel_rfl) (by kernel_rfl) ?_ (fun cf => by_fact z1 ((by kernel_rfl)))
          refine WpOps.nil ?_
          refine thenK_at ?_
          refine Wp.off (by kernel_rfl) ?_
          refine Wp.skip ?_
          refine thenK_at ?_
          refine Wp.seq ?_
          refine Wp.seq ?_
          refine Wp.text ?_
          refine WpOps.keep 48 (Value.int IntKind.i64 0) (by kernel_rfl) (by kernel_rfl) (by kernel_rfl) ?_ (fun cf => (by kernel_rfl))
          refine WpOps.keep 49 (Value.bool false) (by kernel_rfl) (by kernel_rfl) (by kernel_rfl) ?_ (fun cf => (by kernel_rfl))
          refine WpOps.nil ?_
          refine thenK_at ?_
          refine Wp.off (by kernel_rfl) ?_
          refine Wp.skip ?_
          refine thenK_at ?_
          refine Wp.seq ?_
          refine Wp.seq ?_
          refine Wp.text ?_
          refine WpOps.keep 53 (Value.pointer (some (Addr.mk 1 1 none))) (by kernel_rfl) (by kernel_rfl) (by kernel_rfl) ?_ (fun cf => (by kernel_rfl))
          refine WpOps.keep 54 (Value.int IntKind.i64 (En.to (En.mk (nx (En.x e)) (En.p e) (En.to e)))) (by kernel_rfl) (by kernel_rfl) (by kernel_rfl) ?_ (fun cf => (by kernel_rfl))
          refine WpOps.keep 55 (Value.iface 76 (Value.iface (List.length ls) (Value.iface xl (Value.agg (List.toArray (List.flatMap lc ls)))))) (by kernel_rfl) (by kernel_rfl) (by kernel_rfl) ?_ (fun cf => (by kernel_rfl))
          refine WpOps.keep 56 (Value.int IntKind.i64 (↑(List.length ls) : Int)) (by kernel_rfl) (by kernel_rfl) (by kernel_rfl) ?_ (fun cf => (by kernel_rfl))
          refine WpOps.keep 57 (Value.bool false) (by kernel_rfl) (by kernel_rfl) (by kernel_rfl) ?_ (fun cf => by_fact z2 ((by kernel_rfl)))
          refine WpOps.nil ?_
          refine thenK_at ?_
          refine Wp.off (by kernel_rfl) ?_
          refine Wp.skip ?_
          refine thenK_at ?_
          refine Wp.seq ?_
          refine Wp.text ?_
          refine WpOps.keep 58 (Value.pointer (some (Addr.mk 0 3 none))) (by kernel_rfl) (by kernel_rfl) (by kernel_rfl) ?_ (fun cf => (by kernel_rfl))
          refine WpOps.keep 59 (Value.int IntKind.i64 (Gr.life g)) (by kernel_rfl) (by kernel_rfl) (by kernel_rfl) ?_ (fun cf => (by kernel_rfl))
          refine WpOps.keep 60 (Value.int IntKind.i64 (IntKind.wrap IntKind.i64 (Gr.life g - 1))) (by kernel_rfl) (by kernel_rfl) (by kernel_rfl) ?_ (fun cf => (by kernel_rfl))
          refine WpOps.keep 61 (Value.pointer (some (Addr.mk 0 3 none))) (by kernel_rfl) (by kernel_rfl) (by kernel_rfl) ?_ (fun cf => (by kernel_rfl))
          refine WpOps.laid (Value.tuple #[]) (0) (Blk.mk 24 true [Value.iface 3 (Value.iface (List.length (Gr.fr g)) (Value.iface (Gr.fx g) (Value.agg (List.toArray (List.map (fun n => Value.int IntKind.i64 n) (Gr.fr g)))))), Value.iface 3 (Value.iface (List.length (Gr.to g)) (Value.iface (Gr.tx g) (Value.agg (List.toArray (List.map (fun n => Value.int IntKind.i64 n) (Gr.to g)))))), Value.int IntKind.i64 (Gr.number g), Value.int IntKind.i64 (IntKind.wrap IntKind.i64 (Gr.life g - 1)), Value.int IntKind.i64 (Gr.at' g), Value.int IntKind.i64 (Gr.total g), Value.int IntKind.i64 (Gr.report g), Value.bool (Gr.more g), Value.bool (Gr.may g), Value.bool (Gr.wants g), Value.string (Gr.data g)]) (by kernel_rfl) (by kernel_rfl) (by kernel_rfl) ?_ (fun cf => (by kernel_rfl))
          refine WpOps.nil ?_
          refine thenK_at ?_
          refine Wp.seq ?_
          refine Wp.region (by kernel_rfl) ?_
          refine WpOps.keep 63 (Value.agg #[Value.iface 3 (Value.iface (List.length (Gr.fr g)) (Value.iface (Gr.fx g) (Value.agg (List.toArray (List.map (fun n => Value.int IntKind.i64 n) (Gr.fr g)))))), Value.iface 3 (Value.iface (List.length (Gr.to g)) (Value.iface (Gr.tx g) (Value.agg (List.toArray (List.map (fun n => Value.int IntKind.i64 n) (Gr.to g)))))), Value.int IntKind.i64 (Gr.number g), Value.int IntKind.i64 (IntKind.wrap IntKind.i64 (Gr.life g - 1)), Value.int IntKind.i64 (Gr.at' g), Value.int IntKind.i64 (Gr.total g), Value.int IntKind.i64 (Gr.report g), Value.bool (Gr.more g), Value.bool (Gr.may g), Value.bool (Gr.wants g), Value.string (Gr.data g)]) (by kernel_rfl) (by kernel_rfl) (by kernel_rfl) ?_ (fun cf => (by kernel_rfl))
          refine WpOps.keep 64 (Value.iface 76 (Value.iface (List.length ls) (Value.iface xl (Value.agg (List.toArray (List.flatMap lc ls)))))) (by kernel_rfl) (by kernel_rfl) (by kernel_rfl) ?_ (fun cf => (by kernel_rfl))
          refine WpOps.keep 65 (Value.pointer (some (Addr.mk 1 1 none))) (by kernel_rfl) (by kernel_rfl) (by kernel_rfl) ?_ (fun cf => (by kernel_rfl))
          refine WpOps.keep 66 (Value.int IntKind.i64 (En.to (En.mk (nx (En.x e)) (En.p e) (En.to e)))) (by kernel_rfl) (by kernel_rfl) (by kernel_rfl) ?_ (fun cf => (by kernel_rfl))
          refine WpOps.keep 67 (Value.iface 76 (Value.iface (Int.toNat (En.to (En.mk (nx (En.x e)) (En.p e) (En.to e))) * 2) (Value.agg (List.toArray (List.flatMap lc ls))))) (by kernel_rfl) (by kernel_rfl) (by kernel_rfl) ?_ (fun cf => o_indexI (e := 76) (size := 2) (a := En.to (En.mk (nx (En.x e)) (En.p e) (En.to e))) i1 (by kernel_rfl) (by kernel_rfl) (by kernel_rfl) (by kernel_rfl))
          refine WpOps.keep 68 (Value.iface 76 (Value.iface (Int.toNat (En.to (En.mk (nx (En.x e)) (En.p e) (En.to e))) * 2 + 1) (Value.agg (List.toArray (List.flatMap lc ls))))) (by kernel_rfl) (by kernel_rfl) (by kernel_rfl) ?_ (fun cf => (by kernel_rfl))
          refine WpOps.keep 69 (Value.int IntKind.i64 (Ln.size (List.getD ls (Int.toNat (En.to e)) (Ln.mk 0 0)))) (by kernel_rfl) (by kernel_rfl) (by kernel_rfl) ?_ (fun cf => o_loadI1 (Int.toNat (En.to (En.mk (nx (En.x e)) (En.p e) (En.to e))) * 2 + 1) hv (by kernel_rfl) (by kernel_rfl))
          refine WpOps.framed 70 45 [Value.agg #[Value.iface 3 (Value.iface (List.length (Gr.fr g)) (Value.iface (Gr.fx g) (Value.agg (List.toArray (List.map (fun n => Value.int IntKind.i64 n) (Gr.fr g)))))), Value.iface 3 (Value.iface (List.length (Gr.to g)) (Value.iface (Gr.tx g) (Value.agg (List.toArray (List.map (fun n => Value.int IntKind.i64 n) (Gr.to g)))))), Value.int IntKind.i64 (Gr.number g), Value.int IntKind.i64 (IntKind.wrap IntKind.i64 (Gr.life g - 1)), Value.int IntKind.i64 (Gr.at' g), Value.int IntKind.i64 (Gr.total g), Value.int IntKind.i64 (Gr.report g), Value.bool (Gr.more g), Value.bool (Gr.may g), Value.bool (Gr.wants g), Value.string (Gr.data g)], Value.int IntKind.i64 (Ln.size (List.getD ls (Int.toNat (En.to e)) (Ln.mk 0 0)))] (by kernel_rfl) (by kernel_rfl) (by kernel_rfl) (by kernel_rfl) (by kernel_rfl) (fun cf => (by kernel_rfl)) ?_
          refine WpFun.of (c5) ?_
          refine WpOps.keep 62 (Value.tuple #[Value.slice none 0 0, Value.bool false]) (by kernel_rfl) (by kernel_rfl) (by kernel_rfl) ?_ (fun cf => (by kernel_rfl))
          refine WpOps.keep 71 (Value.slice none 0 0) (by kernel_rfl) (by kernel_rfl) (by kernel_rfl) ?_ (fun cf => (by kernel_rfl))
          refine WpOps.keep 72 (Value.bool false) (by kernel_rfl) (by kernel_rfl) (by kernel_rfl) ?_ (fun cf => (by kernel_rfl))
          refine WpOps.keep 14 (Value.slice none 0 0) (by kernel_rfl) (by kernel_rfl) (by kernel_rfl) ?_ (fun cf => (by kernel_rfl))
          refine WpOps.keep 15 (Value.bool false) (by kernel_rfl) (by kernel_rfl) (by kernel_rfl) ?_ (fun cf => (by kernel_rfl))
          refine WpOps.nil ?_
          refine thenK_at ?_
          refine Wp.seq ?_
          refine Wp.seq ?_
          refine Wp.text ?_
          refine WpOps.keep 73 (Value.bool false) (by kernel_rfl) (by kernel_rfl) (by kernel_rfl) ?_ (fun cf => (by kernel_rfl))
          refine WpOps.keep 74 (Value.bool true) (by kernel_rfl) (by kernel_rfl) (by kernel_rfl) ?_ (fun cf => (by kernel_rfl))
          refine WpOps.nil ?_
          refine thenK_at ?_
          refine Wp.on (by kernel_rfl) ?_
          refine Wp.seq ?_
          refine Wp.text ?_
          refine WpOps.keep 75 (Value.iface 3 (Value.iface (List.length me) (Value.iface x (Value.agg (List.toArray (List.map (fun n => Value.int IntKind.i64 n) me)))))) (by kernel_rfl) (by kernel_rfl) (by kernel_rfl) ?_ (fun cf => (by kernel_rfl))
          refine WpOps.keep 76 (Value.agg #[Value.iface 3 (Value.iface (List.length (Gr.fr g)) (Value.iface (Gr.fx g) (Value.agg (List.toArray (List.map (fun n => Value.int IntKind.i64 n) (Gr.fr g)))))), Value.iface 3 (Value.iface (List.length (Gr.to g)) (Value.iface (Gr.tx g) (Value.agg (List.toArray (List.map (fun n => Value.int IntKind.i64 n) (Gr.to g)))))), Value.int IntKind.i64 (Gr.number g), Value.int IntKind.i64 (IntKind.wrap IntKind.i64 (Gr.life g - 1)), Value.int IntKind.i64 (Gr.at' g), Value.int IntKind.i64 (Gr.total g), Value.int IntKind.i64 (Gr.report g), Value.bool (Gr.more g), Value.bool (Gr.may g), Value.bool (Gr.wants g), Value.string (Gr.data g)]) (by kernel_rfl) (by kernel_rfl) (by kernel_rfl) ?_ (fun cf => (by kernel_rfl))
          refine WpOps.framed 77 68 [Value.iface 3 (Value.iface (List.length me) (Value.iface x (Value.agg (List.toArray (List.map (fun n => Value.int IntKind.i64 n) me))))), Value.agg #[Value.iface 3 (Value.iface (List.length (Gr.fr g)) (Value.iface (Gr.fx g) (Value.agg (List.toArray (List.map (fun n => Value.int IntKind.i64 n) (Gr.fr g)))))), Value.iface 3 (Value.iface (List.length (Gr.to g)) (Value.iface (Gr.tx g) (Value.agg (List.toArray (List.map (fun n => Value.int IntKind.i64 n) (Gr.to g)))))), Value.int IntKind.i64 (Gr.number g), Value.int IntKind.i64 (IntKind.wrap IntKind.i64 (Gr.life g - 1)), Value.int IntKind.i64 (Gr.at' g), Value.int IntKind.i64 (Gr.total g), Value.int IntKind.i64 (Gr.report g), Value.bool (Gr.more g), Value.bool (Gr.may g), Value.bool (Gr.wants g), Value.string (Gr.data g)], Value.int IntKind.i64 3] (by kernel_rfl) (by kernel_rfl) (by kernel_rfl) (by kernel_rfl) (by kernel_rfl) (fun cf => (by kernel_rfl)) ?_
          refine WpFun.of (d3) ?_
          refine WpOps.keep 8 (Value.slice none 0 0) (by kernel_rfl) (by kernel_rfl) (by kernel_rfl) ?_ (fun cf => (by kernel_rfl))
          refine WpOps.keep 9 (Value.int IntKind.i64 (-1)) (by kernel_rfl) (by kernel_rfl) (by kernel_rfl) ?_ (fun cf => (by kernel_rfl))
          refine WpOps.keep 10 (Value.iface 24 (Value.iface (List.length (repL x me g 3)) (Value.iface (wx g) (Value.agg (List.toArray (cellsG (repL x me g 3))))))) (by kernel_rfl) (by kernel_rfl) (by kernel_rfl) ?_ (fun cf => (by kernel_rfl))
          refine WpOps.keep 11 (Value.int IntKind.i64 0) (by kernel_rfl) (by kernel_rfl) (by kernel_rfl) ?_ (fun cf => (by kernel_rfl))
          refine WpOps.nil ?_
          refine thenK_at ?_
          refine Wp.ret ?_
          refine thenK_ret ?_
          refine endK_retn [Value.slice none 0 0, Value.int IntKind.i64 (-1), Value.iface 24 (Value.iface (List.length (repL x me g 3)) (Value.iface (wx g) (Value.agg (List.toArray (cellsG (repL x me g 3)))))), Value.int IntKind.i64 0] (Value.tuple #[Value.slice none 0 0, Value.int IntKind.i64 (-1), Value.iface 24 (Value.iface (List.length (repL x me g 3)) (Value.iface (wx g) (Value.agg (List.toArray (cellsG (repL x me g 3)))))), Value.int IntKind.i64 0]) (by kernel_rfl) (by kernel_rfl) ?_
          kernel_rfl
        | some o =>
          rw [hc] at c5
          refine Wp.seq ?_
          refine Wp.text ?_
          refine WpOps.made 7 (Value.pointer (some (Addr.mk 0 0 none))) (Blk.mk 24 true [Value.iface 3 (Value.iface (List.length (Gr.fr g)) (Value.iface (Gr.fx g) (Value.agg (List.toArray (List.map (fun n => Value.int IntKind.i64 n) (Gr.fr g)))))), Value.iface 3 (Value.iface (List.length (Gr.to g)) (Value.iface (Gr.tx g) (Value.agg (List.toArray (List.map (fun n => Value.int IntKind.i64 n) (Gr.to g)))))), Value.int IntKind.i64 (Gr.number g), Value.int IntKind.i64 (Gr.life g), Value.int IntKind.i64 (Gr.at' g), Value.int IntKind.i64 (Gr.total g), Value.int IntKind.i64 (Gr.report g), Value.bool (Gr.more g), Value.bool (Gr.may g), Value.bool (Gr.wants g), Value.string (Gr.data g)]) (by kernel_rfl) (by kernel_rfl) (by kernel_rfl) ?_ (fun cf => (by kernel_rfl))
          refine WpOps.keep 8 (Value.slice none 0 0) (by kernel_rfl) (by kernel_rfl) (by kernel_rfl) ?_ (fun cf => (by kernel_rfl))
          refine WpOps.keep 9 (Value.int IntKind.i64 0) (by kernel_rfl) (by kernel_rfl) (by kernel_rfl) ?_ (fun cf => (by kernel_rfl))
          refine WpOps.keep 10 (Value.slice none 0 0) (by kernel_rfl) (by kernel_rfl) (by kernel_rfl) ?_ (fun cf => (by kernel_rfl))
          refine WpOps.keep 11 (Value.int IntKind.i64 0) (by kernel_rfl) (by kernel_rfl) (by kernel_rfl) ?_ (fun cf => (by kernel_rfl))
          refine WpOps.nil ?_
          refine thenK_at ?_
          refine Wp.seq ?_
          refine Wp.seq ?_
          refine Wp.text ?_
          refine WpOps.keep 16 (Value.iface 3 (Value.iface (List.length me) (Value.iface x (Value.agg (List.toArray (List.map (fun n => Value.int IntKind.i64 n) me)))))) (by kernel_rfl) (by kernel_rfl) (by kernel_rfl) ?_ (fun cf => (by kernel_rfl))
          refine WpOps.framed 17 49 [Value.iface 3 (Value.iface (List.length me) (Value.iface x (Value.agg (List.toArray (List.map (fun n => Value.int IntKind.i64 n) me)))))] (by kernel_rfl) (by kernel_rfl) (by kernel_rfl) (by kernel_rfl) (by kernel_rfl) (fun cf => (by kernel_rfl)) ?_
          refine WpFun.of (c1) ?_
          refine WpOps.keep 18 (Value.bool false) (by kernel_rfl) (by kernel_rfl) (by kernel_rfl) ?_ (fun cf => (by kernel_rfl))
          refine WpOps.keep 19 (Value.bool false) (by kernel_rfl) (by kernel_rfl) (by kernel_rfl) ?_ (fun cf => (by kernel_rfl))
          refine WpOps.keep 20 (Value.iface 76 (Value.iface (List.length ls) (Value.iface xl (Value.agg (List.toArray (List.flatMap lc ls)))))) (by kernel_rfl) (by kernel_rfl) (by kernel_rfl) ?_ (fun cf => (by kernel_rfl))
          refine WpOps.framed 21 71 [Value.iface 76 (Value.iface (List.length ls) (Value.iface xl (Value.agg (List.toArray (List.flatMap lc ls))))), Value.func (Fn.func 72) #[] #[]] (by kernel_rfl) (by kernel_rfl) (by kernel_rfl) (by kernel_rfl) (by kernel_rfl) (fun cf => (by kernel_rfl)) ?_
          refine WpFun.of (c2) ?_
          refine WpOps.keep 22 (Value.bool false) (by kernel_rfl) (by kernel_rfl) (by kernel_rfl) ?_ (fun cf => (by kernel_rfl))
          refine WpOps.keep 23 (Value.bool false) (by kernel_rfl) (by kernel_rfl) (by kernel_rfl) ?_ (fun cf => (by kernel_rfl))
          refine WpOps.keep 24 (Value.agg #[Value.iface 3 (Value.iface (List.length (Gr.fr g)) (Value.iface (Gr.fx g) (Value.agg (List.toArray (List.map (fun n => Value.int IntKind.i64 n) (Gr.fr g)))))), Value.iface 3 (Value.iface (List.length (Gr.to g)) (Value.iface (Gr.tx g) (Value.agg (List.toArray (List.map (fun n => Value.int IntKind.i64 n) (Gr.to g)))))), Value.int IntKind.i64 (Gr.number g), Value.int IntKind.i64 (Gr.life g), Value.int IntKind.i64 (Gr.at' g), Value.int IntKind.i64 (Gr.total g), Value.int IntKind.i64 (Gr.report g), Value.bool (Gr.more g), Value.bool (Gr.may g), Value.bool (Gr.wants g), Value.string (Gr.data g)]) (by kernel_rfl) (by kernel_rfl) (by kernel_rfl) ?_ (fun cf => (by kernel_rfl))
          refine WpOps.framed 25 20 [Value.agg #[Value.iface 3 (Value.iface (List.length (Gr.fr g)) (Value.iface (Gr.fx g) (Value.agg (List.toArray (List.map (fun n => Value.int IntKind.i64 n) (Gr.fr g)))))), Value.iface 3 (Value.iface (List.length (Gr.to g)) (Value.iface (Gr.tx g) (Value.agg (List.toArray (List.map (fun n => Value.int IntKind.i64 n) (Gr.to g)))))), Value.int IntKind.i64 (Gr.number g), Value.int IntKind.i64 (Gr.life g), Value.int IntKind.i64 (Gr.at' g), Value.int IntKind.i64 (Gr.total g), Value.int IntKind.i64 (Gr.report g), Value.bool (Gr.more g), Value.bool (Gr.may g), Value.bool (Gr.wants g), Value.string (Gr.data g)]] (by kernel_rfl) (by kernel_rfl) (by kernel_rfl) (by kernel_rfl) (by kernel_rfl) (fun cf => (by kernel_rfl)) ?_
          refine WpFun.of (c3) ?_
          refine WpOps.keep 26 (Value.bool false) (by kernel_rfl) (by kernel_rfl) (by kernel_rfl) ?_ (fun cf => (by kernel_rfl))
          refine WpOps.keep 27 (Value.bool false) (by kernel_rfl) (by kernel_rfl) (by kernel_rfl) ?_ (fun cf => (by kernel_rfl))
          refine WpOps.nil ?_
          refine thenK_at ?_
          refine Wp.off (by kernel_rfl) ?_
          refine Wp.skip ?_
          refine thenK_at ?_
          refine Wp.seq ?_
          refine Wp.text ?_
          refine WpOps.keep 29 (Value.iface 98 (Value.iface (List.length l) (Value.iface xt (Value.agg (List.toArray (List.flatMap ec l)))))) (by kernel_rfl) (by kernel_rfl) (by kernel_rfl) ?_ (fun cf => (by kernel_rfl))
          refine WpOps.keep 30 (Value.pointer (some (Addr.mk 0 1 none))) (by kernel_rfl) (by kernel_rfl) (by kernel_rfl) ?_ (fun cf => (by kernel_rfl))
          refine WpOps.keep 31 (Value.iface 3 (Value.iface (List.length (Gr.to g)) (Value.iface (Gr.tx g) (Value.agg (List.toArray (List.map (fun n => Value.int IntKind.i64 n) (Gr.to g))))))) (by kernel_rfl) (by kernel_rfl) (by kernel_rfl) ?_ (fun cf => (by kernel_rfl))
          refine WpOps.framed 32 73 [Value.iface 98 (Value.iface (List.length l) (Value.iface xt (Value.agg (List.toArray (List.flatMap ec l))))), Value.iface 3 (Value.iface (List.length (Gr.to g)) (Value.iface (Gr.tx g) (Value.agg (List.toArray (List.map (fun n => Value.int IntKind.i64 n) (Gr.to g))))))] (by kernel_rfl) (by kernel_rfl) (by kernel_rfl) (by kernel_rfl) (by kernel_rfl) (fun cf => (by kernel_rfl)) ?_
          refine WpFun.of (c4) ?_
          refine WpOps.keep 28 (Value.tuple #[evl (En.mk (nx (En.x e)) (En.p e) (En.to e)), Value.int IntKind.i64 0]) (by kernel_rfl) (by kernel_rfl) (by kernel_rfl) ?_ (fun cf => (by kernel_rfl))
          refine WpOps.keep 33 (Value.agg (List.toArray (ec (En.mk (nx (En.x e)) (En.p e) (En.to e))))) (by kernel_rfl) (by kernel_rfl) (by kernel_rfl) ?_ (fun cf => (by kernel_rfl))
          refine WpOps.keep 34 (Value.int IntKind.i64 0) (by kernel_rfl) (by kernel_rfl) (by kernel_rfl) ?_ (fun cf => (by kernel_rfl))
          refine WpOps.made 12 (Value.pointer (some (Addr.mk 1 0 none))) (Blk.mk 98 true [Value.slice none 0 0, Value.int IntKind.i64 0]) (by kernel_rfl) (by kernel_rfl) (by kernel_rfl) ?_ (fun cf => (by kernel_rfl))
          refine WpOps.laid (Value.tuple #[]) (1) (Blk.mk 98 true [Value.iface 3 (Value.iface (List.length (En.p (En.mk (nx (En.x e)) (En.p e) (En.to e)))) (Value.iface (En.x (En.mk (nx (En.x e)) (En.p e) (En.to e))) (Value.agg (List.toArray (List.map (fun n => Value.int IntKind.i64 n) (En.p (En.mk (nx (En.x e)) (En.p e) (En.to e)))))))), Value.int IntKind.i64 (En.to (En.mk (nx (En.x e)) (En.p e) (En.to e)))]) (by kernel_rfl) (by kernel_rfl) (by kernel_rfl) ?_ (fun cf => (by kernel_rfl))
          refine WpOps.keep 13 (Value.int IntKind.i64 0) (by kernel_rfl) (by kernel_rfl) (by kernel_rfl) ?_ (fun cf => (by kernel_rfl))
          refine WpOps.nil ?_
          refine thenK_at ?_
          refine Wp.seq ?_
          refine Wp.seq ?_
          refine Wp.text ?_
          refine WpOps.keep 35 (Value.int IntKind.i64 0) (by kernel_rfl) (by kernel_rfl) (by kernel_rfl) ?_ (fun cf => (by kernel_rfl))
          refine WpOps.keep 36 (Value.bool false) (by kernel_rfl) (by kernel_rfl) (by kernel_rfl) ?_ (fun cf => (by kernel_rfl))
          refine WpOps.keep 37 (Value.bool false) (by kernel_rfl) (by kernel_rfl) (by kernel_rfl) ?_ (fun cf => (by kernel_rfl))
          refine WpOps.unmet 38 (by kernel_rfl) (by kernel_rfl) (by kernel_rfl) ?_
          refine WpOps.unmet 39 (by kernel_rfl) (by kernel_rfl) (by kernel_rfl) ?_
          refine WpOps.keep 40 (Value.bool false) (by kernel_rfl) (by kernel_rfl) (by kernel_rfl) ?_ (fun cf => (by kernel_rfl))
          refine WpOps.nil ?_
          refine thenK_at ?_
          refine Wp.off (by kernel_rfl) ?_
          refine Wp.skip ?_
          refine thenK_at ?_
          refine Wp.seq ?_
          refine Wp.seq ?_
          refine Wp.text ?_
          refine WpOps.keep 42 (Value.pointer (some (Addr.mk 0 3 none))) (by kernel_rfl) (by kernel_rfl) (by kernel_rfl) ?_ (fun cf => (by kernel_rfl))
          refine WpOps.keep 43 (Value.int IntKind.i64 (Gr.life g)) (by kernel_rfl) (by kernel_rfl) (by kernel_rfl) ?_ (fun cf => (by kernel_rfl))
          refine WpOps.keep 44 (Value.bool false) (by kernel_rfl) (by kernel_rfl) (by kernel_rfl) ?_ (fun cf => by_fact z1 ((by kernel_rfl)))
          refine WpOps.nil ?_
          refine thenK_at ?_
          refine Wp.off (by kernel_rfl) ?_
          refine Wp.skip ?_
          refine thenK_at ?_
          refine Wp.seq ?_
          refine Wp.seq ?_
          refine Wp.text ?_
          refine WpOps.keep 48 (Value.int IntKind.i64 0) (by kernel_rfl) (by kernel_rfl) (by kernel_rfl) ?_ (fun cf => (by kernel_rfl))
          refine WpOps.keep 49 (Value.bool false) (by kernel_rfl) (by kernel_rfl) (by kernel_rfl) ?_ (fun cf => (by kernel_rfl))
          refine WpOps.nil ?_
          refine thenK_at ?_
          refine Wp.off (by kernel_rfl) ?_
          refine Wp.skip ?_
          refine thenK_at ?_
          refine Wp.seq ?_
          refine Wp.seq ?_
          refine Wp.text ?_
          refine WpOps.keep 53 (Value.pointer (some (Addr.mk 1 1 none))) (by kernel_rfl) (by kernel_rfl) (by kernel_rfl) ?_ (fun cf => (by kernel_rfl))
          refine WpOps.keep 54 (Value.int IntKind.i64 (En.to (En.mk (nx (En.x e)) (En.p e) (En.to e)))) (by kernel_rfl) (by kernel_rfl) (by kernel_rfl) ?_ (fun cf => (by kernel_rfl))
          refine WpOps.keep 55 (Value.iface 76 (Value.iface (List.length ls) (Value.iface xl (Value.agg (List.toArray (List.flatMap lc ls)))))) (by kernel_rfl) (by kernel_rfl) (by kernel_rfl) ?_ (fun cf => (by kernel_rfl))
          refine WpOps.keep 56 (Value.int IntKind.i64 (↑(List.length ls) : Int)) (by kernel_rfl) (by kernel_rfl) (by kernel_rfl) ?_ (fun cf => (by kernel_rfl))
          refine WpOps.keep 57 (Value.bool false) (by kernel_rfl) (by kernel_rfl) (by kernel_rfl) ?_ (fun cf => by_fact z2 ((by kernel_rfl)))
          refine WpOps.nil ?_
          refine thenK_at ?_
          refine Wp.off (by kernel_rfl) ?_
          refine Wp.skip ?_
          refine thenK_at ?_
          refine Wp.seq ?_
          refine Wp.text ?_
          refine WpOps.keep 58 (Value.pointer (some (Addr.mk 0 3 none))) (by kernel_rfl) (by kernel_rfl) (by kernel_rfl) ?_ (fun cf => (by kernel_rfl))
          refine WpOps.keep 59 (Value.int IntKind.i64 (Gr.life g)) (by kernel_rfl) (by kernel_rfl) (by kernel_rfl) ?_ (fun cf => (by kernel_rfl))
          refine WpOps.keep 60 (Value.int IntKind.i64 (IntKind.wrap IntKind.i64 (Gr.life g - 1))) (by kernel_rfl) (by kernel_rfl) (by kernel_rfl) ?_ (fun cf => (by kernel_rfl))
          refine WpOps.keep 61 (Value.pointer (some (Addr.mk 0 3 none))) (by kernel_rfl) (by kernel_rfl) (by kernel_rfl) ?_ (fun cf => (by kernel_rfl))
          refine WpOps.laid (Value.tuple #[]) (0) (Blk.mk 24 true [Value.iface 3 (Value.iface (List.length (Gr.fr g)) (Value.iface (Gr.fx g) (Value.agg (List.toArray (List.map (fun n => Value.int IntKind.i64 n) (Gr.fr g)))))), Value.iface 3 (Value.iface (List.length (Gr.to g)) (Value.iface (Gr.tx g) (Value.agg (List.toArray (List.map (fun n => Value.int IntKind.i64 n) (Gr.to g)))))), Value.int IntKind.i64 (Gr.number g), Value.int IntKind.i64 (IntKind.wrap IntKind.i64 (Gr.life g - 1)), Value.int IntKind.i64 (Gr.at' g), Value.int IntKind.i64 (Gr.total g), Value.int IntKind.i64 (Gr.report g), Value.bool (Gr.more g), Value.bool (Gr.may g), Value.bool (Gr.wants g), Value.string (Gr.data g)]) (by kernel_rfl) (by kernel_rfl) (by kernel_rfl) ?_ (fun cf => (by kernel_rfl))
          refine WpOps.nil ?_
          refine thenK_at ?_
          refine Wp.seq ?_
          refine Wp.region (by kernel_rfl) ?_
          refine WpOps.keep 63 (Value.agg #[Value.iface 3 (Value.iface (List.length (Gr.fr g)) (Value.iface (Gr.fx g) (Value.agg (List.toArray (List.map (fun n => Value.int IntKind.i64 n) (Gr.fr g)))))), Value.iface 3 (Value.iface (List.length (Gr.to g)) (Value.iface (Gr.tx g) (Value.agg (List.toArray (List.map (fun n => Value.int IntKind.i64 n) (Gr.to g)))))), Value.int IntKind.i64 (Gr.number g), Value.int IntKind.i64 (IntKind.wrap IntKind.i64 (Gr.life g - 1)), Value.int IntKind.i64 (Gr.at' g), Value.int IntKind.i64 (Gr.total g), Value.int IntKind.i64 (Gr.report g), Value.bool (Gr.more g), Value.bool (Gr.may g), Value.bool (Gr.wants g), Value.string (Gr.data g)]) (by kernel_rfl) (by kernel_rfl) (by kernel_rfl) ?_ (fun cf => (by kernel_rfl))
          refine WpOps.keep 64 (Value.iface 76 (Value.iface (List.length ls) (Value.iface xl (Value.agg (List.toArray (List.flatMap lc ls)))))) (by kernel_rfl) (by kernel_rfl) (by kernel_rfl) ?_ (fun cf => (by kernel_rfl))
          refine WpOps.keep 65 (Value.pointer (some (Addr.mk 1 1 none))) (by kernel_rfl) (by kernel_rfl) (by kernel_rfl) ?_ (fun cf => (by kernel_rfl))
          refine WpOps.keep 66 (Value.int IntKind.i64 (En.to (En.mk (nx (En.x e)) (En.p e) (En.to e)))) (by kernel_rfl) (by kernel_rfl) (by kernel_rfl) ?_ (fun cf => (by kernel_rfl))
          refine WpOps.keep 67 (Value.iface 76 (Value.iface (Int.toNat (En.to (En.mk (nx (En.x e)) (En.p e) (En.to e))) * 2) (Value.agg (List.toArray (List.flatMap lc ls))))) (by kernel_rfl) (by kernel_rfl) (by kernel_rfl) ?_ (fun cf => o_indexI (e := 76) (size := 2) (a := En.to (En.mk (nx (En.x e)) (En.p e) (En.to e))) i1 (by kernel_rfl) (by kernel_rfl) (by kernel_rfl) (by kernel_rfl))
          refine WpOps.keep 68 (Value.iface 76 (Value.iface (Int.toNat (En.to (En.mk (nx (En.x e)) (En.p e) (En.to e))) * 2 + 1) (Value.agg (List.toArray (List.flatMap lc ls))))) (by kernel_rfl) (by kernel_rfl) (by kernel_rfl) ?_ (fun cf => (by kernel_rfl))
          refine WpOps.keep 69 (Value.int IntKind.i64 (Ln.size (List.getD ls (Int.toNat (En.to e)) (Ln.mk 0 0)))) (by kernel_rfl) (by kernel_rfl) (by kernel_rfl) ?_ (fun cf => o_loadI1 (Int.toNat (En.to (En.mk (nx (En.x e)) (En.p e) (En.to e))) * 2 + 1) hv (by kernel_rfl) (by kernel_rfl))
          refine WpOps.framed 70 45 [Value.agg #[Value.iface 3 (Value.iface (List.length (Gr.fr g)) (Value.iface (Gr.fx g) (Value.agg (List.toArray (List.map (fun n => Value.int IntKind.i64 n) (Gr.fr g)))))), Value.iface 3 (Value.iface (List.length (Gr.to g)) (Value.iface (Gr.tx g) (Value.agg (List.toArray (List.map (fun n => Value.int IntKind.i64 n) (Gr.to g)))))), Value.int IntKind.i64 (Gr.number g), Value.int IntKind.i64 (IntKind.wrap IntKind.i64 (Gr.life g - 1)), Value.int IntKind.i64 (Gr.at' g), Value.int IntKind.i64 (Gr.total g), Value.int IntKind.i64 (Gr.report g), Value.bool (Gr.more g), Value.bool (Gr.may g), Value.bool (Gr.wants g), Value.string (Gr.data g)], Value.int IntKind.i64 (Ln.size (List.getD ls (Int.toNat (En.to e)) (Ln.mk 0 0)))] (by kernel_rfl) (by kernel_rfl) (by kernel_rfl) (by kernel_rfl) (by kernel_rfl) (fun cf => (by kernel_rfl)) ?_
          refine WpFun.of (c5) ?_
          refine WpOps.keep 62 (Value.tuple #[grams 24 o, Value.bool true]) (by kernel_rfl) (by kernel_rfl) (by kernel_rfl) ?_ (fun cf => (by kernel_rfl))
          refine WpOps.keep 71 (Value.iface 24 (Value.iface (List.length o) (Value.iface 0 (Value.agg (List.toArray (cellsG o)))))) (by kernel_rfl) (by kernel_rfl) (by kernel_rfl) ?_ (fun cf => (by kernel_rfl))
          refine WpOps.keep 72 (Value.bool true) (by kernel_rfl) (by kernel_rfl) (by kernel_rfl) ?_ (fun cf => (by kernel_rfl))
          refine WpOps.keep 14 (Value.iface 24 (Value.iface (List.length o) (Value.iface 0 (Value.agg (List.toArray (cellsG o)))))) (by kernel_rfl) (by kernel_rfl) (by kernel_rfl) ?_ (fun cf => (by kernel_rfl))
          refine WpOps.keep 15 (Value.bool true) (by kernel_rfl) (by kernel_rfl) (by kernel_rfl) ?_ (fun cf => (by kernel_rfl))
          refine WpOps.nil ?_
          refine thenK_at ?_
          refine Wp.seq ?_
          refine Wp.seq ?_
          refine Wp.text ?_
          refine WpOps.keep 73 (Value.bool true) (by kernel_rfl) (by kernel_rfl) (by kernel_rfl) ?_ (fun cf => (by kernel_rfl))
          refine WpOps.keep 74 (Value.bool false) (by kernel_rfl) (by kernel_rfl) (by kernel_rfl) ?_ (fun cf => (by kernel_rfl))
          refine WpOps.nil ?_
          refine thenK_at ?_
          refine Wp.off (by kernel_rfl) ?_
          refine Wp.skip ?_
          refine thenK_at ?_
          refine Wp.seq ?_
          refine Wp.region (by kernel_rfl) ?_
          refine WpOps.keep 78 (Value.iface 24 (Value.iface (List.length o) (Value.iface 0 (Value.agg (List.toArray (cellsG o)))))) (by kernel_rfl) (by kernel_rfl) (by kernel_rfl) ?_ (fun cf => (by kernel_rfl))
          refine WpOps.keep 79 (Value.pointer (some (Addr.mk 1 1 none))) (by kernel_rfl) (by kernel_rfl) (by kernel_rfl) ?_ (fun cf => (by kernel_rfl))
          refine WpOps.keep 80 (Value.int IntKind.i64 (En.to (En.mk (nx (En.x e)) (En.p e) (En.to e)))) (by kernel_rfl) (by kernel_rfl) (by kernel_rfl) ?_ (fun cf => (by kernel_rfl))
          refine WpOps.keep 8 (Value.iface 24 (Value.iface (List.length o) (Value.iface 0 (Value.agg (List.toArray (cellsG o)))))) (by kernel_rfl) (by kernel_rfl) (by kernel_rfl) ?_ (fun cf => (by kernel_rfl))
          refine WpOps.keep 9 (Value.int IntKind.i64 (En.to (En.mk (nx (En.x e)) (En.p e) (En.to e)))) (by kernel_rfl) (by kernel_rfl) (by kernel_rfl) ?_ (fun cf => (by kernel_rfl))
          refine WpOps.keep 10 (Value.slice none 0 0) (by kernel_rfl) (by kernel_rfl) (by kernel_rfl) ?_ (fun cf => (by kernel_rfl))
          refine WpOps.keep 11 (Value.int IntKind.i64 0) (by kernel_rfl) (by kernel_rfl) (by kernel_rfl) ?_ (fun cf => (by kernel_rfl))
          refine WpOps.nil ?_
          refine thenK_at ?_
          refine Wp.ret ?_
          refine endK_retn [Value.iface 24 (Value.iface (List.length o) (Value.iface 0 (Value.agg (List.toArray (cellsG o))))), Value.int IntKind.i64 (En.to (En.mk (nx (En.x e)) (En.p e) (En.to e))), Value.slice none 0 0, Value.int IntKind.i64 0] (Value.tuple #[Value.iface 24 (Value.iface (List.length o) (Value.iface 0 (Value.agg (List.toArray (cellsG o))))), Value.int IntKind.i64 (En.to (En.mk (nx (En.x e)) (En.p e) (En.to e))), Value.slice none 0 0, Value.int IntKind.i64 0]) (by kernel_rfl) (by kernel_rfl) ?_
          kernel_rfl
theorem forward36 (hx : x = 2 → me = []) : Fun E 36 [sl x me, ents 98 xt l, lns 76 xl ls, gv g] (fwV (fwAll 24 x me l ls g)) := by
  unfold fwAll
  cases h : okF me l ls g with
  | false => exact forward36_bad x xt xl me l ls g hm hxt ok og hls h
  | true => exact forward36_good x xt xl me l ls g hm hxt ok og hls hx h
end
end Go.Proofs.Ytpkkcpglbjbgfaa.D
