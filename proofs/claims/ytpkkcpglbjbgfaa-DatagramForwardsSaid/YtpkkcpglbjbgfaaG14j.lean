/- Forwarding: the document's Forward. -/
import Derived.Test.YtpkkcpglbjbgfaaFwLem
import Derived.Test.YtpkkcpglbjbgfaaF14g
import Derived.Test.YtpkkcpglbjbgfaaG14i
namespace Go.Proofs.Ytpkkcpglbjbgfaa.D
open Go.Fw Go.RowKit

theorem fwd_ice32 (x : Nat) (me : List Int) (l : List En) (ls : List Ln) (g : Gr) : iceV E Heap.none (fwV (fwAll 32 x me l ls g)) = some (fwV (fwAll 32 x me l ls g)) := fwd_ice 32 x me l ls g
theorem f37 : E.funcs 37 = some Try.f37 := by kernel_rfl
section
variable (x xt xl : Nat) (me : List Int) (l : List En) (ls : List Ln) (g : Gr) (hm : me.length ≤ 17592186044416) (ok : ∀ e ∈ l, OkEn e) (og : OkGr g) (hls : ls.length ≤ 17592186044416)
include hm ok og hls
theorem forward37 : Fun E 37 [sl x me, ents 135 xt l, lns 77 xl ls, gv (toR g)] (fwV (fwAll 32 0 me l ls (toR g))) := by
  refine Fun.of f37 rfl (of_decide_eq_true (by kernel_rfl)) (fwd_ice32 0 me l ls (toR g)) ?_
  have c1 := valid55 x me
  have c2 := table74 xt l ok
  have c3 := valid23 (toR g)
  have hbad : ∀ h : okF me l ls (toR g) = false, fwAll 32 0 me l ls (toR g) = ⟨nilV, 0, nilV, 1⟩ := fun h => if_neg (by rw [h]; decide)
  have hgood : ∀ h : okF me l ls (toR g) = true, fwAll 32 0 me l ls (toR g) = fwd 32 0 me l ls (toR g) := fun h => if_pos h
  cases h1 : isAddr me with
  | false =>
    rw [hbad (by unfold okF; rw [h1]; rfl)]
    rw [h1] at c1
    refine Wp.seq ?_
    refine Wp.text ?_
    refine WpOps.made 7 (Value.pointer (some (Addr.mk 0 0 none))) (Blk.mk 32 true [Value.iface 3 (Value.iface (List.length (Gr.fr (toR g))) (Value.iface (Gr.fx (toR g)) (Value.agg (List.toArray (List.map (fun n => Value.int IntKind.i64 n) (Gr.fr (toR g))))))), Value.iface 3 (Value.iface (List.length (Gr.to (toR g))) (Value.iface (Gr.tx (toR g)) (Value.agg (List.toArray (List.map (fun n => Value.int IntKind.i64 n) (Gr.to (toR g))))))), Value.int IntKind.i64 (Gr.number (toR g)), Value.int IntKind.i64 (Gr.life (toR g)), Value.int IntKind.i64 (Gr.at' (toR g)), Value.int IntKind.i64 (Gr.total (toR g)), Value.int IntKind.i64 (Gr.report (toR g)), Value.bool (Gr.more (toR g)), Value.bool (Gr.may (toR g)), Value.bool (Gr.wants (toR g)), Value.string (Gr.data (toR g))]) (by kernel_rfl) (by kernel_rfl) (by kernel_rfl) ?_ (fun cf => (by kernel_rfl))
    refine WpOps.keep 8 (Value.slice none 0 0) (by kernel_rfl) (by kernel_rfl) (by kernel_rfl) ?_ (fun cf => (by kernel_rfl))
    refine WpOps.keep 9 (Value.int IntKind.i64 0) (by kernel_rfl) (by kernel_rfl) (by kernel_rfl) ?_ (fun cf => (by kernel_rfl))
    refine WpOps.keep 10 (Value.slice none 0 0) (by kernel_rfl) (by kernel_rfl) (by kernel_rfl) ?_ (fun cf => (by kernel_rfl))
    refine WpOps.keep 11 (Value.int IntKind.i64 0) (by kernel_rfl) (by kernel_rfl) (by kernel_rfl) ?_ (fun cf => (by kernel_rfl))
    refine WpOps.nil ?_
    refine thenK_at ?_
    refine Wp.seq ?_
    refine Wp.seq ?_
    refine Wp.text ?_
    refine WpOps.keep 16 (Value.iface 3 (Value.iface (List.length me) (Value.iface x (Value.agg (List.toArray (List.map (fun n => Value.int IntKind.i64 n) me)))))) (by kernel_rfl) (by kernel_rfl) (by kernel_rfl) ?_ (fun cf => (by kernel_rfl))
    refine WpOps.framed 17 55 [Value.iface 3 (Value.iface (List.length me) (Value.iface x (Value.agg (List.toArray (List.map (fun n => Value.int IntKind.i64 n) me)))))] (by kernel_rfl) (by kernel_rfl) (by kernel_rfl) (by kernel_rfl) (by kernel_rfl) (fun cf => (by kernel_rfl)) ?_
    refine WpFun.of (c1) ?_
    refine WpOps.keep 18 (Value.bool true) (by kernel_rfl) (by kernel_rfl) (by kernel_rfl) ?_ (fun cf => (by kernel_rfl))
    refine WpOps.keep 19 (Value.bool true) (by kernel_rfl) (by kernel_rfl) (by kernel_rfl) ?_ (fun cf => (by kernel_rfl))
    refine WpOps.unmet 20 (by kernel_rfl) (by kernel_rfl) (by kernel_rfl) ?_
    refine WpOps.unmet 21 (by kernel_rfl) (by kernel_rfl) (by kernel_rfl) ?_
    refine WpOps.unmet 22 (by kernel_rfl) (by kernel_rfl) (by kernel_rfl) ?_
    refine WpOps.keep 23 (Value.bool true) (by kernel_rfl) (by kernel_rfl) (by kernel_rfl) ?_ (fun cf => (by kernel_rfl))
    refine WpOps.keep 24 (Value.bool true) (by kernel_rfl) (by kernel_rfl) (by kernel_rfl) ?_ (fun cf => (by kernel_rfl))
    refine WpOps.unmet 25 (by kernel_rfl) (by kernel_rfl) (by kernel_rfl) ?_
    refine WpOps.unmet 26 (by kernel_rfl) (by kernel_rfl) (by kernel_rfl) ?_
    refine WpOps.unmet 27 (by kernel_rfl) (by kernel_rfl) (by kernel_rfl) ?_
    refine WpOps.keep 28 (Value.bool true) (by kernel_rfl) (by kernel_rfl) (by kernel_rfl) ?_ (fun cf => (by kernel_rfl))
    refine WpOps.nil ?_
    refine thenK_at ?_
    refine Wp.on (by kernel_rfl) ?_
    refine Wp.seq ?_
    refine Wp.text ?_
    refine WpOps.keep 8 (Value.slice none 0 0) (by kernel_rfl) (by kernel_rfl) (by kernel_rfl) ?_ (fun cf => (by kernel_rfl))
    refine WpOps.keep 9 (Value.int IntKind.i64 0) (by kernel_rfl) (by kernel_rfl) (by kernel_rfl) ?_ (fun cf => (by kernel_rfl))
    refine WpOps.keep 10 (Value.slice none 0 0) (by kernel_rfl) (by kernel_rfl) (by kernel_rfl) ?_ (fun cf => (by kernel_rfl))
    refine WpOps.keep 11 (Value.int IntKind.i64 1) (by kernel_rfl) (by kernel_rfl) (by kernel_rfl) ?_ (fun cf => (by kernel_rfl))
    refine WpOps.nil ?_
    refine thenK_at ?_
    refine Wp.ret ?_
    refine thenK_ret ?_
    refine endK_retn [Value.slice none 0 0, Value.int IntKind.i64 0, Value.slice none 0 0, Value.int IntKind.i64 1] (Value.tuple #[Value.slice none 0 0, Value.int IntKind.i64 0, Value.slice none 0 0, Value.int IntKind.i64 1]) (by kernel_rfl) (by kernel_rfl) ?_
    kernel_rfl
  | true =>
    rw [h1] at c1
    cases h4 : tblOk l with
    | false =>
      rw [hbad (by unfold okF; rw [h4, Bool.and_false])]
      rw [h4] at c2
      refine Wp.seq ?_
      refine Wp.text ?_
      refine WpOps.made 7 (Value.pointer (some (Addr.mk 0 0 none))) (Blk.mk 32 true [Value.iface 3 (Value.iface (List.length (Gr.fr (toR g))) (Value.iface (Gr.fx (toR g)) (Value.agg (List.toArray (List.map (fun n => Value.int IntKind.i64 n) (Gr.fr (toR g))))))), Value.iface 3 (Value.iface (List.length (Gr.to (toR g))) (Value.iface (Gr.tx (toR g)) (Value.agg (List.toArray (List.map (fun n => Value.int IntKind.i64 n) (Gr.to (toR g))))))), Value.int IntKind.i64 (Gr.number (toR g)), Value.int IntKind.i64 (Gr.life (toR g)), Value.int IntKind.i64 (Gr.at' (toR g)), Value.int IntKind.i64 (Gr.total (toR g)), Value.int IntKind.i64 (Gr.report (toR g)), Value.bool (Gr.more (toR g)), Value.bool (Gr.may (toR g)), Value.bool (Gr.wants (toR g)), Value.string (Gr.data (toR g))]) (by kernel_rfl) (by kernel_rfl) (by kernel_rfl) ?_ (fun cf => (by kernel_rfl))
      refine WpOps.keep 8 (Value.slice none 0 0) (by kernel_rfl) (by kernel_rfl) (by kernel_rfl) ?_ (fun cf => (by kernel_rfl))
      refine WpOps.keep 9 (Value.int IntKind.i64 0) (by kernel_rfl) (by kernel_rfl) (by kernel_rfl) ?_ (fun cf => (by kernel_rfl))
      refine WpOps.keep 10 (Value.slice none 0 0) (by kernel_rfl) (by kernel_rfl) (by kernel_rfl) ?_ (fun cf => (by kernel_rfl))
      refine WpOps.keep 11 (Value.int IntKind.i64 0) (by kernel_rfl) (by kernel_rfl) (by kernel_rfl) ?_ (fun cf => (by kernel_rfl))
      refine WpOps.nil ?_
      refine thenK_at ?_
      refine Wp.seq ?_
      refine Wp.seq ?_
      refine Wp.text ?_
      refine WpOps.keep 16 (Value.iface 3 (Value.iface (List.length me) (Value.iface x (Value.agg (List.toArray (List.map (fun n => Value.int IntKind.i64 n) me)))))) (by kernel_rfl) (by kernel_rfl) (by kernel_rfl) ?_ (fun cf => (by kernel_rfl))
      refine WpOps.framed 17 55 [Value.iface 3 (Value.iface (List.length me) (Value.iface x (Value.agg (List.toArray (List.map (fun n => Value.int IntKind.i64 n) me)))))] (by kernel_rfl) (by kernel_rfl) (by kernel_rfl) (by kernel_rfl) (by kernel_rfl) (fun cf => (by kernel_rfl)) ?_
      refine WpFun.of (c1) ?_
      refine WpOps.keep 18 (Value.bool false) (by kernel_rfl) (by kernel_rfl) (by kernel_rfl) ?_ (fun cf => (by kernel_rfl))
      refine WpOps.keep 19 (Value.bool false) (by kernel_rfl) (by kernel_rfl) (by kernel_rfl) ?_ (fun cf => (by kernel_rfl))
      refine WpOps.keep 20 (Value.iface 135 (Value.iface (List.length l) (Value.iface xt (Value.agg (List.toArray (List.flatMap ec l)))))) (by kernel_rfl) (by kernel_rfl) (by kernel_rfl) ?_ (fun cf => (by kernel_rfl))
      refine WpOps.framed 21 74 [Value.iface 135 (Value.iface (List.length l) (Value.iface xt (Value.agg (List.toArray (List.flatMap ec l)))))] (by kernel_rfl) (by kernel_rfl) (by kernel_rfl) (by kernel_rfl) (by kernel_rfl) (fun cf => (by kernel_rfl)) ?_
      refine WpFun.of (c2) ?_
      refine WpOps.keep 22 (Value.bool true) (by kernel_rfl) (by kernel_rfl) (by kernel_rfl) ?_ (fun cf => (by kernel_rfl))
      refine WpOps.keep 23 (Value.bool true) (by kernel_rfl) (by kernel_rfl) (by kernel_rfl) ?_ (fun cf => (by kernel_rfl))
      refine WpOps.keep 24 (Value.bool true) (by kernel_rfl) (by kernel_rfl) (by kernel_rfl) ?_ (fun cf => (by kernel_rfl))
      refine WpOps.unmet 25 (by kernel_rfl) (by kernel_rfl) (by kernel_rfl) ?_
      refine WpOps.unmet 26 (by kernel_rfl) (by kernel_rfl) (by kernel_rfl) ?_
      refine WpOps.unmet 27 (by kernel_rfl) (by kernel_rfl) (by kernel_rfl) ?_
      refine WpOps.keep 28 (Value.bool true) (by kernel_rfl) (by kernel_rfl) (by kernel_rfl) ?_ (fun cf => (by kernel_rfl))
      refine WpOps.nil ?_
      refine thenK_at ?_
      refine Wp.on (by kernel_rfl) ?_
      refine Wp.seq ?_
      refine Wp.text ?_
      refine WpOps.keep 8 (Value.slice none 0 0) (by kernel_rfl) (by kernel_rfl) (by kernel_rfl) ?_ (fun cf => (by kernel_rfl))
      refine WpOps.keep 9 (Value.int IntKind.i64 0) (by kernel_rfl) (by kernel_rfl) (by kernel_rfl) ?_ (fun cf => (by kernel_rfl))
      refine WpOps.keep 10 (Value.slice none 0 0) (by kernel_rfl) (by kernel_rfl) (by kernel_rfl) ?_ (fun cf => (by kernel_rfl))
      refine WpOps.keep 11 (Value.int IntKind.i64 1) (by kernel_rfl) (by kernel_rfl) (by kernel_rfl) ?_ (fun cf => (by kernel_rfl))
      refine WpOps.nil ?_
      refine thenK_at ?_
      refine Wp.ret ?_
      refine thenK_ret ?_
      refine endK_retn [Value.slice none 0 0, Value.int IntKind.i64 0, Value.slice none 0 0, Value.int IntKind.i64 1] (Value.tuple #[Value.slice none 0 0, Value.int IntKind.i64 0, Value.slice none 0 0, Value.int IntKind.i64 1]) (by kernel_rfl) (by kernel_rfl) ?_
      kernel_rfl
    | true =>
      rw [h4] at c2
      cases h3 : okG (toR g) with
      | false =>
        rw [hbad (by unfold okF; rw [h3, Bool.and_false, Bool.false_and])]
        rw [h3] at c3
        refine Wp.seq ?_
        refine Wp.text ?_
        refine WpOps.made 7 (Value.pointer (some (Addr.mk 0 0 none))) (Blk.mk 32 true [Value.iface 3 (Value.iface (List.length (Gr.fr (toR g))) (Value.iface (Gr.fx (toR g)) (Value.agg (List.toArray (List.map (fun n => Value.int IntKind.i64 n) (Gr.fr (toR g))))))), Value.iface 3 (Value.iface (List.length (Gr.to (toR g))) (Value.iface (Gr.tx (toR g)) (Value.agg (List.toArray (List.map (fun n => Value.int IntKind.i64 n) (Gr.to (toR g))))))), Value.int IntKind.i64 (Gr.number (toR g)), Value.int IntKind.i64 (Gr.life (toR g)), Value.int IntKind.i64 (Gr.at' (toR g)), Value.int IntKind.i64 (Gr.total (toR g)), Value.int IntKind.i64 (Gr.report (toR g)), Value.bool (Gr.more (toR g)), Value.bool (Gr.may (toR g)), Value.bool (Gr.wants (toR g)), Value.string (Gr.data (toR g))]) (by kernel_rfl) (by kernel_rfl) (by kernel_rfl) ?_ (fun cf => (by kernel_rfl))
        refine WpOps.keep 8 (Value.slice none 0 0) (by kernel_rfl) (by kernel_rfl) (by kernel_rfl) ?_ (fun cf => (by kernel_rfl))
        refine WpOps.keep 9 (Value.int IntKind.i64 0) (by kernel_rfl) (by kernel_rfl) (by kernel_rfl) ?_ (fun cf => (by kernel_rfl))
        refine WpOps.keep 10 (Value.slice none 0 0) (by kernel_rfl) (by kernel_rfl) (by kernel_rfl) ?_ (fun cf => (by kernel_rfl))
        refine WpOps.keep 11 (Value.int IntKind.i64 0) (by kernel_rfl) (by kernel_rfl) (by kernel_rfl) ?_ (fun cf => (by kernel_rfl))
        refine WpOps.nil ?_
        refine thenK_at ?_
        refine Wp.seq ?_
        refine Wp.seq ?_
        refine Wp.text ?_
        refine WpOps.keep 16 (Value.iface 3 (Value.iface (List.length me) (Value.iface x (Value.agg (List.toArray (List.map (fun n => Value.int IntKind.i64 n) me)))))) (by kernel_rfl) (by kernel_rfl) (by kernel_rfl) ?_ (fun cf => (by kernel_rfl))
        refine WpOps.framed 17 55 [Value.iface 3 (Value.iface (List.length me) (Value.iface x (Value.agg (List.toArray (List.map (fun n => Value.int IntKind.i64 n) me)))))] (by kernel_rfl) (by kernel_rfl) (by kernel_rfl) (by kernel_rfl) (by kernel_rfl) (fun cf => (by kernel_rfl)) ?_
        refine WpFun.of (c1) ?_
        refine WpOps.keep 18 (Value.bool false) (by kernel_rfl) (by kernel_rfl) (by kernel_rfl) ?_ (fun cf => (by kernel_rfl))
        refine WpOps.keep 19 (Value.bool false) (by kernel_rfl) (by kernel_rfl) (by kernel_rfl) ?_ (fun cf => (by kernel_rfl))
        refine WpOps.keep 20 (Value.iface 135 (Value.iface (List.length l) (Value.iface xt (Value.agg (List.toArray (List.flatMap ec l)))))) (by kernel_rfl) (by kernel_rfl) (by kernel_rfl) ?_ (fun cf => (by kernel_rfl))
        refine WpOps.framed 21 74 [Value.iface 135 (Value.iface (List.length l) (Value.iface xt (Value.agg (List.toArray (List.flatMap ec l)))))] (by kernel_rfl) (by kernel_rfl) (by kernel_rfl) (by kernel_rfl) (by kernel_rfl) (fun cf => (by kernel_rfl)) ?_
        refine WpFun.of (c2) ?_
        refine WpOps.keep 22 (Value.bool false) (by kernel_rfl) (by kernel_rfl) (by kernel_rfl) ?_ (fun cf => (by kernel_rfl))
        refine WpOps.keep 23 (Value.bool false) (by kernel_rfl) (by kernel_rfl) (by kernel_rfl) ?_ (fun cf => (by kernel_rfl))
        refine WpOps.keep 24 (Value.bool false) (by kernel_rfl) (by kernel_rfl) (by kernel_rfl) ?_ (fun cf => (by kernel_rfl))
        refine WpOps.keep 25 (Value.agg #[Value.iface 3 (Value.iface (List.length (Gr.fr (toR g))) (Value.iface (Gr.fx (toR g)) (Value.agg (List.toArray (List.map (fun n => Value.int IntKind.i64 n) (Gr.fr (toR g))))))), Value.iface 3 (Value.iface (List.length (Gr.to (toR g))) (Value.iface (Gr.tx (toR g)) (Value.agg (List.toArray (List.map (fun n => Value.int IntKind.i64 n) (Gr.to (toR g))))))), Value.int IntKind.i64 (Gr.number (toR g)), Value.int IntKind.i64 (Gr.life (toR g)), Value.int IntKind.i64 (Gr.at' (toR g)), Value.int IntKind.i64 (Gr.total (toR g)), Value.int IntKind.i64 (Gr.report (toR g)), Value.bool (Gr.more (toR g)), Value.bool (Gr.may (toR g)), Value.bool (Gr.wants (toR g)), Value.string (Gr.data (toR g))]) (by kernel_rfl) (by kernel_rfl) (by kernel_rfl) ?_ (fun cf => (by kernel_rfl))
        refine WpOps.framed 26 23 [Value.agg #[Value.iface 3 (Value.iface (List.length (Gr.fr (toR g))) (Value.iface (Gr.fx (toR g)) (Value.agg (List.toArray (List.map (fun n => Value.int IntKind.i64 n) (Gr.fr (toR g))))))), Value.iface 3 (Value.iface (List.length (Gr.to (toR g))) (Value.iface (Gr.tx (toR g)) (Value.agg (List.toArray (List.map (fun n => Value.int IntKind.i64 n) (Gr.to (toR g))))))), Value.int IntKind.i64 (Gr.number (toR g)), Value.int IntKind.i64 (Gr.life (toR g)), Value.int IntKind.i64 (Gr.at' (toR g)), Value.int IntKind.i64 (Gr.total (toR g)), Value.int IntKind.i64 (Gr.report (toR g)), Value.bool (Gr.more (toR g)), Value.bool (Gr.may (toR g)), Value.bool (Gr.wants (toR g)), Value.string (Gr.data (toR g))]] (by kernel_rfl) (by kernel_rfl) (by kernel_rfl) (by kernel_rfl) (by kernel_rfl) (fun cf => (by kernel_rfl)) ?_
        refine WpFun.of (c3) ?_
        refine WpOps.keep 27 (Value.bool true) (by kernel_rfl) (by kernel_rfl) (by kernel_rfl) ?_ (fun cf => (by kernel_rfl))
        refine WpOps.keep 28 (Value.bool true) (by kernel_rfl) (by kernel_rfl) (by kernel_rfl) ?_ (fun cf => (by kernel_rfl))
        refine WpOps.nil ?_
        refine thenK_at ?_
        refine Wp.on (by kernel_rfl) ?_
        refine Wp.seq ?_
        refine Wp.text ?_
        refine WpOps.keep 8 (Value.slice none 0 0) (by kernel_rfl) (by kernel_rfl) (by kernel_rfl) ?_ (fun cf => (by kernel_rfl))
        refine WpOps.keep 9 (Value.int IntKind.i64 0) (by kernel_rfl) (by kernel_rfl) (by kernel_rfl) ?_ (fun cf => (by kernel_rfl))
        refine WpOps.keep 10 (Value.slice none 0 0) (by kernel_rfl) (by kernel_rfl) (by kernel_rfl) ?_ (fun cf => (by kernel_rfl))
        refine WpOps.keep 11 (Value.int IntKind.i64 1) (by kernel_rfl) (by kernel_rfl) (by kernel_rfl) ?_ (fun cf => (by kernel_rfl))
        refine WpOps.nil ?_
        refine thenK_at ?_
        refine Wp.ret ?_
        refine thenK_ret ?_
        refine endK_retn [Value.slice none 0 0, Value.int IntKind.i64 0, Value.slice none 0 0, Value.int IntKind.i64 1] (Value.tuple #[Value.slice none 0 0, Value.int IntKind.i64 0, Value.slice none 0 0, Value.int IntKind.i64 1]) (by kernel_rfl) (by kernel_rfl) ?_
        kernel_rfl
      | true =>
        rw [h3] at c3
        have ha : isAddr (toR g).to = true := by
          unfold okG at h3
          simp only [Bool.and_eq_true] at h3
          exact h3.1.1.1.1.1.1.1.1.2
        refine Wp.seq ?_
        refine Wp.text ?_
        refine WpOps.made 7 (Value.pointer (some (Addr.mk 0 0 none))) (Blk.mk 32 true [Value.iface 3 (Value.iface (List.length (Gr.fr (toR g))) (Value.iface (Gr.fx (toR g)) (Value.agg (List.toArray (List.map (fun n => Value.int IntKind.i64 n) (Gr.fr (toR g))))))), Value.iface 3 (Value.iface (List.length (Gr.to (toR g))) (Value.iface (Gr.tx (toR g)) (Value.agg (List.toArray (List.map (fun n => Value.int IntKind.i64 n) (Gr.to (toR g))))))), Value.int IntKind.i64 (Gr.number (toR g)), Value.int IntKind.i64 (Gr.life (toR g)), Value.int IntKind.i64 (Gr.at' (toR g)), Value.int IntKind.i64 (Gr.total (toR g)), Value.int IntKind.i64 (Gr.report (toR g)), Value.bool (Gr.more (toR g)), Value.bool (Gr.may (toR g)), Value.bool (Gr.wants (toR g)), Value.string (Gr.data (toR g))]) (by kernel_rfl) (by kernel_rfl) (by kernel_rfl) ?_ (fun cf => (by kernel_rfl))
        refine WpOps.keep 8 (Value.slice none 0 0) (by kernel_rfl) (by kernel_rfl) (by kernel_rfl) ?_ (fun cf => (by kernel_rfl))
        refine WpOps.keep 9 (Value.int IntKind.i64 0) (by kernel_rfl) (by kernel_rfl) (by kernel_rfl) ?_ (fun cf => (by kernel_rfl))
        refine WpOps.keep 10 (Value.slice none 0 0) (by kernel_rfl) (by kernel_rfl) (by kernel_rfl) ?_ (fun cf => (by kernel_rfl))
        refine WpOps.keep 11 (Value.int IntKind.i64 0) (by kernel_rfl) (by kernel_rfl) (by kernel_rfl) ?_ (fun cf => (by kernel_rfl))
        refine WpOps.nil ?_
        refine thenK_at ?_
        refine Wp.seq ?_
        refine Wp.seq ?_
        refine Wp.text ?_
        refine WpOps.keep 16 (Value.iface 3 (Value.iface (List.length me) (Value.iface x (Value.agg (List.toArray (List.map (fun n => Value.int IntKind.i64 n) me)))))) (by kernel_rfl) (by kernel_rfl) (by kernel_rfl) ?_ (fun cf => (by kernel_rfl))
        refine WpOps.framed 17 55 [Value.iface 3 (Value.iface (List.length me) (Value.iface x (Value.agg (List.toArray (List.map (fun n => Value.int IntKind.i64 n) me)))))] (by kernel_rfl) (by kernel_rfl) (by kernel_rfl) (by kernel_rfl) (by kernel_rfl) (fun cf => (by kernel_rfl)) ?_
        refine WpFun.of (c1) ?_
        refine WpOps.keep 18 (Value.bool false) (by kernel_rfl) (by kernel_rfl) (by kernel_rfl) ?_ (fun cf => (by kernel_rfl))
        refine WpOps.keep 19 (Value.bool false) (by kernel_rfl) (by kernel_rfl) (by kernel_rfl) ?_ (fun cf => (by kernel_rfl))
        refine WpOps.keep 20 (Value.iface 135 (Value.iface (List.length l) (Value.iface xt (Value.agg (List.toArray (List.flatMap ec l)))))) (by kernel_rfl) (by kernel_rfl) (by kernel_rfl) ?_ (fun cf => (by kernel_rfl))
        refine WpOps.framed 21 74 [Value.iface 135 (Value.iface (List.length l) (Value.iface xt (Value.agg (List.toArray (List.flatMap ec l)))))] (by kernel_rfl) (by kernel_rfl) (by kernel_rfl) (by kernel_rfl) (by kernel_rfl) (fun cf => (by kernel_rfl)) ?_
        refine WpFun.of (c2) ?_
        refine WpOps.keep 22 (Value.bool false) (by kernel_rfl) (by kernel_rfl) (by kernel_rfl) ?_ (fun cf => (by kernel_rfl))
        refine WpOps.keep 23 (Value.bool false) (by kernel_rfl) (by kernel_rfl) (by kernel_rfl) ?_ (fun cf => (by kernel_rfl))
        refine WpOps.keep 24 (Value.bool false) (by kernel_rfl) (by kernel_rfl) (by kernel_rfl) ?_ (fun cf => (by kernel_rfl))
        refine WpOps.keep 25 (Value.agg #[Value.iface 3 (Value.iface (List.length (Gr.fr (toR g))) (Value.iface (Gr.fx (toR g)) (Value.agg (List.toArray (List.map (fun n => Value.int IntKind.i64 n) (Gr.fr (toR g))))))), Value.iface 3 (Value.iface (List.length (Gr.to (toR g))) (Value.iface (Gr.tx (toR g)) (Value.agg (List.toArray (List.map (fun n => Value.int IntKind.i64 n) (Gr.to (toR g))))))), Value.int IntKind.i64 (Gr.number (toR g)), Value.int IntKind.i64 (Gr.life (toR g)), Value.int IntKind.i64 (Gr.at' (toR g)), Value.int IntKind.i64 (Gr.total (toR g)), Value.int IntKind.i64 (Gr.report (toR g)), Value.bool (Gr.more (toR g)), Value.bool (Gr.may (toR g)), Value.bool (Gr.wants (toR g)), Value.string (Gr.data (toR g))]) (by kernel_rfl) (by kernel_rfl) (by kernel_rfl) ?_ (fun cf => (by kernel_rfl))
        refine WpOps.framed 26 23 [Value.agg #[Value.iface 3 (Value.iface (List.length (Gr.fr (toR g))) (Value.iface (Gr.fx (toR g)) (Value.agg (List.toArray (List.map (fun n => Value.int IntKind.i64 n) (Gr.fr (toR g))))))), Value.iface 3 (Value.iface (List.length (Gr.to (toR g))) (Value.iface (Gr.tx (toR g)) (Value.agg (List.toArray (List.map (fun n => Value.int IntKind.i64 n) (Gr.to (toR g))))))), Value.int IntKind.i64 (Gr.number (toR g)), Value.int IntKind.i64 (Gr.life (toR g)), Value.int IntKind.i64 (Gr.at' (toR g)), Value.int IntKind.i64 (Gr.total (toR g)), Value.int IntKind.i64 (Gr.report (toR g)), Value.bool (Gr.more (toR g)), Value.bool (Gr.may (toR g)), Value.bool (Gr.wants (toR g)), Value.string (Gr.data (toR g))]] (by kernel_rfl) (by kernel_rfl) (by kernel_rfl) (by kernel_rfl) (by kernel_rfl) (fun cf => (by kernel_rfl)) ?_
        refine WpFun.of (c3) ?_
        refine WpOps.keep 27 (Value.bool false) (by kernel_rfl) (by kernel_rfl) (by kernel_rfl) ?_ (fun cf => (by kernel_rfl))
        refine WpOps.keep 28 (Value.bool false) (by kernel_rfl) (by kernel_rfl) (by kernel_rfl) ?_ (fun cf => (by kernel_rfl))
        refine WpOps.nil ?_
        refine thenK_at ?_
        refine Wp.off (by kernel_rfl) ?_
        refine Wp.skip ?_
        refine thenK_at ?_
        refine Wp.seq ?_
        refine Wp.seq ?_
        refine Wp.text ?_
        refine WpOps.keep 12 (Value.int IntKind.i64 0) (by kernel_rfl) (by kernel_rfl) (by kernel_rfl) ?_ (fun cf => (by kernel_rfl))
        refine WpOps.nil ?_
        refine thenK_at ?_
        refine Wp.block ?_
        refine Wp.loop (G := Nat) (fun i => layj [(0, sl x me), (1, ents 135 xt l), (2, lns 77 xl ls), (7, .pointer (some ⟨0, 0, none⟩)), (12, .int .i64 i)]) (fun _ => heapOf [⟨32, true, gc (toR g)⟩]) (fun i => ls.length - i) (fun i => i ≤ ls.length ∧ ∀ j (hj : j < ls.length), j < i → badL (ls[j]'hj) = false) 0
          (View.of [0] [⟨32, true, gc (toR g)⟩] _ (by decide) rfl ⟨⟨gc (toR g), by kernel_rfl, CellsOk.eq rfl (gc_flat _)⟩, trivial⟩ ⟨⟨by kernel_rfl, rfl⟩, ⟨by kernel_rfl, rfl⟩, ⟨by kernel_rfl, rfl⟩, ⟨by kernel_rfl, rfl⟩, ⟨by kernel_rfl, rfl⟩, trivial⟩) ⟨Nat.zero_le _, fun j _ hj => absurd hj (Nat.not_lt_zero _)⟩ ?_
        rintro i ⟨hi, hp⟩
        refine Wp.seq ?_
        refine Wp.seq ?_
        refine Wp.text ?_
        refine WpOps.keep 29 (Value.int IntKind.i64 (↑i : Int)) (by kernel_rfl) (by kernel_rfl) (by kernel_rfl) ?_ (fun cf => (by kernel_rfl))
        refine WpOps.keep 30 (Value.iface 77 (Value.iface (List.length ls) (Value.iface xl (Value.agg (List.toArray (List.flatMap lc ls)))))) (by kernel_rfl) (by kernel_rfl) (by kernel_rfl) ?_ (fun cf => (by kernel_rfl))
        refine WpOps.keep 31 (Value.int IntKind.i64 (↑(List.length ls) : Int)) (by kernel_rfl) (by kernel_rfl) (by kernel_rfl) ?_ (fun cf => (by kernel_rfl))
        refine WpOps.keep 32 (Value.bool (decide ((↑i : Int) < (↑(List.length ls) : Int)))) (by kernel_rfl) (by kernel_rfl) (by kernel_rfl) ?_ (fun cf => (by kernel_rfl))
        refine WpOps.nil ?_
        refine thenK_at ?_
        refine Wp.split (decide ((↑i : Int) < (↑(List.length ls) : Int))) (by kernel_rfl) (fun hc => ?_) (fun hc => ?_)
        · have hi2 : i < ls.length := by have := of_decide_eq_true hc; omega
          have h0 : 0 ≤ (i : Int) ∧ (i : Int) < ls.length := ⟨Int.natCast_nonneg _, of_decide_eq_true hc⟩
          have hv : (List.flatMap lc ls)[((i : Int)).toNat * 2 + 1]? = some (.int .i64 (ls[i]'hi2).size) := by
            rw [Int.toNat_natCast, flat_get lc 2 (fun _ => rfl) ls i 1 hi2 (by omega)]
            rfl
          have c4 := in46 (ls[i]'hi2).size 1 4000
          refine Wp.skip ?_
          refine thenK_at ?_
          refine Wp.seq ?_
          refine Wp.block ?_
          refine Wp.seq ?_
          refine Wp.text ?_
          refine WpOps.keep 35 (Value.iface 77 (Value.iface (List.length ls) (Value.iface xl (Value.agg (List.toArray (List.flatMap lc ls)))))) (by kernel_rfl) (by kernel_rfl) (by kernel_rfl) ?_ (fun cf => (by kernel_rfl))
          refine WpOps.keep 36 (Value.int IntKind.i64 (↑i : Int)) (by kernel_rfl) (by kernel_rfl) (by kernel_rfl) ?_ (fun cf => (by kernel_rfl))
          refine WpOps.keep 37 (Value.iface 77 (Value.iface (Int.toNat (↑i : Int) * 2) (Value.agg (List.toArray (List.flatMap lc ls))))) (by kernel_rfl) (by kernel_rfl) (by kernel_rfl) ?_ (fun cf => o_indexI (e := 77) (size := 2) (a := (↑i : Int)) h0 (by kernel_rfl) (by kernel_rfl) (by kernel_rfl) (by kernel_rfl))
          refine WpOps.keep 38 (Value.iface 77 (Value.iface (Int.toNat (↑i : Int) * 2 + 1) (Value.agg (List.toArray (List.flatMap lc ls))))) (by kernel_rfl) (by kernel_rfl) (by kernel_rfl) ?_ (fun cf => (by kernel_rfl))
          refine WpOps.keep 39 (Value.int IntKind.i64 (Ln.size ls[i])) (by kernel_rfl) (by kernel_rfl) (by kernel_rfl) ?_ (fun cf => o_loadI1 (Int.toNat (↑i : Int) * 2 + 1) hv (by kernel_rfl) (by kernel_rfl))
          refine WpOps.framed 40 46 [Value.int IntKind.i64 (Ln.size ls[i]), Value.int IntKind.i64 1, Value.int IntKind.i64 4000] (by kernel_rfl) (by kernel_rfl) (by kernel_rfl) (by kernel_rfl) (by kernel_rfl) (fun cf => (by kernel_rfl)) ?_
          refine WpFun.of (c4) ?_
          refine WpOps.keep 41 (Value.bool !inR (Ln.size ls[i]) 1 4000) (by kernel_rfl) (by kernel_rfl) (by kernel_rfl) ?_ (fun cf => (by kernel_rfl))
          refine WpOps.nil ?_
          refine thenK_at ?_
          refine Wp.split (!inR (Ln.size ls[i]) 1 4000) (by kernel_rfl) (fun hb => ?_) (fun hb => ?_)
          · have hb2 : badL (ls[i]'hi2) = true := hb
            rw [hbad (by
              unfold okF
              rw [show ls.any badL = true from List.any_eq_true.2 ⟨_, List.getElem_mem hi2, hb2⟩, Bool.not_true, Bool.and_false, Bool.false_and, Bool.false_and])]
            refine Wp.seq ?_
            refine Wp.text ?_
            refine WpOps.keep 8 (Value.slice none 0 0) (by kernel_rfl) (by kernel_rfl) (by kernel_rfl) ?_ (fun cf => (by kernel_rfl))
            refine WpOps.keep 9 (Value.int IntKind.i64 0) (by kernel_rfl) (by kernel_rfl) (by kernel_rfl) ?_ (fun cf => (by kernel_rfl))
            refine WpOps.keep 10 (Value.slice none 0 0) (by kernel_rfl) (by kernel_rfl) (by kernel_rfl) ?_ (fun cf => (by kernel_rfl))
            refine WpOps.keep 11 (Value.int IntKind.i64 1) (by kernel_rfl) (by kernel_rfl) (by kernel_rfl) ?_ (fun cf => (by kernel_rfl))
            refine WpOps.nil ?_
            refine thenK_at ?_
            refine Wp.ret ?_
            refine blockK_ret ?_
            refine thenK_ret ?_
            refine thenK_ret ?_
            refine blockK_ret ?_
            refine thenK_ret ?_
            refine endK_retn [Value.slice none 0 0, Value.int IntKind.i64 0, Value.slice none 0 0, Value.int IntKind.i64 1] (Value.tuple #[Value.slice none 0 0, Value.int IntKind.i64 0, Value.slice none 0 0, Value.int IntKind.i64 1]) (by kernel_rfl) (by kernel_rfl) ?_
            kernel_rfl
          · refine Wp.skip ?_
            refine blockK_norm ?_
            refine thenK_at ?_
            refine Wp.text ?_
            refine WpOps.keep 33 (Value.int IntKind.i64 (↑i : Int)) (by kernel_rfl) (by kernel_rfl) (by kernel_rfl) ?_ (fun cf => (by kernel_rfl))
            refine WpOps.keep 34 (Value.int IntKind.i64 (IntKind.wrap IntKind.i64 ((↑i : Int) + 1))) (by kernel_rfl) (by kernel_rfl) (by kernel_rfl) ?_ (fun cf => (by kernel_rfl))
            refine WpOps.keep 12 (Value.int IntKind.i64 (IntKind.wrap IntKind.i64 ((↑i : Int) + 1))) (by kernel_rfl) (by kernel_rfl) (by kernel_rfl) ?_ (fun cf => (by kernel_rfl))
            refine WpOps.nil ?_
            refine thenK_at ?_
            refine ⟨i + 1, by omega, ⟨by omega, fun j hj hji => ?_⟩, View.of [0] [⟨32, true, gc (toR g)⟩] _ (by decide) rfl ⟨⟨gc (toR g), by kernel_rfl, CellsOk.eq rfl (gc_flat _)⟩, trivial⟩ ⟨⟨by kernel_rfl, rfl⟩, ⟨by kernel_rfl, rfl⟩, ⟨by kernel_rfl, rfl⟩, ⟨by kernel_rfl, rfl⟩, ⟨congrArg (Value.int .i64) (wr _ (by omega) (by omega)), rfl⟩, trivial⟩⟩
            rcases Nat.lt_or_ge j i with h | h
            · exact hp j hj h
            · obtain rfl : j = i := by omega
              exact hb
        · have h2 : ls.any badL = false := by
            rw [List.any_eq_false]
            intro v hv
            obtain ⟨j, hj, rfl⟩ := List.getElem_of_mem hv
            rw [hp j hj (by have := of_decide_eq_false hc; omega)]
            decide
          have hok : okF me l ls (toR g) = true := by
            unfold okF
            rw [h1, h2, h3, h4]
            rfl
          rw [hgood hok]
          have hd : g.data.size ≤ 4000 := okG_size (g := toR g) h3
          have c5 := find76 xt 0 l g.to ok h4 ha
          have d1 := told75 x me g 1 hm og hd
          have d2 := told75 x me g 2 hm og hd
          have d3 : Fun E 75 [sl x me, gv (lifeDown (toR g)), .int .i64 3] (repV 32 0 me (toR g) 3) := told75 x me (lifeDown g) 3 hm (ok_life og) hd
          have r3 : repV 32 0 me (lifeDown (toR g)) 3 = repV 32 0 me (toR g) 3 := rfl
          unfold fwd
          rw [r3]
          unfold repV at d1 d2 d3 ⊢
          unfold findR at c5
          by_cases hl : (toR g).life ≤ 1
          · have z1 : decide ((toR g).life ≤ 1) = true := decide_eq_true hl
            rw [if_pos hl]
            refine Wp.exit ?_
            refine thenK_exit ?_
            refine thenK_exit ?_
            refine blockK_hit ?_
            refine thenK_at ?_
            refine Wp.seq ?_
            refine Wp.seq ?_
            refine Wp.text ?_
            refine WpOps.keep 42 (Value.pointer (some (Addr.mk 0 3 none))) (by kernel_rfl) (by kernel_rfl) (by kernel_rfl) ?_ (fun cf => (by kernel_rfl))
            refine WpOps.keep 43 (Value.int IntKind.i64 (Gr.life (toR g))) (by kernel_rfl) (by kernel_rfl) (by kernel_rfl) ?_ (fun cf => (by kernel_rfl))
            refine WpOps.keep 44 (Value.bool true) (by kernel_rfl) (by kernel_rfl) (by kernel_rfl) ?_ (fun cf => by_fact z1 ((by kernel_rfl)))
            refine WpOps.nil ?_
            refine thenK_at ?_
            refine Wp.on (by kernel_rfl) ?_
            refine Wp.seq ?_
            refine Wp.text ?_
            refine WpOps.keep 45 (Value.iface 3 (Value.iface (List.length me) (Value.iface x (Value.agg (List.toArray (List.map (fun n => Value.int IntKind.i64 n) me)))))) (by kernel_rfl) (by kernel_rfl) (by kernel_rfl) ?_ (fun cf => (by kernel_rfl))
            refine WpOps.keep 46 (Value.agg #[Value.iface 3 (Value.iface (List.length (Gr.fr (toR g))) (Value.iface (Gr.fx (toR g)) (Value.agg (List.toArray (List.map (fun n => Value.int IntKind.i64 n) (Gr.fr (toR g))))))), Value.iface 3 (Value.iface (List.length (Gr.to (toR g))) (Value.iface (Gr.tx (toR g)) (Value.agg (List.toArray (List.map (fun n => Value.int IntKind.i64 n) (Gr.to (toR g))))))), Value.int IntKind.i64 (Gr.number (toR g)), Value.int IntKind.i64 (Gr.life (toR g)), Value.int IntKind.i64 (Gr.at' (toR g)), Value.int IntKind.i64 (Gr.total (toR g)), Value.int IntKind.i64 (Gr.report (toR g)), Value.bool (Gr.more (toR g)), Value.bool (Gr.may (toR g)), Value.bool (Gr.wants (toR g)), Value.string (Gr.data (toR g))]) (by kernel_rfl) (by kernel_rfl) (by kernel_rfl) ?_ (fun cf => (by kernel_rfl))
            refine WpOps.framed 47 75 [Value.iface 3 (Value.iface (List.length me) (Value.iface x (Value.agg (List.toArray (List.map (fun n => Value.int IntKind.i64 n) me))))), Value.agg #[Value.iface 3 (Value.iface (List.length (Gr.fr (toR g))) (Value.iface (Gr.fx (toR g)) (Value.agg (List.toArray (List.map (fun n => Value.int IntKind.i64 n) (Gr.fr (toR g))))))), Value.iface 3 (Value.iface (List.length (Gr.to (toR g))) (Value.iface (Gr.tx (toR g)) (Value.agg (List.toArray (List.map (fun n => Value.int IntKind.i64 n) (Gr.to (toR g))))))), Value.int IntKind.i64 (Gr.number (toR g)), Value.int IntKind.i64 (Gr.life (toR g)), Value.int IntKind.i64 (Gr.at' (toR g)), Value.int IntKind.i64 (Gr.total (toR g)), Value.int IntKind.i64 (Gr.report (toR g)), Value.bool (Gr.more (toR g)), Value.bool (Gr.may (toR g)), Value.bool (Gr.wants (toR g)), Value.string (Gr.data (toR g))], Value.int IntKind.i64 1] (by kernel_rfl) (by kernel_rfl) (by kernel_rfl) (by kernel_rfl) (by kernel_rfl) (fun cf => (by kernel_rfl)) ?_
            refine WpFun.of (d1) ?_
            refine WpOps.keep 8 (Value.slice none 0 0) (by kernel_rfl) (by kernel_rfl) (by kernel_rfl) ?_ (fun cf => (by kernel_rfl))
            refine WpOps.keep 9 (Value.int IntKind.i64 (-1)) (by kernel_rfl) (by kernel_rfl) (by kernel_rfl) ?_ (fun cf => (by kernel_rfl))
            refine WpOps.keep 10 (Value.iface 32 (Value.iface (List.length (repL 0 me (toR g) 1)) (Value.iface (wx (toR g)) (Value.agg (List.toArray (cellsG (repL 0 me (toR g) 1))))))) (by kernel_rfl) (by kernel_rfl) (by kernel_rfl) ?_ (fun cf => (by kernel_rfl))
            refine WpOps.keep 11 (Value.int IntKind.i64 0) (by kernel_rfl) (by kernel_rfl) (by kernel_rfl) ?_ (fun cf => (by kernel_rfl))
            refine WpOps.nil ?_
            refine thenK_at ?_
            refine Wp.ret ?_
            refine thenK_ret ?_
            refine endK_retn [Value.slice none 0 0, Value.int IntKind.i64 (-1), Value.iface 32 (Value.iface (List.length (repL 0 me (toR g) 1)) (Value.iface (wx (toR g)) (Value.agg (List.toArray (cellsG (repL 0 me (toR g) 1)))))), Value.int IntKind.i64 0] (Value.tuple #[Value.slice none 0 0, Value.int IntKind.i64 (-1), Value.iface 32 (Value.iface (List.length (repL 0 me (toR g) 1)) (Value.iface (wx (toR g)) (Value.agg (List.toArray (cellsG (repL 0 me (toR g) 1)))))), Value.int IntKind.i64 0]) (by kernel_rfl) (by kernel_rfl) ?_
            kernel_rfl
          · have z1 : decide ((toR g).life ≤ 1) = false := decide_eq_false hl
            rw [if_neg hl]
            have ef : found l (toR g).to = found l g.to := rfl
            rw [ef]
            cases hf : found l g.to with
            | none =>
              rw [hf] at c5
              refine Wp.exit ?_
              refine thenK_exit ?_
              refine thenK_exit ?_
              refine blockK_hit ?_
              refine thenK_at ?_
              refine Wp.seq ?_
              refine Wp.seq ?_
              refine Wp.text ?_
              refine WpOps.keep 42 (Value.pointer (some (Addr.mk 0 3 none))) (by kernel_rfl) (by kernel_rfl) (by kernel_rfl) ?_ (fun cf => (by kernel_rfl))
              refine WpOps.keep 43 (Value.int IntKind.i64 (Gr.life (toR g))) (by kernel_rfl) (by kernel_rfl) (by kernel_rfl) ?_ (fun cf => (by kernel_rfl))
              refine WpOps.keep 44 (Value.bool false) (by kernel_rfl) (by kernel_rfl) (by kernel_rfl) ?_ (fun cf => by_fact z1 ((by kernel_rfl)))
              refine WpOps.nil ?_
              refine thenK_at ?_
              refine Wp.off (by kernel_rfl) ?_
              refine Wp.skip ?_
              refine thenK_at ?_
              refine Wp.seq ?_
              refine Wp.text ?_
              refine WpOps.keep 49 (Value.iface 135 (Value.iface (List.length l) (Value.iface xt (Value.agg (List.toArray (List.flatMap ec l)))))) (by kernel_rfl) (by kernel_rfl) (by kernel_rfl) ?_ (fun cf => (by kernel_rfl))
              refine WpOps.keep 50 (Value.pointer (some (Addr.mk 0 1 none))) (by kernel_rfl) (by kernel_rfl) (by kernel_rfl) ?_ (fun cf => (by kernel_rfl))
              refine WpOps.keep 51 (Value.iface 3 (Value.iface (List.length (Gr.to (toR g))) (Value.iface (Gr.tx (toR g)) (Value.agg (List.toArray (List.map (fun n => Value.int IntKind.i64 n) (Gr.to (toR g)))))))) (by kernel_rfl) (by kernel_rfl) (by kernel_rfl) ?_ (fun cf => (by kernel_rfl))
              refine WpOps.framed 52 76 [Value.iface 135 (Value.iface (List.length l) (Value.iface xt (Value.agg (List.toArray (List.flatMap ec l))))), Value.iface 3 (Value.iface (List.length (Gr.to (toR g))) (Value.iface (Gr.tx (toR g)) (Value.agg (List.toArray (List.map (fun n => Value.int IntKind.i64 n) (Gr.to (toR g)))))))] (by kernel_rfl) (by kernel_rfl) (by kernel_rfl) (by kernel_rfl) (by kernel_rfl) (fun cf => (by kernel_rfl)) ?_
              refine WpFun.of (c5) ?_
              refine WpOps.keep 48 (Value.tuple #[Value.agg #[Value.slice none 0 0, Value.int IntKind.i64 0], Value.int IntKind.i64 3]) (by kernel_rfl) (by kernel_rfl) (by kernel_rfl) ?_ (fun cf => (by kernel_rfl))
              refine WpOps.keep 53 (Value.agg #[Value.slice none 0 0, Value.int IntKind.i64 0]) (by kernel_rfl) (by kernel_rfl) (by kernel_rfl) ?_ (fun cf => (by kernel_rfl))
              refine WpOps.keep 54 (Value.int IntKind.i64 3) (by kernel_rfl) (by kernel_rfl) (by kernel_rfl) ?_ (fun cf => (by kernel_rfl))
              refine WpOps.made 13 (Value.pointer (some (Addr.mk 1 0 none))) (Blk.mk 135 true [Value.slice none 0 0, Value.int IntKind.i64 0]) (by kernel_rfl) (by kernel_rfl) (by kernel_rfl) ?_ (fun cf => (by kernel_rfl))
              refine WpOps.laid (Value.tuple #[]) (1) (Blk.mk 135 true [Value.slice none 0 0, Value.int IntKind.i64 0]) (by kernel_rfl) (by kernel_rfl) (by kernel_rfl) ?_ (fun cf => (by kernel_rfl))
              refine WpOps.keep 14 (Value.int IntKind.i64 3) (by kernel_rfl) (by kernel_rfl) (by kernel_rfl) ?_ (fun cf => (by kernel_rfl))
              refine WpOps.nil ?_
              refine thenK_at ?_
              refine Wp.seq ?_
              refine Wp.seq ?_
              refine Wp.text ?_
              refine WpOps.keep 55 (Value.int IntKind.i64 3) (by kernel_rfl) (by kernel_rfl) (by kernel_rfl) ?_ (fun cf => (by kernel_rfl))
              refine WpOps.keep 56 (Value.bool true) (by kernel_rfl) (by kernel_rfl) (by kernel_rfl) ?_ (fun cf => (by kernel_rfl))
              refine WpOps.nil ?_
              refine thenK_at ?_
              refine Wp.on (by kernel_rfl) ?_
              refine Wp.seq ?_
              refine Wp.text ?_
              refine WpOps.keep 57 (Value.iface 3 (Value.iface (List.length me) (Value.iface x (Value.agg (List.toArray (List.map (fun n => Value.int IntKind.i64 n) me)))))) (by kernel_rfl) (by kernel_rfl) (by kernel_rfl) ?_ (fun cf => (by kernel_rfl))
              refine WpOps.keep 58 (Value.agg #[Value.iface 3 (Value.iface (List.length (Gr.fr (toR g))) (Value.iface (Gr.fx (toR g)) (Value.agg (List.toArray (List.map (fun n => Value.int IntKind.i64 n) (Gr.fr (toR g))))))), Value.iface 3 (Value.iface (List.length (Gr.to (toR g))) (Value.iface (Gr.tx (toR g)) (Value.agg (List.toArray (List.map (fun n => Value.int IntKind.i64 n) (Gr.to (toR g))))))), Value.int IntKind.i64 (Gr.number (toR g)), Value.int IntKind.i64 (Gr.life (toR g)), Value.int IntKind.i64 (Gr.at' (toR g)), Value.int IntKind.i64 (Gr.total (toR g)), Value.int IntKind.i64 (Gr.report (toR g)), Value.bool (Gr.more (toR g)), Value.bool (Gr.may (toR g)), Value.bool (Gr.wants (toR g)), Value.string (Gr.data (toR g))]) (by kernel_rfl) (by kernel_rfl) (by kernel_rfl) ?_ (fun cf => (by kernel_rfl))
              refine WpOps.framed 59 75 [Value.iface 3 (Value.iface (List.length me) (Value.iface x (Value.agg (List.toArray (List.map (fun n => Value.int IntKind.i64 n) me))))), Value.agg #[Value.iface 3 (Value.iface (List.length (Gr.fr (toR g))) (Value.iface (Gr.fx (toR g)) (Value.agg (List.toArray (List.map (fun n => Value.int IntKind.i64 n) (Gr.fr (toR g))))))), Value.iface 3 (Value.iface (List.length (Gr.to (toR g))) (Value.iface (Gr.tx (toR g)) (Value.agg (List.toArray (List.map (fun n => Value.int IntKind.i64 n) (Gr.to (toR g))))))), Value.int IntKind.i64 (Gr.number (toR g)), Value.int IntKind.i64 (Gr.life (toR g)), Value.int IntKind.i64 (Gr.at' (toR g)), Value.int IntKind.i64 (Gr.total (toR g)), Value.int IntKind.i64 (Gr.report (toR g)), Value.bool (Gr.more (toR g)), Value.bool (Gr.may (toR g)), Value.bool (Gr.wants (toR g)), Value.string (Gr.data (toR g))], Value.int IntKind.i64 2] (by kernel_rfl) (by kernel_rfl) (by kernel_rfl) (by kernel_rfl) (by kernel_rfl) (fun cf => (by kernel_rfl)) ?_
              refine WpFun.of (d2) ?_
              refine WpOps.keep 8 (Value.slice none 0 0) (by kernel_rfl) (by kernel_rfl) (by kernel_rfl) ?_ (fun cf => (by kernel_rfl))
              refine WpOps.keep 9 (Value.int IntKind.i64 (-1)) (by kernel_rfl) (by kernel_rfl) (by kernel_rfl) ?_ (fun cf => (by kernel_rfl))
              refine WpOps.keep 10 (Value.iface 32 (Value.iface (List.length (repL 0 me (toR g) 2)) (Value.iface (wx (toR g)) (Value.agg (List.toArray (cellsG (repL 0 me (toR g) 2))))))) (by kernel_rfl) (by kernel_rfl) (by kernel_rfl) ?_ (fun cf => (by kernel_rfl))
              refine WpOps.keep 11 (Value.int IntKind.i64 0) (by kernel_rfl) (by kernel_rfl) (by kernel_rfl) ?_ (fun cf => (by kernel_rfl))
              refine WpOps.nil ?_
              refine thenK_at ?_
              refine Wp.ret ?_
              refine thenK_ret ?_
              refine endK_retn [Value.slice none 0 0, Value.int IntKind.i64 (-1), Value.iface 32 (Value.iface (List.length (repL 0 me (toR g) 2)) (Value.iface (wx (toR g)) (Value.agg (List.toArray (cellsG (repL 0 me (toR g) 2)))))), Value.int IntKind.i64 0] (Value.tuple #[Value.slice none 0 0, Value.int IntKind.i64 (-1), Value.iface 32 (Value.iface (List.length (repL 0 me (toR g) 2)) (Value.iface (wx (toR g)) (Value.agg (List.toArray (cellsG (repL 0 me (toR g) 2)))))), Value.int IntKind.i64 0]) (by kernel_rfl) (by kernel_rfl) ?_
              kernel_rfl
            | some e =>
              rw [hf] at c5
              obtain ⟨e1, e2, _⟩ := found_ok h4 hf
              dsimp only
              by_cases ht : e.to ≥ ls.length
              · have z2 : decide (e.to ≥ ls.length) = true := decide_eq_true ht
                rw [if_pos ht]
                refine Wp.exit ?_
                refine thenK_exit ?_
                refine thenK_exit ?_
                refine blockK_hit ?_
                refine thenK_at ?_
                refine Wp.seq ?_
                refine Wp.seq ?_
                refine Wp.text ?_
                refine WpOps.keep 42 (Value.pointer (some (Addr.mk 0 3 none))) (by kernel_rfl) (by kernel_rfl) (by kernel_rfl) ?_ (fun cf => (by kernel_rfl))
                refine WpOps.keep 43 (Value.int IntKind.i64 (Gr.life (toR g))) (by kernel_rfl) (by kernel_rfl) (by kernel_rfl) ?_ (fun cf => (by kernel_rfl))
                refine WpOps.keep 44 (Value.bool false) (by kernel_rfl) (by kernel_rfl) (by kernel_rfl) ?_ (fun cf => by_fact z1 ((by kernel_rfl)))
                refine WpOps.nil ?_
                refine thenK_at ?_
                refine Wp.off (by kernel_rfl) ?_
                refine Wp.skip ?_
                refine thenK_at ?_
                refine Wp.seq ?_
                refine Wp.text ?_
                refine WpOps.keep 49 (Value.iface 135 (Value.iface (List.length l) (Value.iface xt (Value.agg (List.toArray (List.flatMap ec l)))))) (by kernel_rfl) (by kernel_rfl) (by kernel_rfl) ?_ (fun cf => (by kernel_rfl))
                refine WpOps.keep 50 (Value.pointer (some (Addr.mk 0 1 none))) (by kernel_rfl) (by kernel_rfl) (by kernel_rfl) ?_ (fun cf => (by kernel_rfl))
                refine WpOps.keep 51 (Value.iface 3 (Value.iface (List.length (Gr.to (toR g))) (Value.iface (Gr.tx (toR g)) (Value.agg (List.toArray (List.map (fun n => Value.int IntKind.i64 n) (Gr.to (toR g)))))))) (by kernel_rfl) (by kernel_rfl) (by kernel_rfl) ?_ (fun cf => (by kernel_rfl))
                refine WpOps.framed 52 76 [Value.iface 135 (Value.iface (List.length l) (Value.iface xt (Value.agg (List.toArray (List.flatMap ec l))))), Value.iface 3 (Value.iface (List.length (Gr.to (toR g))) (Value.iface (Gr.tx (toR g)) (Value.agg (List.toArray (List.map (fun n => Value.int IntKind.i64 n) (Gr.to (toR g)))))))] (by kernel_rfl) (by kernel_rfl) (by kernel_rfl) (by kernel_rfl) (by kernel_rfl) (fun cf => (by kernel_rfl)) ?_
                refine WpFun.of (c5) ?_
                refine WpOps.keep 48 (Value.tuple #[evl (En.mk 0 (En.p e) (En.to e)), Value.int IntKind.i64 0]) (by kernel_rfl) (by kernel_rfl) (by kernel_rfl) ?_ (fun cf => (by kernel_rfl))
                refine WpOps.keep 53 (Value.agg (List.toArray (ec (En.mk 0 (En.p e) (En.to e))))) (by kernel_rfl) (by kernel_rfl) (by kernel_rfl) ?_ (fun cf => (by kernel_rfl))
                refine WpOps.keep 54 (Value.int IntKind.i64 0) (by kernel_rfl) (by kernel_rfl) (by kernel_rfl) ?_ (fun cf => (by kernel_rfl))
                refine WpOps.made 13 (Value.pointer (some (Addr.mk 1 0 none))) (Blk.mk 135 true [Value.slice none 0 0, Value.int IntKind.i64 0]) (by kernel_rfl) (by kernel_rfl) (by kernel_rfl) ?_ (fun cf => (by kernel_rfl))
                refine WpOps.laid (Value.tuple #[]) (1) (Blk.mk 135 true [Value.iface 3 (Value.iface (List.length (En.p (En.mk 0 (En.p e) (En.to e)))) (Value.iface (En.x (En.mk 0 (En.p e) (En.to e))) (Value.agg (List.toArray (List.map (fun n => Value.int IntKind.i64 n) (En.p (En.mk 0 (En.p e) (En.to e)))))))), Value.int IntKind.i64 (En.to (En.mk 0 (En.p e) (En.to e)))]) (by kernel_rfl) (by kernel_rfl) (by kernel_rfl) ?_ (fun cf => (by kernel_rfl))
                refine WpOps.keep 14 (Value.int IntKind.i64 0) (by kernel_rfl) (by kernel_rfl) (by kernel_rfl) ?_ (fun cf => (by kernel_rfl))
                refine WpOps.nil ?_
                refine thenK_at ?_
                refine Wp.seq ?_
                refine Wp.seq ?_
                refine Wp.text ?_
                refine WpOps.keep 55 (Value.int IntKind.i64 0) (by kernel_rfl) (by kernel_rfl) (by kernel_rfl) ?_ (fun cf => (by kernel_rfl))
                refine WpOps.keep 56 (Value.bool false) (by kernel_rfl) (by kernel_rfl) (by kernel_rfl) ?_ (fun cf => (by kernel_rfl))
                refine WpOps.nil ?_
                refine thenK_at ?_
                refine Wp.off (by kernel_rfl) ?_
                refine Wp.skip ?_
                refine thenK_at ?_
                refine Wp.seq ?_
                refine Wp.seq ?_
                refine Wp.text ?_
                refine WpOps.keep 60 (Value.pointer (some (Addr.mk 1 1 none))) (by kernel_rfl) (by kernel_rfl) (by kernel_rfl) ?_ (fun cf => (by kernel_rfl))
                refine WpOps.keep 61 (Value.int IntKind.i64 (En.to (En.mk 0 (En.p e) (En.to e)))) (by kernel_rfl) (by kernel_rfl) (by kernel_rfl) ?_ (fun cf => (by kernel_rfl))
                refine WpOps.keep 62 (Value.iface 77 (Value.iface (List.length ls) (Value.iface xl (Value.agg (List.toArray (List.flatMap lc ls)))))) (by kernel_rfl) (by kernel_rfl) (by kernel_rfl) ?_ (fun cf => (by kernel_rfl))
                refine WpOps.keep 63 (Value.int IntKind.i64 (↑(List.length ls) : Int)) (by kernel_rfl) (by kernel_rfl) (by kernel_rfl) ?_ (fun cf => (by kernel_rfl))
                refine WpOps.keep 64 (Value.bool true) (by kernel_rfl) (by kernel_rfl) (by kernel_rfl) ?_ (fun cf => by_fact z2 ((by kernel_rfl)))
                refine WpOps.nil ?_
                refine thenK_at ?_
                refine Wp.on (by kernel_rfl) ?_
                refine Wp.seq ?_
                refine Wp.text ?_
                refine WpOps.keep 8 (Value.slice none 0 0) (by kernel_rfl) (by kernel_rfl) (by kernel_rfl) ?_ (fun cf => (by kernel_rfl))
                refine WpOps.keep 9 (Value.int IntKind.i64 0) (by kernel_rfl) (by kernel_rfl) (by kernel_rfl) ?_ (fun cf => (by kernel_rfl))
                refine WpOps.keep 10 (Value.slice none 0 0) (by kernel_rfl) (by kernel_rfl) (by kernel_rfl) ?_ (fun cf => (by kernel_rfl))
                refine WpOps.keep 11 (Value.int IntKind.i64 1) (by kernel_rfl) (by kernel_rfl) (by kernel_rfl) ?_ (fun cf => (by kernel_rfl))
                refine WpOps.nil ?_
                refine thenK_at ?_
                refine Wp.ret ?_
                refine thenK_ret ?_
                refine endK_retn [Value.slice none 0 0, Value.int IntKind.i64 0, Value.slice none 0 0, Value.int IntKind.i64 1] (Value.tuple #[Value.slice none 0 0, Value.int IntKind.i64 0, Value.slice none 0 0, Value.int IntKind.i64 1]) (by kernel_rfl) (by kernel_rfl) ?_
                kernel_rfl
              · have z2 : decide (e.to ≥ ls.length) = false := decide_eq_false ht
                rw [if_neg ht]
                have i1 : 0 ≤ e.to ∧ e.to < ls.length := by omega
                obtain ⟨s1, s2⟩ := line_ok h2 (i := e.to.toNat) (by omega)
                have hv : (List.flatMap lc ls)[e.to.toNat * 2 + 1]? = some (.int .i64 (ls.getD e.to.toNat ⟨0, 0⟩).size) := by
                  rw [flat_get lc 2 (fun _ => rfl) ls e.to.toNat 1 (by omega) (by omega), List.getD_eq_getElem?_getD, List.getElem?_eq_getElem (show e.to.toNat < ls.length by omega)]
                  rfl
                have c6 : Fun E 47 [gv (lifeDown (toR g)), .int .i64 (ls.getD e.to.toNat ⟨0, 0⟩).size] (listV 32 (cutL (lifeDown (toR g)) (ls.getD e.to.toNat ⟨0, 0⟩).size)) := cut47 (lifeDown g) (ok_life og) (ls.getD e.to.toNat ⟨0, 0⟩).size s1 s2 hd
                cases hc : cutL (lifeDown (toR g)) (ls.getD e.to.toNat ⟨0, 0⟩).size with
                | none =>
                  rw [hc] at c6
                  refine Wp.exit ?_
                  refine thenK_exit ?_
                  refine thenK_exit ?_
                  refine blockK_hit ?_
                  refine thenK_at ?_
                  refine Wp.seq ?_
                  refine Wp.seq ?_
                  refine Wp.text ?_
                  refine WpOps.keep 42 (Value.pointer (some (Addr.mk 0 3 none))) (by kernel_rfl) (by kernel_rfl) (by kernel_rfl) ?_ (fun cf => (by kernel_rfl))
                  refine WpOps.keep 43 (Value.int IntKind.i64 (Gr.life (toR g))) (by kernel_rfl) (by kernel_rfl) (by kernel_rfl) ?_ (fun cf => (by kernel_rfl))
                  refine WpOps.keep 44 (Value.bool false) (by kernel_rfl) (by kernel_rfl) (by kernel_rfl) ?_ (fun cf => by_fact z1 ((by kernel_rfl)))
                  refine WpOps.nil ?_
                  refine thenK_at ?_
                  refine Wp.off (by kernel_rfl) ?_
                  refine Wp.skip ?_
                  refine thenK_at ?_
                  refine Wp.seq ?_
                  refine Wp.text ?_
                  refine WpOps.keep 49 (Value.iface 135 (Value.iface (List.length l) (Value.iface xt (Value.agg (List.toArray (List.flatMap ec l)))))) (by kernel_rfl) (by kernel_rfl) (by kernel_rfl) ?_ (fun cf => (by kernel_rfl))
                  refine WpOps.keep 50 (Value.pointer (some (Addr.mk 0 1 none))) (by kernel_rfl) (by kernel_rfl) (by kernel_rfl) ?_ (fun cf => (by kernel_rfl))
                  refine WpOps.keep 51 (Value.iface 3 (Value.iface (List.length (Gr.to (toR g))) (Value.iface (Gr.tx (toR g)) (Value.agg (List.toArray (List.map (fun n => Value.int IntKind.i64 n) (Gr.to (toR g)))))))) (by kernel_rfl) (by kernel_rfl) (by kernel_rfl) ?_ (fun cf => (by kernel_rfl))
                  refine WpOps.framed 52 76 [Value.iface 135 (Value.iface (List.length l) (Value.iface xt (Value.agg (List.toArray (List.flatMap ec l))))), Value.iface 3 (Value.iface (List.length (Gr.to (toR g))) (Value.iface (Gr.tx (toR g)) (Value.agg (List.toArray (List.map (fun n => Value.int IntKind.i64 n) (Gr.to (toR g)))))))] (by kernel_rfl) (by kernel_rfl) (by kernel_rfl) (by kernel_rfl) (by kernel_rfl) (fun cf => (by kernel_rfl)) ?_
                  refine WpFun.of (c5) ?_
                  refine WpOps.keep 48 (Value.tuple #[evl (En.mk 0 (En.p e) (En.to e)), Value.int IntKind.i64 0]) (by kernel_rfl) (by kernel_rfl) (by kernel_rfl) ?_ (fun cf => (by kernel_rfl))
                  refine WpOps.keep 53 (Value.agg (List.toArray (ec (En.mk 0 (En.p e) (En.to e))))) (by kernel_rfl) (by kernel_rfl) (by kernel_rfl) ?_ (fun cf => (by kernel_rfl))
                  refine WpOps.keep 54 (Value.int IntKind.i64 0) (by kernel_rfl) (by kernel_rfl) (by kernel_rfl) ?_ (fun cf => (by kernel_rfl))
                  refine WpOps.made 13 (Value.pointer (some (Addr.mk 1 0 none))) (Blk.mk 135 true [Value.slice none 0 0, Value.int IntKind.i64 0]) (by kernel_rfl) (by kernel_rfl) (by kernel_rfl) ?_ (fun cf => (by kernel_rfl))
                  refine WpOps.laid (Value.tuple #[]) (1) (Blk.mk 135 true [Value.iface 3 (Value.iface (List.length (En.p (En.mk 0 (En.p e) (En.to e)))) (Value.iface (En.x (En.mk 0 (En.p e) (En.to e))) (Value.agg (List.toArray (List.map (fun n => Value.int IntKind.i64 n) (En.p (En.mk 0 (En.p e) (En.to e)))))))), Value.int IntKind.i64 (En.to (En.mk 0 (En.p e) (En.to e)))]) (by kernel_rfl) (by kernel_rfl) (by kernel_rfl) ?_ (fun cf => (by kernel_rfl))
                  refine WpOps.keep 14 (Value.int IntKind.i64 0) (by kernel_rfl) (by kernel_rfl) (by kernel_rfl) ?_ (fun cf => (by kernel_rfl))
                  refine WpOps.nil ?_
                  refine thenK_at ?_
                  refine Wp.seq ?_
                  refine Wp.seq ?_
                  refine Wp.text ?_
                  refine WpOps.keep 55 (Value.int IntKind.i64 0) (by kernel_rfl) (by kernel_rfl) (by kernel_rfl) ?_ (fun cf => (by kernel_rfl))
                  refine WpOps.keep 56 (Value.bool false) (by kernel_rfl) (by kernel_rfl) (by kernel_rfl) ?_ (fun cf => (by kernel_rfl))
                  refine WpOps.nil ?_
                  refine thenK_at ?_
                  refine Wp.off (by kernel_rfl) ?_
                  refine Wp.skip ?_
                  refine thenK_at ?_
                  refine Wp.seq ?_
                  refine Wp.seq ?_
                  refine Wp.text ?_
                  refine WpOps.keep 60 (Value.pointer (some (Addr.mk 1 1 none))) (by kernel_rfl) (by kernel_rfl) (by kernel_rfl) ?_ (fun cf => (by kernel_rfl))
                  refine WpOps.keep 61 (Value.int IntKind.i64 (En.to (En.mk 0 (En.p e) (En.to e)))) (by kernel_rfl) (by kernel_rfl) (by kernel_rfl) ?_ (fun cf => (by kernel_rfl))
                  refine WpOps.keep 62 (Value.iface 77 (Value.iface (List.length ls) (Value.iface xl (Value.agg (List.toArray (List.flatMap lc ls)))))) (by kernel_rfl) (by kernel_rfl) (by kernel_rfl) ?_ (fun cf => (by kernel_rfl))
                  refine WpOps.keep 63 (Value.int IntKind.i64 (↑(List.length ls) : Int)) (by kernel_rfl) (by kernel_rfl) (by kernel_rfl) ?_ (fun cf => (by kernel_rfl))
                  refine WpOps.keep 64 (Value.bool false) (by kernel_rfl) (by kernel_rfl) (by kernel_rfl) ?_ (fun cf => by_fact z2 ((by kernel_rfl)))
                  refine WpOps.nil ?_
                  refine thenK_at ?_
                  refine Wp.off (by kernel_rfl) ?_
                  refine Wp.skip ?_
                  refine thenK_at ?_
                  refine Wp.seq ?_
                  refine Wp.text ?_
                  refine WpOps.keep 65 (Value.pointer (some (Addr.mk 0 3 none))) (by kernel_rfl) (by kernel_rfl) (by kernel_rfl) ?_ (fun cf => (by kernel_rfl))
                  refine WpOps.keep 66 (Value.int IntKind.i64 (Gr.life (toR g))) (by kernel_rfl) (by kernel_rfl) (by kernel_rfl) ?_ (fun cf => (by kernel_rfl))
                  refine WpOps.keep 67 (Value.int IntKind.i64 (IntKind.wrap IntKind.i64 (Gr.life (toR g) - 1))) (by kernel_rfl) (by kernel_rfl) (by kernel_rfl) ?_ (fun cf => (by kernel_rfl))
                  refine WpOps.keep 68 (Value.pointer (some (Addr.mk 0 3 none))) (by kernel_rfl) (by kernel_rfl) (by kernel_rfl) ?_ (fun cf => (by kernel_rfl))
                  refine WpOps.laid (Value.tuple #[]) (0) (Blk.mk 32 true [Value.iface 3 (Value.iface (List.length (Gr.fr (toR g))) (Value.iface (Gr.fx (toR g)) (Value.agg (List.toArray (List.map (fun n => Value.int IntKind.i64 n) (Gr.fr (toR g))))))), Value.iface 3 (Value.iface (List.length (Gr.to (toR g))) (Value.iface (Gr.tx (toR g)) (Value.agg (List.toArray (List.map (fun n => Value.int IntKind.i64 n) (Gr.to (toR g))))))), Value.int IntKind.i64 (Gr.number (toR g)), Value.int IntKind.i64 (IntKind.wrap IntKind.i64 (Gr.life (toR g) - 1)), Value.int IntKind.i64 (Gr.at' (toR g)), Value.int IntKind.i64 (Gr.total (toR g)), Value.int IntKind.i64 (Gr.report (toR g)), Value.bool (Gr.more (toR g)), Value.bool (Gr.may (toR g)), Value.bool (Gr.wants (toR g)), Value.string (Gr.data (toR g))]) (by kernel_rfl) (by kernel_rfl) (by kernel_rfl) ?_ (fun cf => (by kernel_rfl))
                  refine WpOps.nil ?_
                  refine thenK_at ?_
                  refine Wp.seq ?_
                  refine Wp.region (by kernel_rfl) ?_
                  refine WpOps.keep 69 (Value.agg #[Value.iface 3 (Value.iface (List.length (Gr.fr (toR g))) (Value.iface (Gr.fx (toR g)) (Value.agg (List.toArray (List.map (fun n => Value.int IntKind.i64 n) (Gr.fr (toR g))))))), Value.iface 3 (Value.iface (List.length (Gr.to (toR g))) (Value.iface (Gr.tx (toR g)) (Value.agg (List.toArray (List.map (fun n => Value.int IntKind.i64 n) (Gr.to (toR g))))))), Value.int IntKind.i64 (Gr.number (toR g)), Value.int IntKind.i64 (IntKind.wrap IntKind.i64 (Gr.life (toR g) - 1)), Value.int IntKind.i64 (Gr.at' (toR g)), Value.int IntKind.i64 (Gr.total (toR g)), Value.int IntKind.i64 (Gr.report (toR g)), Value.bool (Gr.more (toR g)), Value.bool (Gr.may (toR g)), Value.bool (Gr.wants (toR g)), Value.string (Gr.data (toR g))]) (by kernel_rfl) (by kernel_rfl) (by kernel_rfl) ?_ (fun cf => (by kernel_rfl))
                  refine WpOps.keep 70 (Value.iface 77 (Value.iface (List.length ls) (Value.iface xl (Value.agg (List.toArray (List.flatMap lc ls)))))) (by kernel_rfl) (by kernel_rfl) (by kernel_rfl) ?_ (fun cf => (by kernel_rfl))
                  refine WpOps.keep 71 (Value.pointer (some (Addr.mk 1 1 none))) (by kernel_rfl) (by kernel_rfl) (by kernel_rfl) ?_ (fun cf => (by kernel_rfl))
                  refine WpOps.keep 72 (Value.int IntKind.i64 (En.to (En.mk 0 (En.p e) (En.to e)))) (by kernel_rfl) (by kernel_rfl) (by kernel_rfl) ?_ (fun cf => (by kernel_rfl))
                  refine WpOps.keep 73 (Value.iface 77 (Value.iface (Int.toNat (En.to (En.mk 0 (En.p e) (En.to e))) * 2) (Value.agg (List.toArray (List.flatMap lc ls))))) (by kernel_rfl) (by kernel_rfl) (by kernel_rfl) ?_ (fun cf => o_indexI (e := 77) (size := 2) (a := En.to (En.mk 0 (En.p e) (En.to e))) i1 (by kernel_rfl) (by kernel_rfl) (by kernel_rfl) (by kernel_rfl))
                  refine WpOps.keep 74 (Value.iface 77 (Value.iface (Int.toNat (En.to (En.mk 0 (En.p e) (En.to e))) * 2 + 1) (Value.agg (List.toArray (List.flatMap lc ls))))) (by kernel_rfl) (by kernel_rfl) (by kernel_rfl) ?_ (fun cf => (by kernel_rfl))
                  refine WpOps.keep 75 (Value.int IntKind.i64 (Ln.size (List.getD ls (Int.toNat (En.to e)) (Ln.mk 0 0)))) (by kernel_rfl) (by kernel_rfl) (by kernel_rfl) ?_ (fun cf => o_loadI1 (Int.toNat (En.to (En.mk 0 (En.p e) (En.to e))) * 2 + 1) hv (by kernel_rfl) (by kernel_rfl))
                  refine WpOps.framed 76 47 [Value.agg #[Value.iface 3 (Value.iface (List.length (Gr.fr (toR g))) (Value.iface (Gr.fx (toR g)) (Value.agg (List.toArray (List.map (fun n => Value.int IntKind.i64 n) (Gr.fr (toR g))))))), Value.iface 3 (Value.iface (List.length (Gr.to (toR g))) (Value.iface (Gr.tx (toR g)) (Value.agg (List.toArray (List.map (fun n => Value.int IntKind.i64 n) (Gr.to (toR g))))))), Value.int IntKind.i64 (Gr.number (toR g)), Value.int IntKind.i64 (IntKind.wrap IntKind.i64 (Gr.life (toR g) - 1)), Value.int IntKind.i64 (Gr.at' (toR g)), Value.int IntKind.i64 (Gr.total (toR g)), Value.int IntKind.i64 (Gr.report (toR g)), Value.bool (Gr.more (toR g)), Value.bool (Gr.may (toR g)), Value.bool (Gr.wants (toR g)), Value.string (Gr.data (toR g))], Value.int IntKind.i64 (Ln.size (List.getD ls (Int.toNat (En.to e)) (Ln.mk 0 0)))] (by kernel_rfl) (by kernel_rfl) (by kernel_rfl) (by kernel_rfl) (by kernel_rfl) (fun cf => (by kernel_rfl)) ?_
                  refine WpFun.of (c6) ?_
                  refine WpOps.keep 15 (Value.slice none 0 0) (by kernel_rfl) (by kernel_rfl) (by kernel_rfl) ?_ (fun cf => (by kernel_rfl))
                  refine WpOps.nil ?_
                  refine thenK_at ?_
                  refine Wp.seq ?_
                  refine Wp.seq ?_
                  refine Wp.text ?_
                  refine WpOps.keep 77 (Value.slice none 0 0) (by kernel_rfl) (by kernel_rfl) (by kernel_rfl) ?_ (fun cf => (by kernel_rfl))
                  refine WpOps.keep 78 (Value.bool true) (by kernel_rfl) (by kernel_rfl) (by kernel_rfl) ?_ (fun cf => (by kernel_rfl))
                  refine WpOps.nil ?_
                  refine thenK_at ?_
                  refine Wp.on (by kernel_rfl) ?_
                  refine Wp.seq ?_
                  refine Wp.text ?_
                  refine WpOps.keep 79 (Value.iface 3 (Value.iface (List.length me) (Value.iface x (Value.agg (List.toArray (List.map (fun n => Value.int IntKind.i64 n) me)))))) (by kernel_rfl) (by kernel_rfl) (by kernel_rfl) ?_ (fun cf => (by kernel_rfl))
                  refine WpOps.keep 80 (Value.agg #[Value.iface 3 (Value.iface (List.length (Gr.fr (toR g))) (Value.iface (Gr.fx (toR g)) (Value.agg (List.toArray (List.map (fun n => Value.int IntKind.i64 n) (Gr.fr (toR g))))))), Value.iface 3 (Value.iface (List.length (Gr.to (toR g))) (Value.iface (Gr.tx (toR g)) (Value.agg (List.toArray (List.map (fun n => Value.int IntKind.i64 n) (Gr.to (toR g))))))), Value.int IntKind.i64 (Gr.number (toR g)), Value.int IntKind.i64 (IntKind.wrap IntKind.i64 (Gr.life (toR g) - 1)), Value.int IntKind.i64 (Gr.at' (toR g)), Value.int IntKind.i64 (Gr.total (toR g)), Value.int IntKind.i64 (Gr.report (toR g)), Value.bool (Gr.more (toR g)), Value.bool (Gr.may (toR g)), Value.bool (Gr.wants (toR g)), Value.string (Gr.data (toR g))]) (by kernel_rfl) (by kernel_rfl) (by kernel_rfl) ?_ (fun cf => (by kernel_rfl))
                  refine WpOps.framed 81 75 [Value.iface 3 (Value.iface (List.length me) (Value.iface x (Value.agg (List.toArray (List.map (fun n => Value.int IntKind.i64 n) me))))), Value.agg #[Value.iface 3 (Value.iface (List.length (Gr.fr (toR g))) (Value.iface (Gr.fx (toR g)) (Value.agg (List.toArray (List.map (fun n => Value.int IntKind.i64 n) (Gr.fr (toR g))))))), Value.iface 3 (Value.iface (List.length (Gr.to (toR g))) (Value.iface (Gr.tx (toR g)) (Value.agg (List.toArray (List.map (fun n => Value.int IntKind.i64 n) (Gr.to (toR g))))))), Value.int IntKind.i64 (Gr.number (toR g)), Value.int IntKind.i64 (IntKind.wrap IntKind.i64 (Gr.life (toR g) - 1)), Value.int IntKind.i64 (Gr.at' (toR g)), Value.int IntKind.i64 (Gr.total (toR g)), Value.int IntKind.i64 (Gr.report (toR g)), Value.bool (Gr.more (toR g)), Value.bool (Gr.may (toR g)), Value.bool (Gr.wants (toR g)), Value.string (Gr.data (toR g))], Value.int IntKind.i64 3] (by kernel_rfl) (by kernel_rfl) (by kernel_rfl) (by kernel_rfl) (by kernel_rfl) (fun cf => (by kernel_rfl)) ?_
                  refine WpFun.of (d3) ?_
                  refine WpOps.keep 8 (Value.slice none 0 0) (by kernel_rfl) (by kernel_rfl) (by kernel_rfl) ?_ (fun cf => (by kernel_rfl))
                  refine WpOps.keep 9 (Value.int IntKind.i64 (-1)) (by kernel_rfl) (by kernel_rfl) (by kernel_rfl) ?_ (fun cf => (by kernel_rfl))
                  refine WpOps.keep 10 (Value.iface 32 (Value.iface (List.length (repL 0 me (toR g) 3)) (Value.iface (wx (toR g)) (Value.agg (List.toArray (cellsG (repL 0 me (toR g) 3))))))) (by kernel_rfl) (by kernel_rfl) (by kernel_rfl) ?_ (fun cf => (by kernel_rfl))
                  refine WpOps.keep 11 (Value.int IntKind.i64 0) (by kernel_rfl) (by kernel_rfl) (by kernel_rfl) ?_ (fun cf => (by kernel_rfl))
                  refine WpOps.nil ?_
                  refine thenK_at ?_
                  refine Wp.ret ?_
                  refine thenK_ret ?_
                  refine endK_retn [Value.slice none 0 0, Value.int IntKind.i64 (-1), Value.iface 32 (Value.iface (List.length (repL 0 me (toR g) 3)) (Value.iface (wx (toR g)) (Value.agg (List.toArray (cellsG (repL 0 me (toR g) 3)))))), Value.int IntKind.i64 0] (Value.tuple #[Value.slice none 0 0, Value.int IntKind.i64 (-1), Value.iface 32 (Value.iface (List.length (repL 0 me (toR g) 3)) (Value.iface (wx (toR g)) (Value.agg (List.toArray (cellsG (repL 0 me (toR g) 3)))))), Value.int IntKind.i64 0]) (by kernel_rfl) (by kernel_rfl) ?_
                  kernel_rfl
                | some o =>
                  rw [hc] at c6
                  refine Wp.exit ?_
                  refine thenK_exit ?_
                  refine thenK_exit ?_
                  refine blockK_hit ?_
                  refine thenK_at ?_
                  refine Wp.seq ?_
                  refine Wp.seq ?_
                  refine Wp.text ?_
                  refine WpOps.keep 42 (Value.pointer (some (Addr.mk 0 3 none))) (by kernel_rfl) (by kernel_rfl) (by kernel_rfl) ?_ (fun cf => (by kernel_rfl))
                  refine WpOps.keep 43 (Value.int IntKind.i64 (Gr.life (toR g))) (by kernel_rfl) (by kernel_rfl) (by kernel_rfl) ?_ (fun cf => (by kernel_rfl))
                  refine WpOps.keep 44 (Value.bool false) (by kernel_rfl) (by kernel_rfl) (by kernel_rfl) ?_ (fun cf => by_fact z1 ((by kernel_rfl)))
                  refine WpOps.nil ?_
                  refine thenK_at ?_
                  refine Wp.off (by kernel_rfl) ?_
                  refine Wp.skip ?_
                  refine thenK_at ?_
                  refine Wp.seq ?_
                  refine Wp.text ?_
                  refine WpOps.keep 49 (Value.iface 135 (Value.iface (List.length l) (Value.iface xt (Value.agg (List.toArray (List.flatMap ec l)))))) (by kernel_rfl) (by kernel_rfl) (by kernel_rfl) ?_ (fun cf => (by kernel_rfl))
                  refine WpOps.keep 50 (Value.pointer (some (Addr.mk 0 1 none))) (by kernel_rfl) (by kernel_rfl) (by kernel_rfl) ?_ (fun cf => (by kernel_rfl))
                  refine WpOps.keep 51 (Value.iface 3 (Value.iface (List.length (Gr.to (toR g))) (Value.iface (Gr.tx (toR g)) (Value.agg (List.toArray (List.map (fun n => Value.int IntKind.i64 n) (Gr.to (toR g)))))))) (by kernel_rfl) (by kernel_rfl) (by kernel_rfl) ?_ (fun cf => (by kernel_rfl))
                  refine WpOps.framed 52 76 [Value.iface 135 (Value.iface (List.length l) (Value.iface xt (Value.agg (List.toArray (List.flatMap ec l))))), Value.iface 3 (Value.iface (List.length (Gr.to (toR g))) (Value.iface (Gr.tx (toR g)) (Value.agg (List.toArray (List.map (fun n => Value.int IntKind.i64 n) (Gr.to (toR g)))))))] (by kernel_rfl) (by kernel_rfl) (by kernel_rfl) (by kernel_rfl) (by kernel_rfl) (fun cf => (by kernel_rfl)) ?_
                  refine WpFun.of (c5) ?_
                  refine WpOps.keep 48 (Value.tuple #[evl (En.mk 0 (En.p e) (En.to e)), Value.int IntKind.i64 0]) (by kernel_rfl) (by kernel_rfl) (by kernel_rfl) ?_ (fun cf => (by kernel_rfl))
                  refine WpOps.keep 53 (Value.agg (List.toArray (ec (En.mk 0 (En.p e) (En.to e))))) (by kernel_rfl) (by kernel_rfl) (by kernel_rfl) ?_ (fun cf => (by kernel_rfl))
                  refine WpOps.keep 54 (Value.int IntKind.i64 0) (by kernel_rfl) (by kernel_rfl) (by kernel_rfl) ?_ (fun cf => (by kernel_rfl))
                  refine WpOps.made 13 (Value.pointer (some (Addr.mk 1 0 none))) (Blk.mk 135 true [Value.slice none 0 0, Value.int IntKind.i64 0]) (by kernel_rfl) (by kernel_rfl) (by kernel_rfl) ?_ (fun cf => (by kernel_rfl))
                  refine WpOps.laid (Value.tuple #[]) (1) (Blk.mk 135 true [Value.iface 3 (Value.iface (List.length (En.p (En.mk 0 (En.p e) (En.to e)))) (Value.iface (En.x (En.mk 0 (En.p e) (En.to e))) (Value.agg (List.toArray (List.map (fun n => Value.int IntKind.i64 n) (En.p (En.mk 0 (En.p e) (En.to e)))))))), Value.int IntKind.i64 (En.to (En.mk 0 (En.p e) (En.to e)))]) (by kernel_rfl) (by kernel_rfl) (by kernel_rfl) ?_ (fun cf => (by kernel_rfl))
                  refine WpOps.keep 14 (Value.int IntKind.i64 0) (by kernel_rfl) (by kernel_rfl) (by kernel_rfl) ?_ (fun cf => (by kernel_rfl))
                  refine WpOps.nil ?_
                  refine thenK_at ?_
                  refine Wp.seq ?_
                  refine Wp.seq ?_
                  refine Wp.text ?_
                  refine WpOps.keep 55 (Value.int IntKind.i64 0) (by kernel_rfl) (by kernel_rfl) (by kernel_rfl) ?_ (fun cf => (by kernel_rfl))
                  refine WpOps.keep 56 (Value.bool false) (by kernel_rfl) (by kernel_rfl) (by kernel_rfl) ?_ (fun cf => (by kernel_rfl))
                  refine WpOps.nil ?_
                  refine thenK_at ?_
                  refine Wp.off (by kernel_rfl) ?_
                  refine Wp.skip ?_
                  refine thenK_at ?_
                  refine Wp.seq ?_
                  refine Wp.seq ?_
                  refine Wp.text ?_
                  refine WpOps.keep 60 (Value.pointer (some (Addr.mk 1 1 none))) (by kernel_rfl) (by kernel_rfl) (by kernel_rfl) ?_ (fun cf => (by kernel_rfl))
                  refine WpOps.keep 61 (Value.int IntKind.i64 (En.to (En.mk 0 (En.p e) (En.to e)))) (by kernel_rfl) (by kernel_rfl) (by kernel_rfl) ?_ (fun cf => (by kernel_rfl))
                  refine WpOps.keep 62 (Value.iface 77 (Value.iface (List.length ls) (Value.iface xl (Value.agg (List.toArray (List.flatMap lc ls)))))) (by kernel_rfl) (by kernel_rfl) (by kernel_rfl) ?_ (fun cf => (by kernel_rfl))
                  refine WpOps.keep 63 (Value.int IntKind.i64 (↑(List.length ls) : Int)) (by kernel_rfl) (by kernel_rfl) (by kernel_rfl) ?_ (fun cf => (by kernel_rfl))
                  refine WpOps.keep 64 (Value.bool false) (by kernel_rfl) (by kernel_rfl) (by kernel_rfl) ?_ (fun cf => by_fact z2 ((by kernel_rfl)))
                  refine WpOps.nil ?_
                  refine thenK_at ?_
                  refine Wp.off (by kernel_rfl) ?_
                  refine Wp.skip ?_
                  refine thenK_at ?_
                  refine Wp.seq ?_
                  refine Wp.text ?_
                  refine WpOps.keep 65 (Value.pointer (some (Addr.mk 0 3 none))) (by kernel_rfl) (by kernel_rfl) (by kernel_rfl) ?_ (fun cf => (by kernel_rfl))
                  refine WpOps.keep 66 (Value.int IntKind.i64 (Gr.life (toR g))) (by kernel_rfl) (by kernel_rfl) (by kernel_rfl) ?_ (fun cf => (by kernel_rfl))
                  refine WpOps.keep 67 (Value.int IntKind.i64 (IntKind.wrap IntKind.i64 (Gr.life (toR g) - 1))) (by kernel_rfl) (by kernel_rfl) (by kernel_rfl) ?_ (fun cf => (by kernel_rfl))
                  refine WpOps.keep 68 (Value.pointer (some (Addr.mk 0 3 none))) (by kernel_rfl) (by kernel_rfl) (by kernel_rfl) ?_ (fun cf => (by kernel_rfl))
                  refine WpOps.laid (Value.tuple #[]) (0) (Blk.mk 32 true [Value.iface 3 (Value.iface (List.length (Gr.fr (toR g))) (Value.iface (Gr.fx (toR g)) (Value.agg (List.toArray (List.map (fun n => Value.int IntKind.i64 n) (Gr.fr (toR g))))))), Value.iface 3 (Value.iface (List.length (Gr.to (toR g))) (Value.iface (Gr.tx (toR g)) (Value.agg (List.toArray (List.map (fun n => Value.int IntKind.i64 n) (Gr.to (toR g))))))), Value.int IntKind.i64 (Gr.number (toR g)), Value.int IntKind.i64 (IntKind.wrap IntKind.i64 (Gr.life (toR g) - 1)), Value.int IntKind.i64 (Gr.at' (toR g)), Value.int IntKind.i64 (Gr.total (toR g)), Value.int IntKind.i64 (Gr.report (toR g)), Value.bool (Gr.more (toR g)), Value.bool (Gr.may (toR g)), Value.bool (Gr.wants (toR g)), Value.string (Gr.data (toR g))]) (by kernel_rfl) (by kernel_rfl) (by kernel_rfl) ?_ (fun cf => (by kernel_rfl))
                  refine WpOps.nil ?_
                  refine thenK_at ?_
                  refine Wp.seq ?_
                  refine Wp.region (by kernel_rfl) ?_
                  refine WpOps.keep 69 (Value.agg #[Value.iface 3 (Value.iface (List.length (Gr.fr (toR g))) (Value.iface (Gr.fx (toR g)) (Value.agg (List.toArray (List.map (fun n => Value.int IntKind.i64 n) (Gr.fr (toR g))))))), Value.iface 3 (Value.iface (List.length (Gr.to (toR g))) (Value.iface (Gr.tx (toR g)) (Value.agg (List.toArray (List.map (fun n => Value.int IntKind.i64 n) (Gr.to (toR g))))))), Value.int IntKind.i64 (Gr.number (toR g)), Value.int IntKind.i64 (IntKind.wrap IntKind.i64 (Gr.life (toR g) - 1)), Value.int IntKind.i64 (Gr.at' (toR g)), Value.int IntKind.i64 (Gr.total (toR g)), Value.int IntKind.i64 (Gr.report (toR g)), Value.bool (Gr.more (toR g)), Value.bool (Gr.may (toR g)), Value.bool (Gr.wants (toR g)), Value.string (Gr.data (toR g))]) (by kernel_rfl) (by kernel_rfl) (by kernel_rfl) ?_ (fun cf => (by kernel_rfl))
                  refine WpOps.keep 70 (Value.iface 77 (Value.iface (List.length ls) (Value.iface xl (Value.agg (List.toArray (List.flatMap lc ls)))))) (by kernel_rfl) (by kernel_rfl) (by kernel_rfl) ?_ (fun cf => (by kernel_rfl))
                  refine WpOps.keep 71 (Value.pointer (some (Addr.mk 1 1 none))) (by kernel_rfl) (by kernel_rfl) (by kernel_rfl) ?_ (fun cf => (by kernel_rfl))
                  refine WpOps.keep 72 (Value.int IntKind.i64 (En.to (En.mk 0 (En.p e) (En.to e)))) (by kernel_rfl) (by kernel_rfl) (by kernel_rfl) ?_ (fun cf => (by kernel_rfl))
                  refine WpOps.keep 73 (Value.iface 77 (Value.iface (Int.toNat (En.to (En.mk 0 (En.p e) (En.to e))) * 2) (Value.agg (List.toArray (List.flatMap lc ls))))) (by kernel_rfl) (by kernel_rfl) (by kernel_rfl) ?_ (fun cf => o_indexI (e := 77) (size := 2) (a := En.to (En.mk 0 (En.p e) (En.to e))) i1 (by kernel_rfl) (by kernel_rfl) (by kernel_rfl) (by kernel_rfl))
                  refine WpOps.keep 74 (Value.iface 77 (Value.iface (Int.toNat (En.to (En.mk 0 (En.p e) (En.to e))) * 2 + 1) (Value.agg (List.toArray (List.flatMap lc ls))))) (by kernel_rfl) (by kernel_rfl) (by kernel_rfl) ?_ (fun cf => (by kernel_rfl))
                  refine WpOps.keep 75 (Value.int IntKind.i64 (Ln.size (List.getD ls (Int.toNat (En.to e)) (Ln.mk 0 0)))) (by kernel_rfl) (by kernel_rfl) (by kernel_rfl) ?_ (fun cf => o_loadI1 (Int.toNat (En.to (En.mk 0 (En.p e) (En.to e))) * 2 + 1) hv (by kernel_rfl) (by kernel_rfl))
                  refine WpOps.framed 76 47 [Value.agg #[Value.iface 3 (Value.iface (List.length (Gr.fr (toR g))) (Value.iface (Gr.fx (toR g)) (Value.agg (List.toArray (List.map (fun n => Value.int IntKind.i64 n) (Gr.fr (toR g))))))), Value.iface 3 (Value.iface (List.length (Gr.to (toR g))) (Value.iface (Gr.tx (toR g)) (Value.agg (List.toArray (List.map (fun n => Value.int IntKind.i64 n) (Gr.to (toR g))))))), Value.int IntKind.i64 (Gr.number (toR g)), Value.int IntKind.i64 (IntKind.wrap IntKind.i64 (Gr.life (toR g) - 1)), Value.int IntKind.i64 (Gr.at' (toR g)), Value.int IntKind.i64 (Gr.total (toR g)), Value.int IntKind.i64 (Gr.report (toR g)), Value.bool (Gr.more (toR g)), Value.bool (Gr.may (toR g)), Value.bool (Gr.wants (toR g)), Value.string (Gr.data (toR g))], Value.int IntKind.i64 (Ln.size (List.getD ls (Int.toNat (En.to e)) (Ln.mk 0 0)))] (by kernel_rfl) (by kernel_rfl) (by kernel_rfl) (by kernel_rfl) (by kernel_rfl) (fun cf => (by kernel_rfl)) ?_
                  refine WpFun.of (c6) ?_
                  refine WpOps.keep 15 (Value.iface 32 (Value.iface (List.length o) (Value.iface 0 (Value.agg (List.toArray (cellsG o)))))) (by kernel_rfl) (by kernel_rfl) (by kernel_rfl) ?_ (fun cf => (by kernel_rfl))
                  refine WpOps.nil ?_
                  refine thenK_at ?_
                  refine Wp.seq ?_
                  refine Wp.seq ?_
                  refine Wp.text ?_
                  refine WpOps.keep 77 (Value.iface 32 (Value.iface (List.length o) (Value.iface 0 (Value.agg (List.toArray (cellsG o)))))) (by kernel_rfl) (by kernel_rfl) (by kernel_rfl) ?_ (fun cf => (by kernel_rfl))
                  refine WpOps.keep 78 (Value.bool false) (by kernel_rfl) (by kernel_rfl) (by kernel_rfl) ?_ (fun cf => (by kernel_rfl))
                  refine WpOps.nil ?_
                  refine thenK_at ?_
                  refine Wp.off (by kernel_rfl) ?_
                  refine Wp.skip ?_
                  refine thenK_at ?_
                  refine Wp.seq ?_
                  refine Wp.region (by kernel_rfl) ?_
                  refine WpOps.keep 82 (Value.iface 32 (Value.iface (List.length o) (Value.iface 0 (Value.agg (List.toArray (cellsG o)))))) (by kernel_rfl) (by kernel_rfl) (by kernel_rfl) ?_ (fun cf => (by kernel_rfl))
                  refine WpOps.keep 83 (Value.pointer (some (Addr.mk 1 1 none))) (by kernel_rfl) (by kernel_rfl) (by kernel_rfl) ?_ (fun cf => (by kernel_rfl))
                  refine WpOps.keep 84 (Value.int IntKind.i64 (En.to (En.mk 0 (En.p e) (En.to e)))) (by kernel_rfl) (by kernel_rfl) (by kernel_rfl) ?_ (fun cf => (by kernel_rfl))
                  refine WpOps.keep 8 (Value.iface 32 (Value.iface (List.length o) (Value.iface 0 (Value.agg (List.toArray (cellsG o)))))) (by kernel_rfl) (by kernel_rfl) (by kernel_rfl) ?_ (fun cf => (by kernel_rfl))
                  refine WpOps.keep 9 (Value.int IntKind.i64 (En.to (En.mk 0 (En.p e) (En.to e)))) (by kernel_rfl) (by kernel_rfl) (by kernel_rfl) ?_ (fun cf => (by kernel_rfl))
                  refine WpOps.keep 10 (Value.slice none 0 0) (by kernel_rfl) (by kernel_rfl) (by kernel_rfl) ?_ (fun cf => (by kernel_rfl))
                  refine WpOps.keep 11 (Value.int IntKind.i64 0) (by kernel_rfl) (by kernel_rfl) (by kernel_rfl) ?_ (fun cf => (by kernel_rfl))
                  refine WpOps.nil ?_
                  refine thenK_at ?_
                  refine Wp.ret ?_
                  refine endK_retn [Value.iface 32 (Value.iface (List.length o) (Value.iface 0 (Value.agg (List.toArray (cellsG o))))), Value.int IntKind.i64 (En.to (En.mk 0 (En.p e) (En.to e))), Value.slice none 0 0, Value.int IntKind.i64 0] (Value.tuple #[Value.iface 32 (Value.iface (List.length o) (Value.iface 0 (Value.agg (List.toArray (cellsG o))))), Value.int IntKind.i64 (En.to (En.mk 0 (En.p e) (En.to e))), Value.slice none 0 0, Value.int IntKind.i64 0]) (by kernel_rfl) (by kernel_rfl) ?_
                  kernel_rfl
end
end Go.Proofs.Ytpkkcpglbjbgfaa.D
