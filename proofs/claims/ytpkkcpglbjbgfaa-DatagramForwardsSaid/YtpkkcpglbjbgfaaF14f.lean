/- The document's Cut, and the comparison. -/
import Derived.Test.YtpkkcpglbjbgfaaFwLem
import Derived.Test.YtpkkcpglbjbgfaaF14d
namespace Go.Proofs.Ytpkkcpglbjbgfaa.D
open Go.Fw Go.RowKit

theorem f23 : E.funcs 23 = some Try.f23 := by kernel_rfl
theorem f16 : E.funcs 16 = some Try.f16 := by kernel_rfl
theorem f77 : E.funcs 77 = some Try.f77 := by kernel_rfl
theorem f47 : E.funcs 47 = some Try.f47 := by kernel_rfl
theorem f15 : E.funcs 15 = some Try.f15 := by kernel_rfl

theorem chain4 (a b c d e : Bool) : cond (cond (cond (cond (!a) true (!b)) true (!c)) true (!d)) true (!e) = !(a && b && c && d && e) := by
  cases a <;> cases b <;> cases c <;> cases d <;> cases e <;> rfl
theorem okR_1 {g : Gr} (h : (isAddr g.fr && isAddr g.to && inR g.number 0 65535 && inR g.life 0 60 && inR g.report 0 4) = false) : okG g = false := okG_1 (by rw [h]; rfl)
theorem okR_3 {g : Gr} (h1 : (isAddr g.fr && isAddr g.to && inR g.number 0 65535 && inR g.life 0 60 && inR g.report 0 4) = true) (h2 : (inR g.total 0 4000 && inR g.at' 0 g.total && !decide ((g.data.size : Int) > IntKind.i64.wrap (g.total - g.at'))) = true) :
    okG g = cond (g.more == decide (IntKind.i64.wrap (g.at' + g.data.size) < g.total)) (cond (g.report == 0) true (!g.wants)) false := by
  have hr : (g.report == 0) = !decide (g.report > 0) := by
    simp only [Bool.and_eq_true] at h1
    have := h1.2
    simp only [inR, Bool.cond_false_right, Bool.and_eq_true, decide_eq_true_eq] at this
    rw [← decide_not, Bool.beq_eq_decide_eq]
    exact decide_eq_decide.2 (by omega)
  rw [hr]
  cases hw : (!(decide (g.report > 0) && g.wants)) with
  | true =>
    rw [okG_3 (by rw [h1, hw]; rfl) h2]
    revert hw
    cases decide (g.report > 0) <;> cases g.wants <;> simp
  | false =>
    rw [okG_1 (by rw [hw, Bool.and_false])]
    revert hw
    cases decide (g.report > 0) <;> cases g.wants <;> simp
theorem valid23 (g : Gr) : Fun E 23 [gv g] (.bool (okG g)) := by
  refine Fun.of f23 rfl (of_decide_eq_true (by kernel_rfl)) rfl ?_
  have v1 := valid55 g.fx g.fr
  have v2 := valid55 g.tx g.to
  have i1 := in46
  refine Wp.seq ?_
  refine Wp.text ?_
  refine WpOps.made 1 (Value.pointer (some (Addr.mk 0 0 none))) (Blk.mk 32 true [Value.iface 3 (Value.iface (List.length (Gr.fr g)) (Value.iface (Gr.fx g) (Value.agg (List.toArray (List.map (fun n => Value.int IntKind.i64 n) (Gr.fr g)))))), Value.iface 3 (Value.iface (List.length (Gr.to g)) (Value.iface (Gr.tx g) (Value.agg (List.toArray (List.map (fun n => Value.int IntKind.i64 n) (Gr.to g)))))), Value.int IntKind.i64 (Gr.number g), Value.int IntKind.i64 (Gr.life g), Value.int IntKind.i64 (Gr.at' g), Value.int IntKind.i64 (Gr.total g), Value.int IntKind.i64 (Gr.report g), Value.bool (Gr.more g), Value.bool (Gr.may g), Value.bool (Gr.wants g), Value.string (Gr.data g)]) (by kernel_rfl) (by kernel_rfl) (by kernel_rfl) ?_ (fun cf => (by kernel_rfl))
  refine WpOps.keep 2 (Value.bool false) (by kernel_rfl) (by kernel_rfl) (by kernel_rfl) ?_ (fun cf => (by kernel_rfl))
  refine WpOps.nil ?_
  refine thenK_at ?_
  refine Wp.seq ?_
  refine Wp.seq ?_
  refine Wp.text ?_
  refine WpOps.keep 3 (Value.pointer (some (Addr.mk 0 0 none))) (by kernel_rfl) (by kernel_rfl) (by kernel_rfl) ?_ (fun cf => (by kernel_rfl))
  refine WpOps.keep 4 (Value.iface 3 (Value.iface (List.length (Gr.fr g)) (Value.iface (Gr.fx g) (Value.agg (List.toArray (List.map (fun n => Value.int IntKind.i64 n) (Gr.fr g))))))) (by kernel_rfl) (by kernel_rfl) (by kernel_rfl) ?_ (fun cf => (by kernel_rfl))
  refine WpOps.framed 5 55 [Value.iface 3 (Value.iface (List.length (Gr.fr g)) (Value.iface (Gr.fx g) (Value.agg (List.toArray (List.map (fun n => Value.int IntKind.i64 n) (Gr.fr g))))))] (by kernel_rfl) (by kernel_rfl) (by kernel_rfl) (by kernel_rfl) (by kernel_rfl) (fun cf => (by kernel_rfl)) ?_
  refine WpFun.of (v1) ?_
  refine WpOps.keep 6 (Value.bool !isAddr (Gr.fr g)) (by kernel_rfl) (by kernel_rfl) (by kernel_rfl) ?_ (fun cf => (by kernel_rfl))
  refine WpOps.keep 7 (Value.bool !isAddr (Gr.fr g)) (by kernel_rfl) (by kernel_rfl) (by kernel_rfl) ?_ (fun cf => (by kernel_rfl))
  refine WpOps.fork 5 (!isAddr (Gr.fr g)) [8, 9, 10, 11, 12] 12 (true) (!isAddr (Gr.to g)) (by kernel_rfl) (fun g12 => ?_) (fun g12 => ?_) (fun f_12 b12 hb12 => ?_)
  · refine WpOps.unmet 8 (by kernel_rfl) (by kernel_rfl) (wants_tf g12 (by kernel_rfl)) ?_
    refine WpOps.unmet 9 (by kernel_rfl) (by kernel_rfl) (wants_tf g12 (by kernel_rfl)) ?_
    refine WpOps.unmet 10 (by kernel_rfl) (by kernel_rfl) (wants_tf g12 (by kernel_rfl)) ?_
    refine WpOps.unmet 11 (by kernel_rfl) (by kernel_rfl) (wants_tf g12 (by kernel_rfl)) ?_
    refine WpOps.keep 12 (Value.bool true) (by kernel_rfl) (by kernel_rfl) (by kernel_rfl) ?_ (fun cf => o_pickT g12 (by kernel_rfl) (by kernel_rfl))
    refine WpOps.nil ?_
    exact ⟨rfl, (.upd rfl (.upd rfl (.upd rfl (.upd rfl (.upd rfl .refl))))), (by kernel_rfl)⟩
  · refine WpOps.keep 8 (Value.pointer (some (Addr.mk 0 1 none))) (by kernel_rfl) (by kernel_rfl) (wants_ff g12 (by kernel_rfl)) ?_ (fun cf => (by kernel_rfl))
    refine WpOps.keep 9 (Value.iface 3 (Value.iface (List.length (Gr.to g)) (Value.iface (Gr.tx g) (Value.agg (List.toArray (List.map (fun n => Value.int IntKind.i64 n) (Gr.to g))))))) (by kernel_rfl) (by kernel_rfl) (wants_ff g12 (by kernel_rfl)) ?_ (fun cf => (by kernel_rfl))
    refine WpOps.framed 10 55 [Value.iface 3 (Value.iface (List.length (Gr.to g)) (Value.iface (Gr.tx g) (Value.agg (List.toArray (List.map (fun n => Value.int IntKind.i64 n) (Gr.to g))))))] (by kernel_rfl) (by kernel_rfl) (wants_ff g12 (by kernel_rfl)) (by kernel_rfl) (by kernel_rfl) (fun cf => (by kernel_rfl)) ?_
    refine WpFun.of (v2) ?_
    refine WpOps.keep 11 (Value.bool !isAddr (Gr.to g)) (by kernel_rfl) (by kernel_rfl) (wants_ff g12 (by kernel_rfl)) ?_ (fun cf => (by kernel_rfl))
    refine WpOps.keep 12 (Value.bool !isAddr (Gr.to g)) (by kernel_rfl) (by kernel_rfl) (by kernel_rfl) ?_ (fun cf => o_pickF g12 (by kernel_rfl) (by kernel_rfl))
    refine WpOps.nil ?_
    exact ⟨rfl, (.upd rfl (.upd rfl (.upd rfl (.upd rfl (.upd rfl .refl))))), (by kernel_rfl)⟩
  refine WpOps.keep 13 (Value.bool b12) (by kernel_rfl) (by kernel_rfl) (by kernel_rfl) ?_ (fun cf => (by kernel_rfl))
  refine WpOps.fork 5 (b12) [14, 15, 16, 17, 18] 18 (true) (!inR (Gr.number g) 0 65535) (by kernel_rfl) (fun g18 => ?_) (fun g18 => ?_) (fun f_18 b18 hb18 => ?_)
  · refine WpOps.unmet 14 (by kernel_rfl) (by kernel_rfl) (wants_tf g18 (by kernel_rfl)) ?_
    refine WpOps.unmet 15 (by kernel_rfl) (by kernel_rfl) (wants_tf g18 (by kernel_rfl)) ?_
    refine WpOps.unmet 16 (by kernel_rfl) (by kernel_rfl) (wants_tf g18 (by kernel_rfl)) ?_
    refine WpOps.unmet 17 (by kernel_rfl) (by kernel_rfl) (wants_tf g18 (by kernel_rfl)) ?_
    refine WpOps.keep 18 (Value.bool true) (by kernel_rfl) (by kernel_rfl) (by kernel_rfl) ?_ (fun cf => o_pickT g18 (by kernel_rfl) (by kernel_rfl))
    refine WpOps.nil ?_
    exact ⟨rfl, (.upd rfl (.upd rfl (.upd rfl (.upd rfl (.upd rfl .refl))))), (by kernel_rfl)⟩
  · refine WpOps.keep 14 (Value.pointer (some (Addr.mk 0 2 none))) (by kernel_rfl) (by kernel_rfl) (wants_ff g18 (by kernel_rfl)) ?_ (fun cf => (by kernel_rfl))
    refine WpOps.keep 15 (Value.int IntKind.i64 (Gr.number g)) (by kernel_rfl) (by kernel_rfl) (wants_ff g18 (by kernel_rfl)) ?_ (fun cf => (by kernel_rfl))
    refine WpOps.framed 16 46 [Value.int IntKind.i64 (Gr.number g), Value.int IntKind.i64 0, Value.int IntKind.i64 65535] (by kernel_rfl) (by kernel_rfl) (wants_ff g18 (by kernel_rfl)) (by kernel_rfl) (by kernel_rfl) (fun cf => (by kernel_rfl)) ?_
    refine WpFun.of (i1 _ _ _) ?_
    refine WpOps.keep 17 (Value.bool !inR (Gr.number g) 0 65535) (by kernel_rfl) (by kernel_rfl) (wants_ff g18 (by kernel_rfl)) ?_ (fun cf => (by kernel_rfl))
    refine WpOps.keep 18 (Value.bool !inR (Gr.number g) 0 65535) (by kernel_rfl) (by kernel_rfl) (by kernel_rfl) ?_ (fun cf => o_pickF g18 (by kernel_rfl) (by kernel_rfl))
    refine WpOps.nil ?_
    exact ⟨rfl, (.upd rfl (.upd rfl (.upd rfl (.upd rfl (.upd rfl .refl))))), (by kernel_rfl)⟩
  refine WpOps.keep 19 (Value.bool b18) (by kernel_rfl) (by kernel_rfl) (by kernel_rfl) ?_ (fun cf => (by kernel_rfl))
  refine WpOps.fork 5 (b18) [20, 21, 22, 23, 24] 24 (true) (!inR (Gr.life g) 0 60) (by kernel_rfl) (fun g24 => ?_) (fun g24 => ?_) (fun f_24 b24 hb24 => ?_)
  · refine WpOps.unmet 20 (by kernel_rfl) (by kernel_rfl) (wants_tf g24 (by kernel_rfl)) ?_
    refine WpOps.unmet 21 (by kernel_rfl) (by kernel_rfl) (wants_tf g24 (by kernel_rfl)) ?_
    refine WpOps.unmet 22 (by kernel_rfl) (by kernel_rfl) (wants_tf g24 (by kernel_rfl)) ?_
    refine WpOps.unmet 23 (by kernel_rfl) (by kernel_rfl) (wants_tf g24 (by kernel_rfl)) ?_
    refine WpOps.keep 24 (Value.bool true) (by kernel_rfl) (by kernel_rfl) (by kernel_rfl) ?_ (fun cf => o_pickT g24 (by kernel_rfl) (by kernel_rfl))
    refine WpOps.nil ?_
    exact ⟨rfl, (.upd rfl (.upd rfl (.upd rfl (.upd rfl (.upd rfl .refl))))), (by kernel_rfl)⟩
  · refine WpOps.keep 20 (Value.pointer (some (Addr.mk 0 3 none))) (by kernel_rfl) (by kernel_rfl) (wants_ff g24 (by kernel_rfl)) ?_ (fun cf => (by kernel_rfl))
    refine WpOps.keep 21 (Value.int IntKind.i64 (Gr.life g)) (by kernel_rfl) (by kernel_rfl) (wants_ff g24 (by kernel_rfl)) ?_ (fun cf => (by kernel_rfl))
    refine WpOps.framed 22 46 [Value.int IntKind.i64 (Gr.life g), Value.int IntKind.i64 0, Value.int IntKind.i64 60] (by kernel_rfl) (by kernel_rfl) (wants_ff g24 (by kernel_rfl)) (by kernel_rfl) (by kernel_rfl) (fun cf => (by kernel_rfl)) ?_
    refine WpFun.of (i1 _ _ _) ?_
    refine WpOps.keep 23 (Value.bool !inR (Gr.life g) 0 60) (by kernel_rfl) (by kernel_rfl) (wants_ff g24 (by kernel_rfl)) ?_ (fun cf => (by kernel_rfl))
    refine WpOps.keep 24 (Value.bool !inR (Gr.life g) 0 60) (by kernel_rfl) (by kernel_rfl) (by kernel_rfl) ?_ (fun cf => o_pickF g24 (by kernel_rfl) (by kernel_rfl))
    refine WpOps.nil ?_
    exact ⟨rfl, (.upd rfl (.upd rfl (.upd rfl (.upd rfl (.upd rfl .refl))))), (by kernel_rfl)⟩
  refine WpOps.keep 25 (Value.bool b24) (by kernel_rfl) (by kernel_rfl) (by kernel_rfl) ?_ (fun cf => (by kernel_rfl))
  refine WpOps.fork 5 (b24) [26, 27, 28, 29, 30] 30 (true) (!inR (Gr.report g) 0 4) (by kernel_rfl) (fun g30 => ?_) (fun g30 => ?_) (fun f_30 b30 hb30 => ?_)
  · refine WpOps.unmet 26 (by kernel_rfl) (by kernel_rfl) (wants_tf g30 (by kernel_rfl)) ?_
    refine WpOps.unmet 27 (by kernel_rfl) (by kernel_rfl) (wants_tf g30 (by kernel_rfl)) ?_
    refine WpOps.unmet 28 (by kernel_rfl) (by kernel_rfl) (wants_tf g30 (by kernel_rfl)) ?_
    refine WpOps.unmet 29 (by kernel_rfl) (by kernel_rfl) (wants_tf g30 (by kernel_rfl)) ?_
    refine WpOps.keep 30 (Value.bool true) (by kernel_rfl) (by kernel_rfl) (by kernel_rfl) ?_ (fun cf => o_pickT g30 (by kernel_rfl) (by kernel_rfl))
    refine WpOps.nil ?_
    exact ⟨rfl, (.upd rfl (.upd rfl (.upd rfl (.upd rfl (.upd rfl .refl))))), (by kernel_rfl)⟩
  · refine WpOps.keep 26 (Value.pointer (some (Addr.mk 0 6 none))) (by kernel_rfl) (by kernel_rfl) (wants_ff g30 (by kernel_rfl)) ?_ (fun cf => (by kernel_rfl))
    refine WpOps.keep 27 (Value.int IntKind.i64 (Gr.report g)) (by kernel_rfl) (by kernel_rfl) (wants_ff g30 (by kernel_rfl)) ?_ (fun cf => (by kernel_rfl))
    refine WpOps.framed 28 46 [Value.int IntKind.i64 (Gr.report g), Value.int IntKind.i64 0, Value.int IntKind.i64 4] (by kernel_rfl) (by kernel_rfl) (wants_ff g30 (by kernel_rfl)) (by kernel_rfl) (by kernel_rfl) (fun cf => (by kernel_rfl)) ?_
    refine WpFun.of (i1 _ _ _) ?_
    refine WpOps.keep 29 (Value.bool !inR (Gr.report g) 0 4) (by kernel_rfl) (by kernel_rfl) (wants_ff g30 (by kernel_rfl)) ?_ (fun cf => (by kernel_rfl))
    refine WpOps.keep 30 (Value.bool !inR (Gr.report g) 0 4) (by kernel_rfl) (by kernel_rfl) (by kernel_rfl) ?_ (fun cf => o_pickF g30 (by kernel_rfl) (by kernel_rfl))
    refine WpOps.nil ?_
    exact ⟨rfl, (.upd rfl (.upd rfl (.upd rfl (.upd rfl (.upd rfl .refl))))), (by kernel_rfl)⟩
  refine WpOps.nil ?_
  refine thenK_at ?_
  refine Wp.split (b30) (by kernel_rfl) (fun hc => ?_) (fun hc => ?_)
  · refine Wp.seq ?_
    refine Wp.text ?_
    refine WpOps.keep 2 (Value.bool false) (by kernel_rfl) (by kernel_rfl) (by kernel_rfl) ?_ (fun cf => (by kernel_rfl))
    refine WpOps.nil ?_
    refine thenK_at ?_
    refine Wp.ret ?_
    refine thenK_ret ?_
    refine endK_retn [Value.bool false] (Value.bool false) (by kernel_rfl) (by kernel_rfl) ?_
    rw [hb30, hb24, hb18, hb12, chain4] at hc
    rw [okR_1 (by rwa [Bool.not_eq_true'] at hc)]
    rfl
  · refine Wp.skip ?_
    refine thenK_at ?_
    refine Wp.seq ?_
    refine Wp.seq ?_
    refine Wp.text ?_
    refine WpOps.keep 31 (Value.pointer (some (Addr.mk 0 5 none))) (by kernel_rfl) (by kernel_rfl) (by kernel_rfl) ?_ (fun cf => (by kernel_rfl))
    refine WpOps.keep 32 (Value.int IntKind.i64 (Gr.total g)) (by kernel_rfl) (by kernel_rfl) (by kernel_rfl) ?_ (fun cf => (by kernel_rfl))
    refine WpOps.framed 33 46 [Value.int IntKind.i64 (Gr.total g), Value.int IntKind.i64 0, Value.int IntKind.i64 4000] (by kernel_rfl) (by kernel_rfl) (by kernel_rfl) (by kernel_rfl) (by kernel_rfl) (fun cf => (by kernel_rfl)) ?_
    refine WpFun.of (i1 _ _ _) ?_
    refine WpOps.keep 34 (Value.bool !inR (Gr.total g) 0 4000) (by kernel_rfl) (by kernel_rfl) (by kernel_rfl) ?_ (fun cf => (by kernel_rfl))
    refine WpOps.keep 35 (Value.bool !inR (Gr.total g) 0 4000) (by kernel_rfl) (by kernel_rfl) (by kernel_rfl) ?_ (fun cf => (by kernel_rfl))
    refine WpOps.fork 7 (!inR (Gr.total g) 0 4000) [36, 37, 38, 39, 40, 41, 42] 42 (true) (!inR (Gr.at' g) 0 (Gr.total g)) (by kernel_rfl) (fun g42 => ?_) (fun g42 => ?_) (fun f_42 b42 hb42 => ?_)
    · refine WpOps.unmet 36 (by kernel_rfl) (by kernel_rfl) (wants_tf g42 (by kernel_rfl)) ?_
      refine WpOps.unmet 37 (by kernel_rfl) (by kernel_rfl) (wants_tf g42 (by kernel_rfl)) ?_
      refine WpOps.unmet 38 (by kernel_rfl) (by kernel_rfl) (wants_tf g42 (by kernel_rfl)) ?_
      refine WpOps.unmet 39 (by kernel_rfl) (by kernel_rfl) (wants_tf g42 (by kernel_rfl)) ?_
      refine WpOps.unmet 40 (by kernel_rfl) (by kernel_rfl) (wants_tf g42 (by kernel_rfl)) ?_
      refine WpOps.unmet 41 (by kernel_rfl) (by kernel_rfl) (wants_tf g42 (by kernel_rfl)) ?_
      refine WpOps.keep 42 (Value.bool true) (by kernel_rfl) (by kernel_rfl) (by kernel_rfl) ?_ (fun cf => o_pickT g42 (by kernel_rfl) (by kernel_rfl))
      refine WpOps.nil ?_
      exact ⟨rfl, (.upd rfl (.upd rfl (.upd rfl (.upd rfl (.upd rfl (.upd rfl (.upd rfl .refl))))))), (by kernel_rfl)⟩
    · refine WpOps.keep 36 (Value.pointer (some (Addr.mk 0 4 none))) (by kernel_rfl) (by kernel_rfl) (wants_ff g42 (by kernel_rfl)) ?_ (fun cf => (by kernel_rfl))
      refine WpOps.keep 37 (Value.int IntKind.i64 (Gr.at' g)) (by kernel_rfl) (by kernel_rfl) (wants_ff g42 (by kernel_rfl)) ?_ (fun cf => (by kernel_rfl))
      refine WpOps.keep 38 (Value.pointer (some (Addr.mk 0 5 none))) (by kernel_rfl) (by kernel_rfl) (wants_ff g42 (by kernel_rfl)) ?_ (fun cf => (by kernel_rfl))
      refine WpOps.keep 39 (Value.int IntKind.i64 (Gr.total g)) (by kernel_rfl) (by kernel_rfl) (wants_ff g42 (by kernel_rfl)) ?_ (fun cf => (by kernel_rfl))
      refine WpOps.framed 40 46 [Value.int IntKind.i64 (Gr.at' g), Value.int IntKind.i64 0, Value.int IntKind.i64 (Gr.total g)] (by kernel_rfl) (by kernel_rfl) (wants_ff g42 (by kernel_rfl)) (by kernel_rfl) (by kernel_rfl) (fun cf => (by kernel_rfl)) ?_
      refine WpFun.of (i1 _ _ _) ?_
      refine WpOps.keep 41 (Value.bool !inR (Gr.at' g) 0 (Gr.total g)) (by kernel_rfl) (by kernel_rfl) (wants_ff g42 (by kernel_rfl)) ?_ (fun cf => (by kernel_rfl))
      refine WpOps.keep 42 (Value.bool !inR (Gr.at' g) 0 (Gr.total g)) (by kernel_rfl) (by kernel_rfl) (by kernel_rfl) ?_ (fun cf => o_pickF g42 (by kernel_rfl) (by kernel_rfl))
      refine WpOps.nil ?_
      exact ⟨rfl, (.upd rfl (.upd rfl (.upd rfl (.upd rfl (.upd rfl (.upd rfl (.upd rfl .refl))))))), (by kernel_rfl)⟩
    refine WpOps.keep 43 (Value.bool b42) (by kernel_rfl) (by kernel_rfl) (by kernel_rfl) ?_ (fun cf => (by kernel_rfl))
    refine WpOps.fork 10 (b42) [44, 45, 46, 47, 48, 49, 50, 51, 52, 53] 53 (true) (decide ((↑(ByteArray.size (Gr.data g)) : Int) > IntKind.wrap IntKind.i64 (Gr.total g - Gr.at' g))) (by kernel_rfl) (fun g53 => ?_) (fun g53 => ?_) (fun f_53 b53 hb53 => ?_)
    · refine WpOps.unmet 44 (by kernel_rfl) (by kernel_rfl) (wants_tf g53 (by kernel_rfl)) ?_
      refine WpOps.unmet 45 (by kernel_rfl) (by kernel_rfl) (wants_tf g53 (by kernel_rfl)) ?_
      refine WpOps.unmet 46 (by kernel_rfl) (by kernel_rfl) (wants_tf g53 (by kernel_rfl)) ?_
      refine WpOps.unmet 47 (by kernel_rfl) (by kernel_rfl) (wants_tf g53 (by kernel_rfl)) ?_
      refine WpOps.unmet 48 (by kernel_rfl) (by kernel_rfl) (wants_tf g53 (by kernel_rfl)) ?_
      refine WpOps.unmet 49 (by kernel_rfl) (by kernel_rfl) (wants_tf g53 (by kernel_rfl)) ?_
      refine WpOps.unmet 50 (by kernel_rfl) (by kernel_rfl) (wants_tf g53 (by kernel_rfl)) ?_
      refine WpOps.unmet 51 (by kernel_rfl) (by kernel_rfl) (wants_tf g53 (by kernel_rfl)) ?_
      refine WpOps.unmet 52 (by kernel_rfl) (by kernel_rfl) (wants_tf g53 (by kernel_rfl)) ?_
      refine WpOps.keep 53 (Value.bool true) (by kernel_rfl) (by kernel_rfl) (by kernel_rfl) ?_ (fun cf => o_pickT g53 (by kernel_rfl) (by kernel_rfl))
      refine WpOps.nil ?_
      exact ⟨rfl, (.upd rfl (.upd rfl (.upd rfl (.upd rfl (.upd rfl (.upd rfl (.upd rfl (.upd rfl (.upd rfl (.upd rfl .refl)))))))))), (by kernel_rfl)⟩
    · refine WpOps.keep 44 (Value.pointer (some (Addr.mk 0 10 none))) (by kernel_rfl) (by kernel_rfl) (wants_ff g53 (by kernel_rfl)) ?_ (fun cf => (by kernel_rfl))
      refine WpOps.keep 45 (Value.string (Gr.data g)) (by kernel_rfl) (by kernel_rfl) (wants_ff g53 (by kernel_rfl)) ?_ (fun cf => (by kernel_rfl))
      refine WpOps.keep 46 (Value.int IntKind.i64 (↑(ByteArray.size (Gr.data g)) : Int)) (by kernel_rfl) (by kernel_rfl) (wants_ff g53 (by kernel_rfl)) ?_ (fun cf => (by kernel_rfl))
      refine WpOps.keep 47 (Value.pointer (some (Addr.mk 0 5 none))) (by kernel_rfl) (by kernel_rfl) (wants_ff g53 (by kernel_rfl)) ?_ (fun cf => (by kernel_rfl))
      refine WpOps.keep 48 (Value.int IntKind.i64 (Gr.total g)) (by kernel_rfl) (by kernel_rfl) (wants_ff g53 (by kernel_rfl)) ?_ (fun cf => (by kernel_rfl))
      refine WpOps.keep 49 (Value.pointer (some (Addr.mk 0 4 none))) (by kernel_rfl) (by kernel_rfl) (wants_ff g53 (by kernel_rfl)) ?_ (fun cf => (by kernel_rfl))
      refine WpOps.keep 50 (Value.int IntKind.i64 (Gr.at' g)) (by kernel_rfl) (by kernel_rfl) (wants_ff g53 (by kernel_rfl)) ?_ (fun cf => (by kernel_rfl))
      refine WpOps.keep 51 (Value.int IntKind.i64 (IntKind.wrap IntKind.i64 (Gr.total g - Gr.at' g))) (by kernel_rfl) (by kernel_rfl) (wants_ff g53 (by kernel_rfl)) ?_ (fun cf => (by kernel_rfl))
      refine WpOps.keep 52 (Value.bool (decide ((↑(ByteArray.size (Gr.data g)) : Int) > IntKind.wrap IntKind.i64 (Gr.total g - Gr.at' g)))) (by kernel_rfl) (by kernel_rfl) (wants_ff g53 (by kernel_rfl)) ?_ (fun cf => (by kernel_rfl))
      refine WpOps.keep 53 (Value.bool (decide ((↑(ByteArray.size (Gr.data g)) : Int) > IntKind.wrap IntKind.i64 (Gr.total g - Gr.at' g)))) (by kernel_rfl) (by kernel_rfl) (by kernel_rfl) ?_ (fun cf => o_pickF g53 (by kernel_rfl) (by kernel_rfl))
      refine WpOps.nil ?_
      exact ⟨rfl, (.upd rfl (.upd rfl (.upd rfl (.upd rfl (.upd rfl (.upd rfl (.upd rfl (.upd rfl (.upd rfl (.upd rfl .refl)))))))))), (by kernel_rfl)⟩
    refine WpOps.nil ?_
    refine thenK_at ?_
    rw [hb30, hb24, hb18, hb12, chain4] at hc
    refine Wp.split (b53) (by kernel_rfl) (fun hd => ?_) (fun hd => ?_)
    · refine Wp.seq ?_
      refine Wp.text ?_
      refine WpOps.keep 2 (Value.bool false) (by kernel_rfl) (by kernel_rfl) (by kernel_rfl) ?_ (fun cf => (by kernel_rfl))
      refine WpOps.nil ?_
      refine thenK_at ?_
      refine Wp.ret ?_
      refine thenK_ret ?_
      refine endK_retn [Value.bool false] (Value.bool false) (by kernel_rfl) (by kernel_rfl) ?_
      rw [hb53, hb42, chain3] at hd
      rw [okG_2 (by rwa [Bool.not_eq_true'] at hd)]
      rfl
    · refine Wp.skip ?_
      refine thenK_at ?_
      refine Wp.seq ?_
      refine Wp.text ?_
      refine WpOps.keep 54 (Value.pointer (some (Addr.mk 0 7 none))) (by kernel_rfl) (by kernel_rfl) (by kernel_rfl) ?_ (fun cf => (by kernel_rfl))
      refine WpOps.keep 55 (Value.bool (Gr.more g)) (by kernel_rfl) (by kernel_rfl) (by kernel_rfl) ?_ (fun cf => (by kernel_rfl))
      refine WpOps.keep 56 (Value.pointer (some (Addr.mk 0 4 none))) (by kernel_rfl) (by kernel_rfl) (by kernel_rfl) ?_ (fun cf => (by kernel_rfl))
      refine WpOps.keep 57 (Value.int IntKind.i64 (Gr.at' g)) (by kernel_rfl) (by kernel_rfl) (by kernel_rfl) ?_ (fun cf => (by kernel_rfl))
      refine WpOps.keep 58 (Value.pointer (some (Addr.mk 0 10 none))) (by kernel_rfl) (by kernel_rfl) (by kernel_rfl) ?_ (fun cf => (by kernel_rfl))
      refine WpOps.keep 59 (Value.string (Gr.data g)) (by kernel_rfl) (by kernel_rfl) (by kernel_rfl) ?_ (fun cf => (by kernel_rfl))
      refine WpOps.keep 60 (Value.int IntKind.i64 (↑(ByteArray.size (Gr.data g)) : Int)) (by kernel_rfl) (by kernel_rfl) (by kernel_rfl) ?_ (fun cf => (by kernel_rfl))
      refine WpOps.keep 61 (Value.int IntKind.i64 (IntKind.wrap IntKind.i64 (Gr.at' g + (↑(ByteArray.size (Gr.data g)) : Int)))) (by kernel_rfl) (by kernel_rfl) (by kernel_rfl) ?_ (fun cf => (by kernel_rfl))
      refine WpOps.keep 62 (Value.pointer (some (Addr.mk 0 5 none))) (by kernel_rfl) (by kernel_rfl) (by kernel_rfl) ?_ (fun cf => (by kernel_rfl))
      refine WpOps.keep 63 (Value.int IntKind.i64 (Gr.total g)) (by kernel_rfl) (by kernel_rfl) (by kernel_rfl) ?_ (fun cf => (by kernel_rfl))
      refine WpOps.keep 64 (Value.bool (decide (IntKind.wrap IntKind.i64 (Gr.at' g + (↑(ByteArray.size (Gr.data g)) : Int)) < Gr.total g))) (by kernel_rfl) (by kernel_rfl) (by kernel_rfl) ?_ (fun cf => (by kernel_rfl))
      refine WpOps.keep 65 (Value.bool (Gr.more g == decide (IntKind.wrap IntKind.i64 (Gr.at' g + (↑(ByteArray.size (Gr.data g)) : Int)) < Gr.total g))) (by kernel_rfl) (by kernel_rfl) (by kernel_rfl) ?_ (fun cf => (by kernel_rfl))
      refine WpOps.keep 66 (Value.bool (Gr.more g == decide (IntKind.wrap IntKind.i64 (Gr.at' g + (↑(ByteArray.size (Gr.data g)) : Int)) < Gr.total g))) (by kernel_rfl) (by kernel_rfl) (by kernel_rfl) ?_ (fun cf => (by kernel_rfl))
      refine WpOps.fork 9 (Gr.more g == decide (IntKind.wrap IntKind.i64 (Gr.at' g + (↑(ByteArray.size (Gr.data g)) : Int)) < Gr.total g)) [67, 68, 69, 70, 71, 72, 73, 74, 75] 75 (bif Gr.report g == 0 then true else !Gr.wants g) (false) (by kernel_rfl) (fun g75 => ?_) (fun g75 => ?_) (fun f_75 b75 hb75 => ?_)
      · refine WpOps.keep 67 (Value.pointer (some (Addr.mk 0 6 none))) (by kernel_rfl) (by kernel_rfl) (wants_tt g75 (by kernel_rfl)) ?_ (fun cf => (by kernel_rfl))
        refine WpOps.keep 68 (Value.int IntKind.i64 (Gr.report g)) (by kernel_rfl) (by kernel_rfl) (wants_tt g75 (by kernel_rfl)) ?_ (fun cf => (by kernel_rfl))
        refine WpOps.keep 69 (Value.bool (Gr.report g == 0)) (by kernel_rfl) (by kernel_rfl) (wants_tt g75 (by kernel_rfl)) ?_ (fun cf => (by kernel_rfl))
        refine WpOps.keep 70 (Value.bool (Gr.report g == 0)) (by kernel_rfl) (by kernel_rfl) (wants_tt g75 (by kernel_rfl)) ?_ (fun cf => (by kernel_rfl))
        refine WpOps.forkE 5 (Gr.report g == 0) [71, 72, 73, 74, 75] 75 (true) (!Gr.wants g) (by kernel_rfl) (fun g75' => ?_) (fun g75' => ?_) (fun f_75 => ?_)
        · refine WpOps.unmet 71 (by kernel_rfl) (by kernel_rfl) (wants_tf g75' (by kernel_rfl)) ?_
          refine WpOps.unmet 72 (by kernel_rfl) (by kernel_rfl) (wants_tf g75' (by kernel_rfl)) ?_
          refine WpOps.unmet 73 (by kernel_rfl) (by kernel_rfl) (wants_tf g75' (by kernel_rfl)) ?_
          refine WpOps.keep 74 (Value.bool true) (by kernel_rfl) (by kernel_rfl) (wants_tt g75 (by kernel_rfl)) ?_ (fun cf => o_pickT g75' (by kernel_rfl) (by kernel_rfl))
          refine WpOps.keep 75 (Value.bool true) (by kernel_rfl) (by kernel_rfl) (by kernel_rfl) ?_ (fun cf => o_pickT g75 (by kernel_rfl) (by kernel_rfl))
          refine WpOps.nil ?_
          exact ⟨rfl, (.upd rfl (.upd rfl (.upd rfl (.upd rfl (.upd rfl .refl))))), (by kernel_rfl)⟩
        · refine WpOps.keep 71 (Value.pointer (some (Addr.mk 0 9 none))) (by kernel_rfl) (by kernel_rfl) (wants_ff g75' (by kernel_rfl)) ?_ (fun cf => (by kernel_rfl))
          refine WpOps.keep 72 (Value.bool (Gr.wants g)) (by kernel_rfl) (by kernel_rfl) (wants_ff g75' (by kernel_rfl)) ?_ (fun cf => (by kernel_rfl))
          refine WpOps.keep 73 (Value.bool !Gr.wants g) (by kernel_rfl) (by kernel_rfl) (wants_ff g75' (by kernel_rfl)) ?_ (fun cf => (by kernel_rfl))
          refine WpOps.keep 74 (Value.bool !Gr.wants g) (by kernel_rfl) (by kernel_rfl) (wants_tt g75 (by kernel_rfl)) ?_ (fun cf => o_pickF g75' (by kernel_rfl) (by kernel_rfl))
          refine WpOps.keep 75 (Value.bool !Gr.wants g) (by kernel_rfl) (by kernel_rfl) (by kernel_rfl) ?_ (fun cf => o_pickT g75 (by kernel_rfl) (by kernel_rfl))
          refine WpOps.nil ?_
          exact ⟨rfl, (.upd rfl (.upd rfl (.upd rfl (.upd rfl (.upd rfl .refl))))), (by kernel_rfl)⟩
        refine WpOps.nil ?_
        exact ⟨rfl, (.upd rfl (.mix rfl (.upd rfl (.upd rfl (.upd rfl (.upd rfl .refl)))))), (by kernel_rfl)⟩
      · refine WpOps.unmet 67 (by kernel_rfl) (by kernel_rfl) (wants_ft g75 (by kernel_rfl)) ?_
        refine WpOps.unmet 68 (by kernel_rfl) (by kernel_rfl) (wants_ft g75 (by kernel_rfl)) ?_
        refine WpOps.unmet 69 (by kernel_rfl) (by kernel_rfl) (wants_ft g75 (by kernel_rfl)) ?_
        refine WpOps.unmet 70 (by kernel_rfl) (by kernel_rfl) (wants_ft g75 (by kernel_rfl)) ?_
        refine WpOps.unmet 71 (by kernel_rfl) (by kernel_rfl) (by kernel_rfl) ?_
        refine WpOps.unmet 72 (by kernel_rfl) (by kernel_rfl) (by kernel_rfl) ?_
        refine WpOps.unmet 73 (by kernel_rfl) (by kernel_rfl) (by kernel_rfl) ?_
        refine WpOps.unmet 74 (by kernel_rfl) (by kernel_rfl) (wants_ft g75 (by kernel_rfl)) ?_
        refine WpOps.keep 75 (Value.bool false) (by kernel_rfl) (by kernel_rfl) (by kernel_rfl) ?_ (fun cf => o_pickF g75 (by kernel_rfl) (by kernel_rfl))
        refine WpOps.nil ?_
        exact ⟨rfl, (.upd rfl (.upd rfl (.upd rfl (.upd rfl (.upd rfl (.upd rfl (.upd rfl (.upd rfl (.upd rfl .refl))))))))), (by kernel_rfl)⟩
      refine WpOps.keep 2 (Value.bool b75) (by kernel_rfl) (by kernel_rfl) (by kernel_rfl) ?_ (fun cf => (by kernel_rfl))
      refine WpOps.nil ?_
      refine thenK_at ?_
      refine Wp.ret ?_
      refine endK_retn [Value.bool b75] (Value.bool b75) (by kernel_rfl) (by kernel_rfl) ?_
      rw [hb53, hb42, chain3] at hd
      rw [okR_3 (by rwa [Bool.not_eq_false'] at hc) (by rwa [Bool.not_eq_false'] at hd), hb75]
      rfl

/-- A datagram of the reference. -/
def toR (g : Gr) : Gr := { g with fx := 0, tx := 0 }
theorem To16 (g : Gr) (ok : OkGr g) : Fun E 16 [gv g] (gv (toR g)) := by
  refine Fun.of f16 rfl (of_decide_eq_true (by kernel_rfl)) (by kernel_rfl) ?_
  have c1 := copy31 g.fx g.fr ok.fl
  have c2 := copy31 g.tx g.to ok.tl
  refine Wp.seq ?_
  refine Wp.text ?_
  refine WpOps.made 1 (Value.pointer (some (Addr.mk 0 0 none))) (Blk.mk 24 true [Value.iface 3 (Value.iface (List.length (Gr.fr g)) (Value.iface (Gr.fx g) (Value.agg (List.toArray (List.map (fun n => Value.int IntKind.i64 n) (Gr.fr g)))))), Value.iface 3 (Value.iface (List.length (Gr.to g)) (Value.iface (Gr.tx g) (Value.agg (List.toArray (List.map (fun n => Value.int IntKind.i64 n) (Gr.to g)))))), Value.int IntKind.i64 (Gr.number g), Value.int IntKind.i64 (Gr.life g), Value.int IntKind.i64 (Gr.at' g), Value.int IntKind.i64 (Gr.total g), Value.int IntKind.i64 (Gr.report g), Value.bool (Gr.more g), Value.bool (Gr.may g), Value.bool (Gr.wants g), Value.string (Gr.data g)]) (by kernel_rfl) (by kernel_rfl) (by kernel_rfl) ?_ (fun cf => (by kernel_rfl))
  refine WpOps.made 2 (Value.pointer (some (Addr.mk 1 0 none))) (Blk.mk 32 true [Value.slice none 0 0, Value.slice none 0 0, Value.int IntKind.i64 0, Value.int IntKind.i64 0, Value.int IntKind.i64 0, Value.int IntKind.i64 0, Value.int IntKind.i64 0, Value.bool false, Value.bool false, Value.bool false, Value.string (ByteArray.mk #[])]) (by kernel_rfl) (by kernel_rfl) (by kernel_rfl) ?_ (fun cf => (by kernel_rfl))
  refine WpOps.nil ?_
  refine thenK_at ?_
  refine Wp.seq ?_
  refine Wp.region (by kernel_rfl) ?_
  refine WpOps.keep 3 (Value.pointer (some (Addr.mk 0 0 none))) (by kernel_rfl) (by kernel_rfl) (by kernel_rfl) ?_ (fun cf => (by kernel_rfl))
  refine WpOps.keep 4 (Value.iface 3 (Value.iface (List.length (Gr.fr g)) (Value.iface (Gr.fx g) (Value.agg (List.toArray (List.map (fun n => Value.int IntKind.i64 n) (Gr.fr g))))))) (by kernel_rfl) (by kernel_rfl) (by kernel_rfl) ?_ (fun cf => (by kernel_rfl))
  refine WpOps.framed 5 31 [Value.iface 3 (Value.iface (List.length (Gr.fr g)) (Value.iface (Gr.fx g) (Value.agg (List.toArray (List.map (fun n => Value.int IntKind.i64 n) (Gr.fr g))))))] (by kernel_rfl) (by kernel_rfl) (by kernel_rfl) (by kernel_rfl) (by kernel_rfl) (fun cf => (by kernel_rfl)) ?_
  refine WpFun.of (c1) ?_
  refine WpOps.keep 6 (Value.pointer (some (Addr.mk 0 1 none))) (by kernel_rfl) (by kernel_rfl) (by kernel_rfl) ?_ (fun cf => (by kernel_rfl))
  refine WpOps.keep 7 (Value.iface 3 (Value.iface (List.length (Gr.to g)) (Value.iface (Gr.tx g) (Value.agg (List.toArray (List.map (fun n => Value.int IntKind.i64 n) (Gr.to g))))))) (by kernel_rfl) (by kernel_rfl) (by kernel_rfl) ?_ (fun cf => (by kernel_rfl))
  refine WpOps.framed 8 31 [Value.iface 3 (Value.iface (List.length (Gr.to g)) (Value.iface (Gr.tx g) (Value.agg (List.toArray (List.map (fun n => Value.int IntKind.i64 n) (Gr.to g))))))] (by kernel_rfl) (by kernel_rfl) (by kernel_rfl) (by kernel_rfl) (by kernel_rfl) (fun cf => (by kernel_rfl)) ?_
  refine WpFun.of (c2) ?_
  refine WpOps.keep 9 (Value.pointer (some (Addr.mk 0 2 none))) (by kernel_rfl) (by kernel_rfl) (by kernel_rfl) ?_ (fun cf => (by kernel_rfl))
  refine WpOps.keep 10 (Value.int IntKind.i64 (Gr.number g)) (by kernel_rfl) (by kernel_rfl) (by kernel_rfl) ?_ (fun cf => (by kernel_rfl))
  refine WpOps.keep 11 (Value.pointer (some (Addr.mk 0 3 none))) (by kernel_rfl) (by kernel_rfl) (by kernel_rfl) ?_ (fun cf => (by kernel_rfl))
  refine WpOps.keep 12 (Value.int IntKind.i64 (Gr.life g)) (by kernel_rfl) (by kernel_rfl) (by kernel_rfl) ?_ (fun cf => (by kernel_rfl))
  refine WpOps.keep 13 (Value.pointer (some (Addr.mk 0 4 none))) (by kernel_rfl) (by kernel_rfl) (by kernel_rfl) ?_ (fun cf => (by kernel_rfl))
  refine WpOps.keep 14 (Value.int IntKind.i64 (Gr.at' g)) (by kernel_rfl) (by kernel_rfl) (by kernel_rfl) ?_ (fun cf => (by kernel_rfl))
  refine WpOps.keep 15 (Value.pointer (some (Addr.mk 0 5 none))) (by kernel_rfl) (by kernel_rfl) (by kernel_rfl) ?_ (fun cf => (by kernel_rfl))
  refine WpOps.keep 16 (Value.int IntKind.i64 (Gr.total g)) (by kernel_rfl) (by kernel_rfl) (by kernel_rfl) ?_ (fun cf => (by kernel_rfl))
  refine WpOps.keep 17 (Value.pointer (some (Addr.mk 0 6 none))) (by kernel_rfl) (by kernel_rfl) (by kernel_rfl) ?_ (fun cf => (by kernel_rfl))
  refine WpOps.keep 18 (Value.int IntKind.i64 (Gr.report g)) (by kernel_rfl) (by kernel_rfl) (by kernel_rfl) ?_ (fun cf => (by kernel_rfl))
  refine WpOps.keep 19 (Value.pointer (some (Addr.mk 0 7 none))) (by kernel_rfl) (by kernel_rfl) (by kernel_rfl) ?_ (fun cf => (by kernel_rfl))
  refine WpOps.keep 20 (Value.bool (Gr.more g)) (by kernel_rfl) (by kernel_rfl) (by kernel_rfl) ?_ (fun cf => (by kernel_rfl))
  refine WpOps.keep 21 (Value.pointer (some (Addr.mk 0 8 none))) (by kernel_rfl) (by kernel_rfl) (by kernel_rfl) ?_ (fun cf => (by kernel_rfl))
  refine WpOps.keep 22 (Value.bool (Gr.may g)) (by kernel_rfl) (by kernel_rfl) (by kernel_rfl) ?_ (fun cf => (by kernel_rfl))
  refine WpOps.keep 23 (Value.pointer (some (Addr.mk 0 9 none))) (by kernel_rfl) (by kernel_rfl) (by kernel_rfl) ?_ (fun cf => (by kernel_rfl))
  refine WpOps.keep 24 (Value.bool (Gr.wants g)) (by kernel_rfl) (by kernel_rfl) (by kernel_rfl) ?_ (fun cf => (by kernel_rfl))
  refine WpOps.keep 25 (Value.pointer (some (Addr.mk 0 10 none))) (by kernel_rfl) (by kernel_rfl) (by kernel_rfl) ?_ (fun cf => (by kernel_rfl))
  refine WpOps.keep 26 (Value.string (Gr.data g)) (by kernel_rfl) (by kernel_rfl) (by kernel_rfl) ?_ (fun cf => (by kernel_rfl))
  refine WpOps.keep 27 (Value.agg #[Value.iface 3 (Value.iface (List.length (Gr.fr g)) (Value.iface 0 (Value.agg (List.toArray (List.map (fun n => Value.int IntKind.i64 n) (Gr.fr g)))))), Value.iface 3 (Value.iface (List.length (Gr.to g)) (Value.iface 0 (Value.agg (List.toArray (List.map (fun n => Value.int IntKind.i64 n) (Gr.to g)))))), Value.int IntKind.i64 (Gr.number g), Value.int IntKind.i64 (Gr.life g), Value.int IntKind.i64 (Gr.at' g), Value.int IntKind.i64 (Gr.total g), Value.int IntKind.i64 (Gr.report g), Value.bool (Gr.more g), Value.bool (Gr.may g), Value.bool (Gr.wants g), Value.string (Gr.data g)]) (by kernel_rfl) (by kernel_rfl) (by kernel_rfl) ?_ (fun cf => (by kernel_rfl))
  refine WpOps.laid (Value.tuple #[]) (1) (Blk.mk 32 true [Value.iface 3 (Value.iface (List.length (Gr.fr g)) (Value.iface 0 (Value.agg (List.toArray (List.map (fun n => Value.int IntKind.i64 n) (Gr.fr g)))))), Value.iface 3 (Value.iface (List.length (Gr.to g)) (Value.iface 0 (Value.agg (List.toArray (List.map (fun n => Value.int IntKind.i64 n) (Gr.to g)))))), Value.int IntKind.i64 (Gr.number g), Value.int IntKind.i64 (Gr.life g), Value.int IntKind.i64 (Gr.at' g), Value.int IntKind.i64 (Gr.total g), Value.int IntKind.i64 (Gr.report g), Value.bool (Gr.more g), Value.bool (Gr.may g), Value.bool (Gr.wants g), Value.string (Gr.data g)]) (by kernel_rfl) (by kernel_rfl) (by kernel_rfl) ?_ (fun cf => (by kernel_rfl))
  refine WpOps.nil ?_
  refine thenK_at ?_
  refine Wp.ret ?_
  refine endK_retn [Value.agg #[Value.iface 3 (Value.iface (List.length (Gr.fr g)) (Value.iface 0 (Value.agg (List.toArray (List.map (fun n => Value.int IntKind.i64 n) (Gr.fr g)))))), Value.iface 3 (Value.iface (List.length (Gr.to g)) (Value.iface 0 (Value.agg (List.toArray (List.map (fun n => Value.int IntKind.i64 n) (Gr.to g)))))), Value.int IntKind.i64 (Gr.number g), Value.int IntKind.i64 (Gr.life g), Value.int IntKind.i64 (Gr.at' g), Value.int IntKind.i64 (Gr.total g), Value.int IntKind.i64 (Gr.report g), Value.bool (Gr.more g), Value.bool (Gr.may g), Value.bool (Gr.wants g), Value.string (Gr.data g)]] (Value.agg #[Value.iface 3 (Value.iface (List.length (Gr.fr g)) (Value.iface 0 (Value.agg (List.toArray (List.map (fun n => Value.int IntKind.i64 n) (Gr.fr g)))))), Value.iface 3 (Value.iface (List.length (Gr.to g)) (Value.iface 0 (Value.agg (List.toArray (List.map (fun n => Value.int IntKind.i64 n) (Gr.to g)))))), Value.int IntKind.i64 (Gr.number g), Value.int IntKind.i64 (Gr.life g), Value.int IntKind.i64 (Gr.at' g), Value.int IntKind.i64 (Gr.total g), Value.int IntKind.i64 (Gr.report g), Value.bool (Gr.more g), Value.bool (Gr.may g), Value.bool (Gr.wants g), Value.string (Gr.data g)]) (by kernel_rfl) (by kernel_rfl) ?_
  kernel_rfl
theorem own77 (g : Gr) (ok : OkGr g) : Fun E 77 [gv g] (gv (toR g)) := by
  refine Fun.of f77 rfl (of_decide_eq_true (by kernel_rfl)) (by kernel_rfl) ?_
  have c1 := copy31 g.fx g.fr ok.fl
  have c2 := copy31 g.tx g.to ok.tl
  refine Wp.seq ?_
  refine Wp.text ?_
  refine WpOps.made 1 (Value.pointer (some (Addr.mk 0 0 none))) (Blk.mk 32 true [Value.iface 3 (Value.iface (List.length (Gr.fr g)) (Value.iface (Gr.fx g) (Value.agg (List.toArray (List.map (fun n => Value.int IntKind.i64 n) (Gr.fr g)))))), Value.iface 3 (Value.iface (List.length (Gr.to g)) (Value.iface (Gr.tx g) (Value.agg (List.toArray (List.map (fun n => Value.int IntKind.i64 n) (Gr.to g)))))), Value.int IntKind.i64 (Gr.number g), Value.int IntKind.i64 (Gr.life g), Value.int IntKind.i64 (Gr.at' g), Value.int IntKind.i64 (Gr.total g), Value.int IntKind.i64 (Gr.report g), Value.bool (Gr.more g), Value.bool (Gr.may g), Value.bool (Gr.wants g), Value.string (Gr.data g)]) (by kernel_rfl) (by kernel_rfl) (by kernel_rfl) ?_ (fun cf => (by kernel_rfl))
  refine WpOps.made 2 (Value.pointer (some (Addr.mk 1 0 none))) (Blk.mk 32 true [Value.slice none 0 0, Value.slice none 0 0, Value.int IntKind.i64 0, Value.int IntKind.i64 0, Value.int IntKind.i64 0, Value.int IntKind.i64 0, Value.int IntKind.i64 0, Value.bool false, Value.bool false, Value.bool false, Value.string (ByteArray.mk #[])]) (by kernel_rfl) (by kernel_rfl) (by kernel_rfl) ?_ (fun cf => (by kernel_rfl))
  refine WpOps.nil ?_
  refine thenK_at ?_
  refine Wp.seq ?_
  refine Wp.text ?_
  refine WpOps.keep 3 (Value.pointer (some (Addr.mk 0 0 none))) (by kernel_rfl) (by kernel_rfl) (by kernel_rfl) ?_ (fun cf => (by kernel_rfl))
  refine WpOps.keep 4 (Value.iface 3 (Value.iface (List.length (Gr.fr g)) (Value.iface (Gr.fx g) (Value.agg (List.toArray (List.map (fun n => Value.int IntKind.i64 n) (Gr.fr g))))))) (by kernel_rfl) (by kernel_rfl) (by kernel_rfl) ?_ (fun cf => (by kernel_rfl))
  refine WpOps.framed 5 31 [Value.iface 3 (Value.iface (List.length (Gr.fr g)) (Value.iface (Gr.fx g) (Value.agg (List.toArray (List.map (fun n => Value.int IntKind.i64 n) (Gr.fr g))))))] (by kernel_rfl) (by kernel_rfl) (by kernel_rfl) (by kernel_rfl) (by kernel_rfl) (fun cf => (by kernel_rfl)) ?_
  refine WpFun.of (c1) ?_
  refine WpOps.keep 6 (Value.pointer (some (Addr.mk 0 0 none))) (by kernel_rfl) (by kernel_rfl) (by kernel_rfl) ?_ (fun cf => (by kernel_rfl))
  refine WpOps.laid (Value.tuple #[]) (0) (Blk.mk 32 true [Value.iface 3 (Value.iface (List.length (Gr.fr g)) (Value.iface 0 (Value.agg (List.toArray (List.map (fun n => Value.int IntKind.i64 n) (Gr.fr g)))))), Value.iface 3 (Value.iface (List.length (Gr.to g)) (Value.iface (Gr.tx g) (Value.agg (List.toArray (List.map (fun n => Value.int IntKind.i64 n) (Gr.to g)))))), Value.int IntKind.i64 (Gr.number g), Value.int IntKind.i64 (Gr.life g), Value.int IntKind.i64 (Gr.at' g), Value.int IntKind.i64 (Gr.total g), Value.int IntKind.i64 (Gr.report g), Value.bool (Gr.more g), Value.bool (Gr.may g), Value.bool (Gr.wants g), Value.string (Gr.data g)]) (by kernel_rfl) (by kernel_rfl) (by kernel_rfl) ?_ (fun cf => (by kernel_rfl))
  refine WpOps.nil ?_
  refine thenK_at ?_
  refine Wp.seq ?_
  refine Wp.text ?_
  refine WpOps.keep 7 (Value.pointer (some (Addr.mk 0 1 none))) (by kernel_rfl) (by kernel_rfl) (by kernel_rfl) ?_ (fun cf => (by kernel_rfl))
  refine WpOps.keep 8 (Value.iface 3 (Value.iface (List.length (Gr.to g)) (Value.iface (Gr.tx g) (Value.agg (List.toArray (List.map (fun n => Value.int IntKind.i64 n) (Gr.to g))))))) (by kernel_rfl) (by kernel_rfl) (by kernel_rfl) ?_ (fun cf => (by kernel_rfl))
  refine WpOps.framed 9 31 [Value.iface 3 (Value.iface (List.length (Gr.to g)) (Value.iface (Gr.tx g) (Value.agg (List.toArray (List.map (fun n => Value.int IntKind.i64 n) (Gr.to g))))))] (by kernel_rfl) (by kernel_rfl) (by kernel_rfl) (by kernel_rfl) (by kernel_rfl) (fun cf => (by kernel_rfl)) ?_
  refine WpFun.of (c2) ?_
  refine WpOps.keep 10 (Value.pointer (some (Addr.mk 0 1 none))) (by kernel_rfl) (by kernel_rfl) (by kernel_rfl) ?_ (fun cf => (by kernel_rfl))
  refine WpOps.laid (Value.tuple #[]) (0) (Blk.mk 32 true [Value.iface 3 (Value.iface (List.length (Gr.fr g)) (Value.iface 0 (Value.agg (List.toArray (List.map (fun n => Value.int IntKind.i64 n) (Gr.fr g)))))), Value.iface 3 (Value.iface (List.length (Gr.to g)) (Value.iface 0 (Value.agg (List.toArray (List.map (fun n => Value.int IntKind.i64 n) (Gr.to g)))))), Value.int IntKind.i64 (Gr.number g), Value.int IntKind.i64 (Gr.life g), Value.int IntKind.i64 (Gr.at' g), Value.int IntKind.i64 (Gr.total g), Value.int IntKind.i64 (Gr.report g), Value.bool (Gr.more g), Value.bool (Gr.may g), Value.bool (Gr.wants g), Value.string (Gr.data g)]) (by kernel_rfl) (by kernel_rfl) (by kernel_rfl) ?_ (fun cf => (by kernel_rfl))
  refine WpOps.nil ?_
  refine thenK_at ?_
  refine Wp.seq ?_
  refine Wp.text ?_
  refine WpOps.keep 11 (Value.agg #[Value.iface 3 (Value.iface (List.length (Gr.fr g)) (Value.iface 0 (Value.agg (List.toArray (List.map (fun n => Value.int IntKind.i64 n) (Gr.fr g)))))), Value.iface 3 (Value.iface (List.length (Gr.to g)) (Value.iface 0 (Value.agg (List.toArray (List.map (fun n => Value.int IntKind.i64 n) (Gr.to g)))))), Value.int IntKind.i64 (Gr.number g), Value.int IntKind.i64 (Gr.life g), Value.int IntKind.i64 (Gr.at' g), Value.int IntKind.i64 (Gr.total g), Value.int IntKind.i64 (Gr.report g), Value.bool (Gr.more g), Value.bool (Gr.may g), Value.bool (Gr.wants g), Value.string (Gr.data g)]) (by kernel_rfl) (by kernel_rfl) (by kernel_rfl) ?_ (fun cf => (by kernel_rfl))
  refine WpOps.laid (Value.tuple #[]) (1) (Blk.mk 32 true [Value.iface 3 (Value.iface (List.length (Gr.fr g)) (Value.iface 0 (Value.agg (List.toArray (List.map (fun n => Value.int IntKind.i64 n) (Gr.fr g)))))), Value.iface 3 (Value.iface (List.length (Gr.to g)) (Value.iface 0 (Value.agg (List.toArray (List.map (fun n => Value.int IntKind.i64 n) (Gr.to g)))))), Value.int IntKind.i64 (Gr.number g), Value.int IntKind.i64 (Gr.life g), Value.int IntKind.i64 (Gr.at' g), Value.int IntKind.i64 (Gr.total g), Value.int IntKind.i64 (Gr.report g), Value.bool (Gr.more g), Value.bool (Gr.may g), Value.bool (Gr.wants g), Value.string (Gr.data g)]) (by kernel_rfl) (by kernel_rfl) (by kernel_rfl) ?_ (fun cf => (by kernel_rfl))
  refine WpOps.nil ?_
  refine thenK_at ?_
  refine Wp.ret ?_
  refine endK_retn [Value.agg #[Value.iface 3 (Value.iface (List.length (Gr.fr g)) (Value.iface 0 (Value.agg (List.toArray (List.map (fun n => Value.int IntKind.i64 n) (Gr.fr g)))))), Value.iface 3 (Value.iface (List.length (Gr.to g)) (Value.iface 0 (Value.agg (List.toArray (List.map (fun n => Value.int IntKind.i64 n) (Gr.to g)))))), Value.int IntKind.i64 (Gr.number g), Value.int IntKind.i64 (Gr.life g), Value.int IntKind.i64 (Gr.at' g), Value.int IntKind.i64 (Gr.total g), Value.int IntKind.i64 (Gr.report g), Value.bool (Gr.more g), Value.bool (Gr.may g), Value.bool (Gr.wants g), Value.string (Gr.data g)]] (Value.agg #[Value.iface 3 (Value.iface (List.length (Gr.fr g)) (Value.iface 0 (Value.agg (List.toArray (List.map (fun n => Value.int IntKind.i64 n) (Gr.fr g)))))), Value.iface 3 (Value.iface (List.length (Gr.to g)) (Value.iface 0 (Value.agg (List.toArray (List.map (fun n => Value.int IntKind.i64 n) (Gr.to g)))))), Value.int IntKind.i64 (Gr.number g), Value.int IntKind.i64 (Gr.life g), Value.int IntKind.i64 (Gr.at' g), Value.int IntKind.i64 (Gr.total g), Value.int IntKind.i64 (Gr.report g), Value.bool (Gr.more g), Value.bool (Gr.may g), Value.bool (Gr.wants g), Value.string (Gr.data g)]) (by kernel_rfl) (by kernel_rfl) ?_
  kernel_rfl
end Go.Proofs.Ytpkkcpglbjbgfaa.D
