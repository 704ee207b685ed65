/- The law DatagramPieces. -/
import Derived.Test.YtpkkcpglbjbgfaaFwLem
import Derived.Test.YtpkkcpglbjbgfaaF14i
namespace Go.Proofs.Ytpkkcpglbjbgfaa.D
open Go.Fw Go.RowKit

theorem f4 : E.funcs 4 = some Try.f4 := by kernel_rfl
theorem law4_none (g : Gr) (ok : OkGr g) (size : Int) (hc : cutAll g size = none) : Fun E 4 [gv g, .int .i64 size] (.bool true) := by
  have c1 := Cut14 g ok size
  have sn := sane19
  rw [hc] at c1
  refine Fun.of f4 rfl (of_decide_eq_true (by kernel_rfl)) rfl ?_
  refine Wp.seq ?_
  refine Wp.text ?_
  refine WpOps.made 2 (Value.pointer (some (Addr.mk 0 0 none))) (Blk.mk 24 true [Value.iface 3 (Value.iface (List.length (Gr.fr g)) (Value.iface (Gr.fx g) (Value.agg (List.toArray (List.map (fun n => Value.int IntKind.i64 n) (Gr.fr g)))))), Value.iface 3 (Value.iface (List.length (Gr.to g)) (Value.iface (Gr.tx g) (Value.agg (List.toArray (List.map (fun n => Value.int IntKind.i64 n) (Gr.to g)))))), Value.int IntKind.i64 (Gr.number g), Value.int IntKind.i64 (Gr.life g), Value.int IntKind.i64 (Gr.at' g), Value.int IntKind.i64 (Gr.total g), Value.int IntKind.i64 (Gr.report g), Value.bool (Gr.more g), Value.bool (Gr.may g), Value.bool (Gr.wants g), Value.string (Gr.data g)]) (by kernel_rfl) (by kernel_rfl) (by kernel_rfl) ?_ (fun cf => (by kernel_rfl))
  refine WpOps.keep 4 (Value.bool false) (by kernel_rfl) (by kernel_rfl) (by kernel_rfl) ?_ (fun cf => (by kernel_rfl))
  refine WpOps.nil ?_
  refine thenK_at ?_
  refine Wp.seq ?_
  refine Wp.text ?_
  refine WpOps.keep 12 (Value.agg #[Value.iface 3 (Value.iface (List.length (Gr.fr g)) (Value.iface (Gr.fx g) (Value.agg (List.toArray (List.map (fun n => Value.int IntKind.i64 n) (Gr.fr g)))))), Value.iface 3 (Value.iface (List.length (Gr.to g)) (Value.iface (Gr.tx g) (Value.agg (List.toArray (List.map (fun n => Value.int IntKind.i64 n) (Gr.to g)))))), Value.int IntKind.i64 (Gr.number g), Value.int IntKind.i64 (Gr.life g), Value.int IntKind.i64 (Gr.at' g), Value.int IntKind.i64 (Gr.total g), Value.int IntKind.i64 (Gr.report g), Value.bool (Gr.more g), Value.bool (Gr.may g), Value.bool (Gr.wants g), Value.string (Gr.data g)]) (by kernel_rfl) (by kernel_rfl) (by kernel_rfl) ?_ (fun cf => (by kernel_rfl))
  refine WpOps.keep 13 (Value.int IntKind.i64 size) (by kernel_rfl) (by kernel_rfl) (by kernel_rfl) ?_ (fun cf => (by kernel_rfl))
  refine WpOps.framed 14 14 [Value.agg #[Value.iface 3 (Value.iface (List.length (Gr.fr g)) (Value.iface (Gr.fx g) (Value.agg (List.toArray (List.map (fun n => Value.int IntKind.i64 n) (Gr.fr g)))))), Value.iface 3 (Value.iface (List.length (Gr.to g)) (Value.iface (Gr.tx g) (Value.agg (List.toArray (List.map (fun n => Value.int IntKind.i64 n) (Gr.to g)))))), Value.int IntKind.i64 (Gr.number g), Value.int IntKind.i64 (Gr.life g), Value.int IntKind.i64 (Gr.at' g), Value.int IntKind.i64 (Gr.total g), Value.int IntKind.i64 (Gr.report g), Value.bool (Gr.more g), Value.bool (Gr.may g), Value.bool (Gr.wants g), Value.string (Gr.data g)], Value.int IntKind.i64 size] (by kernel_rfl) (by kernel_rfl) (by kernel_rfl) (by kernel_rfl) (by kernel_rfl) (fun cf => (by kernel_rfl)) ?_
  refine WpFun.of (c1) ?_
  refine WpOps.keep 11 (Value.tuple #[Value.slice none 0 0, Value.int IntKind.i64 1]) (by kernel_rfl) (by kernel_rfl) (by kernel_rfl) ?_ (fun cf => (by kernel_rfl))
  refine WpOps.keep 15 (Value.slice none 0 0) (by kernel_rfl) (by kernel_rfl) (by kernel_rfl) ?_ (fun cf => (by kernel_rfl))
  refine WpOps.keep 16 (Value.int IntKind.i64 1) (by kernel_rfl) (by kernel_rfl) (by kernel_rfl) ?_ (fun cf => (by kernel_rfl))
  refine WpOps.keep 5 (Value.slice none 0 0) (by kernel_rfl) (by kernel_rfl) (by kernel_rfl) ?_ (fun cf => (by kernel_rfl))
  refine WpOps.keep 6 (Value.int IntKind.i64 1) (by kernel_rfl) (by kernel_rfl) (by kernel_rfl) ?_ (fun cf => (by kernel_rfl))
  refine WpOps.nil ?_
  refine thenK_at ?_
  refine Wp.seq ?_
  refine Wp.seq ?_
  refine Wp.text ?_
  refine WpOps.keep 17 (Value.int IntKind.i64 1) (by kernel_rfl) (by kernel_rfl) (by kernel_rfl) ?_ (fun cf => (by kernel_rfl))
  refine WpOps.keep 18 (Value.bool true) (by kernel_rfl) (by kernel_rfl) (by kernel_rfl) ?_ (fun cf => (by kernel_rfl))
  refine WpOps.nil ?_
  refine thenK_at ?_
  refine Wp.on (by kernel_rfl) ?_
  refine Wp.seq ?_
  refine Wp.text ?_
  refine WpOps.keep 19 (Value.slice none 0 0) (by kernel_rfl) (by kernel_rfl) (by kernel_rfl) ?_ (fun cf => (by kernel_rfl))
  refine WpOps.keep 20 (Value.int IntKind.i64 (↑0 : Int)) (by kernel_rfl) (by kernel_rfl) (by kernel_rfl) ?_ (fun cf => (by kernel_rfl))
  refine WpOps.keep 21 (Value.bool true) (by kernel_rfl) (by kernel_rfl) (by kernel_rfl) ?_ (fun cf => (by kernel_rfl))
  refine WpOps.keep 22 (Value.bool true) (by kernel_rfl) (by kernel_rfl) (by kernel_rfl) ?_ (fun cf => (by kernel_rfl))
  refine WpOps.framed 23 19 [] (by kernel_rfl) (by kernel_rfl) (by kernel_rfl) (by kernel_rfl) (by kernel_rfl) (fun cf => (by kernel_rfl)) ?_
  refine WpFun.of (sn) ?_
  refine WpOps.keep 24 (Value.bool true) (by kernel_rfl) (by kernel_rfl) (by kernel_rfl) ?_ (fun cf => (by kernel_rfl))
  refine WpOps.keep 4 (Value.bool true) (by kernel_rfl) (by kernel_rfl) (by kernel_rfl) ?_ (fun cf => (by kernel_rfl))
  refine WpOps.nil ?_
  refine thenK_at ?_
  refine Wp.ret ?_
  refine thenK_ret ?_
  refine endK_retn [Value.bool true] (Value.bool true) (by kernel_rfl) (by kernel_rfl) ?_
  kernel_rfl

theorem empty_add (b : ByteArray) : ByteArray.mk #[] ++ b = b := Go.WideShapes.bytes_inj (by simp)
theorem law4_one (g : Gr) (ok : OkGr g) (size : Int) (hc : cutAll g size = some [ownG g]) (hv : okG g = true) (hm : (g.data.size : Int) ≤ size) (hd : g.data.size ≤ 4000) : Fun E 4 [gv g, .int .i64 size] (.bool true) := by
  have c1 := Cut14 g ok size
  have sn := sane19
  have v := valid20 (ownG g) (by have := ok.fl; show g.fr.length ≤ _; omega) (by have := ok.tl; show g.to.length ≤ _; omega)
  have hv2 : (!okG (ownG g)) = false := by
    have : okG (ownG g) = okG g := rfl
    rw [this, hv]; rfl
  have e1 : ((ownG g).at' != g.at') = false := by simp [ownG]
  have e2 : decide (((ownG g).data.size : Int) > size) = false := decide_eq_false (by show ¬ ((g.data.size : Int) > size); omega)
  have e3 : ((ownG g).total != g.total) = false := by simp [ownG]
  have e4 : ((0 + (ownG g).data.size : Nat) : Int) ≤ 9223372036854775807 := by
    have h2 : (ownG g).data.size = g.data.size := rfl
    omega
  have e5 : ((ByteArray.mk #[] ++ (ownG g).data).toList == g.data.toList) = true := by
    rw [empty_add]
    exact beq_self_eq_true _
  rw [hc] at c1
  refine Fun.of f4 rfl (of_decide_eq_true (by kernel_rfl)) rfl ?_
  refine Wp.seq ?_
  refine Wp.text ?_
  refine WpOps.made 2 (Value.pointer (some (Addr.mk 0 0 none))) (Blk.mk 24 true [Value.iface 3 (Value.iface (List.length (Gr.fr g)) (Value.iface (Gr.fx g) (Value.agg (List.toArray (List.map (fun n => Value.int IntKind.i64 n) (Gr.fr g)))))), Value.iface 3 (Value.iface (List.length (Gr.to g)) (Value.iface (Gr.tx g) (Value.agg (List.toArray (List.map (fun n => Value.int IntKind.i64 n) (Gr.to g)))))), Value.int IntKind.i64 (Gr.number g), Value.int IntKind.i64 (Gr.life g), Value.int IntKind.i64 (Gr.at' g), Value.int IntKind.i64 (Gr.total g), Value.int IntKind.i64 (Gr.report g), Value.bool (Gr.more g), Value.bool (Gr.may g), Value.bool (Gr.wants g), Value.string (Gr.data g)]) (by kernel_rfl) (by kernel_rfl) (by kernel_rfl) ?_ (fun cf => (by kernel_rfl))
  refine WpOps.keep 4 (Value.bool false) (by kernel_rfl) (by kernel_rfl) (by kernel_rfl) ?_ (fun cf => (by kernel_rfl))
  refine WpOps.nil ?_
  refine thenK_at ?_
  refine Wp.seq ?_
  refine Wp.text ?_
  refine WpOps.keep 12 (Value.agg #[Value.iface 3 (Value.iface (List.length (Gr.fr g)) (Value.iface (Gr.fx g) (Value.agg (List.toArray (List.map (fun n => Value.int IntKind.i64 n) (Gr.fr g)))))), Value.iface 3 (Value.iface (List.length (Gr.to g)) (Value.iface (Gr.tx g) (Value.agg (List.toArray (List.map (fun n => Value.int IntKind.i64 n) (Gr.to g)))))), Value.int IntKind.i64 (Gr.number g), Value.int IntKind.i64 (Gr.life g), Value.int IntKind.i64 (Gr.at' g), Value.int IntKind.i64 (Gr.total g), Value.int IntKind.i64 (Gr.report g), Value.bool (Gr.more g), Value.bool (Gr.may g), Value.bool (Gr.wants g), Value.string (Gr.data g)]) (by kernel_rfl) (by kernel_rfl) (by kernel_rfl) ?_ (fun cf => (by kernel_rfl))
  refine WpOps.keep 13 (Value.int IntKind.i64 size) (by kernel_rfl) (by kernel_rfl) (by kernel_rfl) ?_ (fun cf => (by kernel_rfl))
  refine WpOps.framed 14 14 [Value.agg #[Value.iface 3 (Value.iface (List.length (Gr.fr g)) (Value.iface (Gr.fx g) (Value.agg (List.toArray (List.map (fun n => Value.int IntKind.i64 n) (Gr.fr g)))))), Value.iface 3 (Value.iface (List.length (Gr.to g)) (Value.iface (Gr.tx g) (Value.agg (List.toArray (List.map (fun n => Value.int IntKind.i64 n) (Gr.to g)))))), Value.int IntKind.i64 (Gr.number g), Value.int IntKind.i64 (Gr.life g), Value.int IntKind.i64 (Gr.at' g), Value.int IntKind.i64 (Gr.total g), Value.int IntKind.i64 (Gr.report g), Value.bool (Gr.more g), Value.bool (Gr.may g), Value.bool (Gr.wants g), Value.string (Gr.data g)], Value.int IntKind.i64 size] (by kernel_rfl) (by kernel_rfl) (by kernel_rfl) (by kernel_rfl) (by kernel_rfl) (fun cf => (by kernel_rfl)) ?_
  refine WpFun.of (c1) ?_
  refine WpOps.keep 11 (Value.tuple #[grams 24 [ownG g], Value.int IntKind.i64 0]) (by kernel_rfl) (by kernel_rfl) (by kernel_rfl) ?_ (fun cf => (by kernel_rfl))
  refine WpOps.keep 15 (Value.iface 24 (Value.iface (List.length [ownG g]) (Value.iface 0 (Value.agg (List.toArray (cellsG [ownG g])))))) (by kernel_rfl) (by kernel_rfl) (by kernel_rfl) ?_ (fun cf => (by kernel_rfl))
  refine WpOps.keep 16 (Value.int IntKind.i64 0) (by kernel_rfl) (by kernel_rfl) (by kernel_rfl) ?_ (fun cf => (by kernel_rfl))
  refine WpOps.keep 5 (Value.iface 24 (Value.iface (List.length [ownG g]) (Value.iface 0 (Value.agg (List.toArray (cellsG [ownG g])))))) (by kernel_rfl) (by kernel_rfl) (by kernel_rfl) ?_ (fun cf => (by kernel_rfl))
  refine WpOps.keep 6 (Value.int IntKind.i64 0) (by kernel_rfl) (by kernel_rfl) (by kernel_rfl) ?_ (fun cf => (by kernel_rfl))
  refine WpOps.nil ?_
  refine thenK_at ?_
  refine Wp.seq ?_
  refine Wp.seq ?_
  refine Wp.text ?_
  refine WpOps.keep 17 (Value.int IntKind.i64 0) (by kernel_rfl) (by kernel_rfl) (by kernel_rfl) ?_ (fun cf => (by kernel_rfl))
  refine WpOps.keep 18 (Value.bool false) (by kernel_rfl) (by kernel_rfl) (by kernel_rfl) ?_ (fun cf => (by kernel_rfl))
  refine WpOps.nil ?_
  refine thenK_at ?_
  refine Wp.off (by kernel_rfl) ?_
  refine Wp.skip ?_
  refine thenK_at ?_
  refine Wp.seq ?_
  refine Wp.text ?_
  refine WpOps.keep 7 (Value.string (ByteArray.mk #[])) (by kernel_rfl) (by kernel_rfl) (by kernel_rfl) ?_ (fun cf => (by kernel_rfl))
  refine WpOps.nil ?_
  refine thenK_at ?_
  refine Wp.seq ?_
  refine Wp.text ?_
  refine WpOps.keep 25 (Value.pointer (some (Addr.mk 0 4 none))) (by kernel_rfl) (by kernel_rfl) (by kernel_rfl) ?_ (fun cf => (by kernel_rfl))
  refine WpOps.keep 26 (Value.int IntKind.i64 (Gr.at' g)) (by kernel_rfl) (by kernel_rfl) (by kernel_rfl) ?_ (fun cf => (by kernel_rfl))
  refine WpOps.keep 8 (Value.int IntKind.i64 (Gr.at' g)) (by kernel_rfl) (by kernel_rfl) (by kernel_rfl) ?_ (fun cf => (by kernel_rfl))
  refine WpOps.nil ?_
  refine thenK_at ?_
  refine Wp.seq ?_
  refine Wp.seq ?_
  refine Wp.text ?_
  refine WpOps.keep 9 (Value.int IntKind.i64 0) (by kernel_rfl) (by kernel_rfl) (by kernel_rfl) ?_ (fun cf => (by kernel_rfl))
  refine WpOps.nil ?_
  refine thenK_at ?_
  refine Wp.block ?_
  refine Wp.unroll ?_
  refine WpL.step ?_
  refine Wp.seq ?_
  refine Wp.seq ?_
  refine Wp.text ?_
  refine WpOps.keep 27 (Value.int IntKind.i64 0) (by kernel_rfl) (by kernel_rfl) (by kernel_rfl) ?_ (fun cf => (by kernel_rfl))
  refine WpOps.keep 28 (Value.iface 24 (Value.iface (List.length [ownG g]) (Value.iface 0 (Value.agg (List.toArray (cellsG [ownG g])))))) (by kernel_rfl) (by kernel_rfl) (by kernel_rfl) ?_ (fun cf => (by kernel_rfl))
  refine WpOps.keep 29 (Value.int IntKind.i64 (↑(List.length [ownG g]) : Int)) (by kernel_rfl) (by kernel_rfl) (by kernel_rfl) ?_ (fun cf => (by kernel_rfl))
  refine WpOps.keep 30 (Value.bool (decide (0 < (↑(List.length [ownG g]) : Int)))) (by kernel_rfl) (by kernel_rfl) (by kernel_rfl) ?_ (fun cf => (by kernel_rfl))
  refine WpOps.nil ?_
  refine thenK_at ?_
  refine Wp.on (by kernel_rfl) ?_
  refine Wp.skip ?_
  refine thenK_at ?_
  refine Wp.seq ?_
  refine Wp.block ?_
  refine Wp.seq ?_
  refine Wp.text ?_
  refine WpOps.keep 33 (Value.iface 24 (Value.iface (List.length [ownG g]) (Value.iface 0 (Value.agg (List.toArray (cellsG [ownG g])))))) (by kernel_rfl) (by kernel_rfl) (by kernel_rfl) ?_ (fun cf => (by kernel_rfl))
  refine WpOps.keep 34 (Value.int IntKind.i64 0) (by kernel_rfl) (by kernel_rfl) (by kernel_rfl) ?_ (fun cf => (by kernel_rfl))
  refine WpOps.keep 35 (Value.iface 24 (Value.iface 0 (Value.agg (List.toArray (cellsG [ownG g]))))) (by kernel_rfl) (by kernel_rfl) (by kernel_rfl) ?_ (fun cf => (by kernel_rfl))
  refine WpOps.keep 36 (Value.agg #[Value.iface 3 (Value.iface (List.length (Gr.fr (ownG g))) (Value.iface (Gr.fx (ownG g)) (Value.agg (List.toArray (List.map (fun n => Value.int IntKind.i64 n) (Gr.fr (ownG g))))))), Value.iface 3 (Value.iface (List.length (Gr.to (ownG g))) (Value.iface (Gr.tx (ownG g)) (Value.agg (List.toArray (List.map (fun n => Value.int IntKind.i64 n) (Gr.to (ownG g))))))), Value.int IntKind.i64 (Gr.number (ownG g)), Value.int IntKind.i64 (Gr.life (ownG g)), Value.int IntKind.i64 (Gr.at' (ownG g)), Value.int IntKind.i64 (Gr.total (ownG g)), Value.int IntKind.i64 (Gr.report (ownG g)), Value.bool (Gr.more (ownG g)), Value.bool (Gr.may (ownG g)), Value.bool (Gr.wants (ownG g)), Value.string (Gr.data (ownG g))]) (by kernel_rfl) (by kernel_rfl) (by kernel_rfl) ?_ (fun cf => (by kernel_rfl))
  refine WpOps.made 10 (Value.pointer (some (Addr.mk 1 0 none))) (Blk.mk 24 true [Value.slice none 0 0, Value.slice none 0 0, Value.int IntKind.i64 0, Value.int IntKind.i64 0, Value.int IntKind.i64 0, Value.int IntKind.i64 0, Value.int IntKind.i64 0, Value.bool false, Value.bool false, Value.bool false, Value.string (ByteArray.mk #[])]) (by kernel_rfl) (by kernel_rfl) (by kernel_rfl) ?_ (fun cf => (by kernel_rfl))
  refine WpOps.laid (Value.tuple #[]) (1) (Blk.mk 24 true [Value.iface 3 (Value.iface (List.length (Gr.fr (ownG g))) (Value.iface (Gr.fx (ownG g)) (Value.agg (List.toArray (List.map (fun n => Value.int IntKind.i64 n) (Gr.fr (ownG g))))))), Value.iface 3 (Value.iface (List.length (Gr.to (ownG g))) (Value.iface (Gr.tx (ownG g)) (Value.agg (List.toArray (List.map (fun n => Value.int IntKind.i64 n) (Gr.to (ownG g))))))), Value.int IntKind.i64 (Gr.number (ownG g)), Value.int IntKind.i64 (Gr.life (ownG g)), Value.int IntKind.i64 (Gr.at' (ownG g)), Value.int IntKind.i64 (Gr.total (ownG g)), Value.int IntKind.i64 (Gr.report (ownG g)), Value.bool (Gr.more (ownG g)), Value.bool (Gr.may (ownG g)), Value.bool (Gr.wants (ownG g)), Value.string (Gr.data (ownG g))]) (by kernel_rfl) (by kernel_rfl) (by kernel_rfl) ?_ (fun cf => (by kernel_rfl))
  refine WpOps.nil ?_
  refine thenK_at ?_
  refine Wp.seq ?_
  refine Wp.seq ?_
  refine Wp.text ?_
  refine WpOps.keep 37 (Value.pointer (some (Addr.mk 1 4 none))) (by kernel_rfl) (by kernel_rfl) (by kernel_rfl) ?_ (fun cf => (by kernel_rfl))
  refine WpOps.keep 38 (Value.int IntKind.i64 (Gr.at' (ownG g))) (by kernel_rfl) (by kernel_rfl) (by kernel_rfl) ?_ (fun cf => (by kernel_rfl))
  refine WpOps.keep 39 (Value.int IntKind.i64 (Gr.at' g)) (by kernel_rfl) (by kernel_rfl) (by kernel_rfl) ?_ (fun cf => (by kernel_rfl))
  refine WpOps.keep 40 (Value.bool false) (by kernel_rfl) (by kernel_rfl) (by kernel_rfl) ?_ (fun cf => by_fact e1 ((by kernel_rfl)))
  refine WpOps.keep 41 (Value.bool false) (by kernel_rfl) (by kernel_rfl) (by kernel_rfl) ?_ (fun cf => (by kernel_rfl))
  refine WpOps.keep 42 (Value.pointer (some (Addr.mk 1 10 none))) (by kernel_rfl) (by kernel_rfl) (by kernel_rfl) ?_ (fun cf => (by kernel_rfl))
  refine WpOps.keep 43 (Value.string (Gr.data (ownG g))) (by kernel_rfl) (by kernel_rfl) (by kernel_rfl) ?_ (fun cf => (by kernel_rfl))
  refine WpOps.keep 44 (Value.int IntKind.i64 (↑(ByteArray.size (Gr.data (ownG g))) : Int)) (by kernel_rfl) (by kernel_rfl) (by kernel_rfl) ?_ (fun cf => (by kernel_rfl))
  refine WpOps.keep 45 (Value.int IntKind.i64 size) (by kernel_rfl) (by kernel_rfl) (by kernel_rfl) ?_ (fun cf => (by kernel_rfl))
  refine WpOps.keep 46 (Value.bool false) (by kernel_rfl) (by kernel_rfl) (by kernel_rfl) ?_ (fun cf => by_fact e2 ((by kernel_rfl)))
  refine WpOps.keep 47 (Value.bool false) (by kernel_rfl) (by kernel_rfl) (by kernel_rfl) ?_ (fun cf => (by kernel_rfl))
  refine WpOps.keep 48 (Value.bool false) (by kernel_rfl) (by kernel_rfl) (by kernel_rfl) ?_ (fun cf => (by kernel_rfl))
  refine WpOps.keep 49 (Value.agg #[Value.iface 3 (Value.iface (List.length (Gr.fr (ownG g))) (Value.iface (Gr.fx (ownG g)) (Value.agg (List.toArray (List.map (fun n => Value.int IntKind.i64 n) (Gr.fr (ownG g))))))), Value.iface 3 (Value.iface (List.length (Gr.to (ownG g))) (Value.iface (Gr.tx (ownG g)) (Value.agg (List.toArray (List.map (fun n => Value.int IntKind.i64 n) (Gr.to (ownG g))))))), Value.int IntKind.i64 (Gr.number (ownG g)), Value.int IntKind.i64 (Gr.life (ownG g)), Value.int IntKind.i64 (Gr.at' (ownG g)), Value.int IntKind.i64 (Gr.total (ownG g)), Value.int IntKind.i64 (Gr.report (ownG g)), Value.bool (Gr.more (ownG g)), Value.bool (Gr.may (ownG g)), Value.bool (Gr.wants (ownG g)), Value.string (Gr.data (ownG g))]) (by kernel_rfl) (by kernel_rfl) (by kernel_rfl) ?_ (fun cf => (by kernel_rfl))
  refine WpOps.framed 50 20 [Value.agg #[Value.iface 3 (Value.iface (List.length (Gr.fr (ownG g))) (Value.iface (Gr.fx (ownG g)) (Value.agg (List.toArray (List.map (fun n => Value.int IntKind.i64 n) (Gr.fr (ownG g))))))), Value.iface 3 (Value.iface (List.length (Gr.to (ownG g))) (Value.iface (Gr.tx (ownG g)) (Value.agg (List.toArray (List.map (fun n => Value.int IntKind.i64 n) (Gr.to (ownG g))))))), Value.int IntKind.i64 (Gr.number (ownG g)), Value.int IntKind.i64 (Gr.life (ownG g)), Value.int IntKind.i64 (Gr.at' (ownG g)), Value.int IntKind.i64 (Gr.total (ownG g)), Value.int IntKind.i64 (Gr.report (ownG g)), Value.bool (Gr.more (ownG g)), Value.bool (Gr.may (ownG g)), Value.bool (Gr.wants (ownG g)), Value.string (Gr.data (ownG g))]] (by kernel_rfl) (by kernel_rfl) (by kernel_rfl) (by kernel_rfl) (by kernel_rfl) (fun cf => (by kernel_rfl)) ?_
  refine WpFun.of (v) ?_
  refine WpOps.keep 51 (Value.bool false) (by kernel_rfl) (by kernel_rfl) (by kernel_rfl) ?_ (fun cf => by_fact hv2 ((by kernel_rfl)))
  refine WpOps.keep 52 (Value.bool false) (by kernel_rfl) (by kernel_rfl) (by kernel_rfl) ?_ (fun cf => (by kernel_rfl))
  refine WpOps.keep 53 (Value.bool false) (by kernel_rfl) (by kernel_rfl) (by kernel_rfl) ?_ (fun cf => (by kernel_rfl))
  refine WpOps.keep 54 (Value.pointer (some (Addr.mk 1 5 none))) (by kernel_rfl) (by kernel_rfl) (by kernel_rfl) ?_ (fun cf => (by kernel_rfl))
  refine WpOps.keep 55 (Value.int IntKind.i64 (Gr.total (ownG g))) (by kernel_rfl) (by kernel_rfl) (by kernel_rfl) ?_ (fun cf => (by kernel_rfl))
  refine WpOps.keep 56 (Value.pointer (some (Addr.mk 0 5 none))) (by kernel_rfl) (by kernel_rfl) (by kernel_rfl) ?_ (fun cf => (by kernel_rfl))
  refine WpOps.keep 57 (Value.int IntKind.i64 (Gr.total g)) (by kernel_rfl) (by kernel_rfl) (by kernel_rfl) ?_ (fun cf => (by kernel_rfl))
  refine WpOps.keep 58 (Value.bool false) (by kernel_rfl) (by kernel_rfl) (by kernel_rfl) ?_ (fun cf => by_fact e3 ((by kernel_rfl)))
  refine WpOps.keep 59 (Value.bool false) (by kernel_rfl) (by kernel_rfl) (by kernel_rfl) ?_ (fun cf => (by kernel_rfl))
  refine WpOps.keep 60 (Value.bool false) (by kernel_rfl) (by kernel_rfl) (by kernel_rfl) ?_ (fun cf => (by kernel_rfl))
  refine WpOps.keep 61 (Value.int IntKind.i64 0) (by kernel_rfl) (by kernel_rfl) (by kernel_rfl) ?_ (fun cf => (by kernel_rfl))
  refine WpOps.keep 62 (Value.int IntKind.i64 (IntKind.wrap IntKind.i64 (0 + 1))) (by kernel_rfl) (by kernel_rfl) (by kernel_rfl) ?_ (fun cf => (by kernel_rfl))
  refine WpOps.keep 63 (Value.iface 24 (Value.iface (List.length [ownG g]) (Value.iface 0 (Value.agg (List.toArray (cellsG [ownG g])))))) (by kernel_rfl) (by kernel_rfl) (by kernel_rfl) ?_ (fun cf => (by kernel_rfl))
  refine WpOps.keep 64 (Value.int IntKind.i64 (↑(List.length [ownG g]) : Int)) (by kernel_rfl) (by kernel_rfl) (by kernel_rfl) ?_ (fun cf => (by kernel_rfl))
  refine WpOps.keep 65 (Value.bool (decide (IntKind.wrap IntKind.i64 (0 + 1) < (↑(List.length [ownG g]) : Int)))) (by kernel_rfl) (by kernel_rfl) (by kernel_rfl) ?_ (fun cf => (by kernel_rfl))
  refine WpOps.keep 66 (Value.bool (decide (IntKind.wrap IntKind.i64 (0 + 1) < (↑(List.length [ownG g]) : Int)))) (by kernel_rfl) (by kernel_rfl) (by kernel_rfl) ?_ (fun cf => (by kernel_rfl))
  refine WpOps.unmet 67 (by kernel_rfl) (by kernel_rfl) (by kernel_rfl) ?_
  refine WpOps.unmet 68 (by kernel_rfl) (by kernel_rfl) (by kernel_rfl) ?_
  refine WpOps.unmet 69 (by kernel_rfl) (by kernel_rfl) (by kernel_rfl) ?_
  refine WpOps.unmet 70 (by kernel_rfl) (by kernel_rfl) (by kernel_rfl) ?_
  refine WpOps.unmet 71 (by kernel_rfl) (by kernel_rfl) (by kernel_rfl) ?_
  refine WpOps.keep 72 (Value.bool false) (by kernel_rfl) (by kernel_rfl) (by kernel_rfl) ?_ (fun cf => (by kernel_rfl))
  refine WpOps.keep 73 (Value.bool false) (by kernel_rfl) (by kernel_rfl) (by kernel_rfl) ?_ (fun cf => (by kernel_rfl))
  refine WpOps.nil ?_
  refine thenK_at ?_
  refine Wp.off (by kernel_rfl) ?_
  refine Wp.skip ?_
  refine thenK_at ?_
  refine Wp.seq ?_
  refine Wp.text ?_
  refine WpOps.keep 74 (Value.int IntKind.i64 (Gr.at' g)) (by kernel_rfl) (by kernel_rfl) (by kernel_rfl) ?_ (fun cf => (by kernel_rfl))
  refine WpOps.keep 75 (Value.pointer (some (Addr.mk 1 10 none))) (by kernel_rfl) (by kernel_rfl) (by kernel_rfl) ?_ (fun cf => (by kernel_rfl))
  refine WpOps.keep 76 (Value.string (Gr.data (ownG g))) (by kernel_rfl) (by kernel_rfl) (by kernel_rfl) ?_ (fun cf => (by kernel_rfl))
  refine WpOps.keep 77 (Value.int IntKind.i64 (↑(ByteArray.size (Gr.data (ownG g))) : Int)) (by kernel_rfl) (by kernel_rfl) (by kernel_rfl) ?_ (fun cf => (by kernel_rfl))
  refine WpOps.keep 78 (Value.int IntKind.i64 (IntKind.wrap IntKind.i64 (Gr.at' g + (↑(ByteArray.size (Gr.data (ownG g))) : Int)))) (by kernel_rfl) (by kernel_rfl) (by kernel_rfl) ?_ (fun cf => (by kernel_rfl))
  refine WpOps.keep 8 (Value.int IntKind.i64 (IntKind.wrap IntKind.i64 (Gr.at' g + (↑(ByteArray.size (Gr.data (ownG g))) : Int)))) (by kernel_rfl) (by kernel_rfl) (by kernel_rfl) ?_ (fun cf => (by kernel_rfl))
  refine WpOps.nil ?_
  refine thenK_at ?_
  refine Wp.text ?_
  refine WpOps.keep 79 (Value.string (ByteArray.mk #[])) (by kernel_rfl) (by kernel_rfl) (by kernel_rfl) ?_ (fun cf => (by kernel_rfl))
  refine WpOps.keep 80 (Value.pointer (some (Addr.mk 1 10 none))) (by kernel_rfl) (by kernel_rfl) (by kernel_rfl) ?_ (fun cf => (by kernel_rfl))
  refine WpOps.keep 81 (Value.string (Gr.data (ownG g))) (by kernel_rfl) (by kernel_rfl) (by kernel_rfl) ?_ (fun cf => (by kernel_rfl))
  refine WpOps.keep 82 (Value.string (ByteArray.mk #[] ++ Gr.data (ownG g))) (by kernel_rfl) (by kernel_rfl) (by kernel_rfl) ?_ (fun cf => o_add e4 (by kernel_rfl) (by kernel_rfl))
  refine WpOps.keep 7 (Value.string (ByteArray.mk #[] ++ Gr.data (ownG g))) (by kernel_rfl) (by kernel_rfl) (by kernel_rfl) ?_ (fun cf => (by kernel_rfl))
  refine WpOps.nil ?_
  refine blockK_norm ?_
  refine thenK_at ?_
  refine Wp.text ?_
  refine WpOps.keep 31 (Value.int IntKind.i64 0) (by kernel_rfl) (by kernel_rfl) (by kernel_rfl) ?_ (fun cf => (by kernel_rfl))
  refine WpOps.keep 32 (Value.int IntKind.i64 (IntKind.wrap IntKind.i64 (0 + 1))) (by kernel_rfl) (by kernel_rfl) (by kernel_rfl) ?_ (fun cf => (by kernel_rfl))
  refine WpOps.keep 9 (Value.int IntKind.i64 (IntKind.wrap IntKind.i64 (0 + 1))) (by kernel_rfl) (by kernel_rfl) (by kernel_rfl) ?_ (fun cf => (by kernel_rfl))
  refine WpOps.nil ?_
  refine thenK_at ?_
  refine WpL.step ?_
  refine Wp.seq ?_
  refine Wp.seq ?_
  refine Wp.text ?_
  refine WpOps.keep 27 (Value.int IntKind.i64 (IntKind.wrap IntKind.i64 (0 + 1))) (by kernel_rfl) (by kernel_rfl) (by kernel_rfl) ?_ (fun cf => (by kernel_rfl))
  refine WpOps.keep 28 (Value.iface 24 (Value.iface (List.length [ownG g]) (Value.iface 0 (Value.agg (List.toArray (cellsG [ownG g])))))) (by kernel_rfl) (by kernel_rfl) (by kernel_rfl) ?_ (fun cf => (by kernel_rfl))
  refine WpOps.keep 29 (Value.int IntKind.i64 (↑(List.length [ownG g]) : Int)) (by kernel_rfl) (by kernel_rfl) (by kernel_rfl) ?_ (fun cf => (by kernel_rfl))
  refine WpOps.keep 30 (Value.bool (decide (IntKind.wrap IntKind.i64 (0 + 1) < (↑(List.length [ownG g]) : Int)))) (by kernel_rfl) (by kernel_rfl) (by kernel_rfl) ?_ (fun cf => (by kernel_rfl))
  refine WpOps.nil ?_
  refine thenK_at ?_
  refine Wp.off (by kernel_rfl) ?_
  refine Wp.exit ?_
  refine thenK_exit ?_
  refine thenK_exit ?_
  refine blockK_hit ?_
  refine thenK_at ?_
  refine Wp.seq ?_
  refine Wp.text ?_
  refine WpOps.keep 83 (Value.string (ByteArray.mk #[] ++ Gr.data (ownG g))) (by kernel_rfl) (by kernel_rfl) (by kernel_rfl) ?_ (fun cf => (by kernel_rfl))
  refine WpOps.keep 84 (Value.pointer (some (Addr.mk 0 10 none))) (by kernel_rfl) (by kernel_rfl) (by kernel_rfl) ?_ (fun cf => (by kernel_rfl))
  refine WpOps.keep 85 (Value.string (Gr.data g)) (by kernel_rfl) (by kernel_rfl) (by kernel_rfl) ?_ (fun cf => (by kernel_rfl))
  refine WpOps.keep 86 (Value.bool true) (by kernel_rfl) (by kernel_rfl) (by kernel_rfl) ?_ (fun cf => by_fact e5 ((by kernel_rfl)))
  refine WpOps.keep 87 (Value.bool true) (by kernel_rfl) (by kernel_rfl) (by kernel_rfl) ?_ (fun cf => (by kernel_rfl))
  refine WpOps.keep 88 (Value.iface 24 (Value.iface (List.length [ownG g]) (Value.iface 0 (Value.agg (List.toArray (cellsG [ownG g])))))) (by kernel_rfl) (by kernel_rfl) (by kernel_rfl) ?_ (fun cf => (by kernel_rfl))
  refine WpOps.keep 89 (Value.int IntKind.i64 (↑(List.length [ownG g]) : Int)) (by kernel_rfl) (by kernel_rfl) (by kernel_rfl) ?_ (fun cf => (by kernel_rfl))
  refine WpOps.keep 90 (Value.bool (decide ((↑(List.length [ownG g]) : Int) > 0))) (by kernel_rfl) (by kernel_rfl) (by kernel_rfl) ?_ (fun cf => (by kernel_rfl))
  refine WpOps.keep 91 (Value.bool (decide ((↑(List.length [ownG g]) : Int) > 0))) (by kernel_rfl) (by kernel_rfl) (by kernel_rfl) ?_ (fun cf => (by kernel_rfl))
  refine WpOps.keep 92 (Value.bool (decide ((↑(List.length [ownG g]) : Int) > 0))) (by kernel_rfl) (by kernel_rfl) (by kernel_rfl) ?_ (fun cf => (by kernel_rfl))
  refine WpOps.framed 93 19 [] (by kernel_rfl) (by kernel_rfl) (by kernel_rfl) (by kernel_rfl) (by kernel_rfl) (fun cf => (by kernel_rfl)) ?_
  refine WpFun.of (sn) ?_
  refine WpOps.keep 94 (Value.bool true) (by kernel_rfl) (by kernel_rfl) (by kernel_rfl) ?_ (fun cf => (by kernel_rfl))
  refine WpOps.keep 4 (Value.bool true) (by kernel_rfl) (by kernel_rfl) (by kernel_rfl) ?_ (fun cf => (by kernel_rfl))
  refine WpOps.nil ?_
  refine thenK_at ?_
  refine Wp.ret ?_
  refine endK_retn [Value.bool true] (Value.bool true) (by kernel_rfl) (by kernel_rfl) ?_
  kernel_rfl
theorem okG_parts {g : Gr} (h : okG g = true) : 0 ≤ g.total ∧ g.total ≤ 4000 ∧ 0 ≤ g.at' ∧ g.at' ≤ g.total ∧ (g.data.size : Int) ≤ g.total - g.at' := by
  simp only [okG, Bool.and_eq_true, decide_eq_true_eq] at h
  obtain ⟨⟨⟨⟨_, h1⟩, h2⟩, h3⟩, _⟩ := h
  simp only [inR, Bool.cond_false_right, Bool.and_eq_true, decide_eq_true_eq] at h1 h2
  rw [wr _ (by omega) (by omega)] at h3
  exact ⟨h1.1, h1.2, h2.1, h2.2, h3⟩

section
variable {g : Gr} {s k : Nat} (hv : okG g = true) (hs0 : 0 < s) (hs2 : s ≤ 4000) (hk : k * s < g.data.size)
include hv hk
theorem piece_at : (piece g s k).at' = g.at' + (k * s : Nat) := by
  obtain ⟨h1, h2, h3, h4, h5⟩ := okG_parts hv
  show IntKind.i64.wrap _ = _
  rw [wr _ (by omega) (by omega)]
include hs2
theorem piece_data : (piece g s k).data = g.data.extract (k * s) (min (k * s + s) g.data.size) := by
  have hd := okG_size hv
  show g.data.extract _ _ = _
  rw [hi_eq g s k hs2 hk hd]
  rfl
theorem piece_size : (piece g s k).data.size = min (k * s + s) g.data.size - k * s := by
  rw [piece_data hv hs2 hk, ByteArray.size_extract]
  omega
theorem piece_ok : okG (piece g s k) = true := by
  obtain ⟨h1, h2, h3, h4, h5⟩ := okG_parts hv
  have ha := piece_at hv hk
  have hz := piece_size hv hs2 hk
  have hv2 := hv
  simp only [okG, Bool.and_eq_true, decide_eq_true_eq] at hv2 ⊢
  obtain ⟨⟨⟨⟨⟨⟨⟨⟨⟨a1, a2⟩, a3⟩, a4⟩, a5⟩, a6⟩, a7⟩, a8⟩, a9⟩, a10⟩ := hv2
  have ht : (piece g s k).total = g.total := rfl
  refine ⟨⟨⟨⟨⟨⟨⟨⟨⟨a1, a2⟩, a3⟩, a4⟩, a5⟩, a6⟩, a7⟩, ?_⟩, ?_⟩, ?_⟩
  · rw [ha, ht]
    simp only [inR, Bool.cond_false_right, Bool.and_eq_true, decide_eq_true_eq]
    omega
  · rw [ha, ht, wr _ (by omega) (by omega), hz]
    omega
  · exact beq_self_eq_true _
end

theorem cells_piece (g : Gr) (s n k : Nat) (hk : k < n) : cellsAt (cellsG (pcs g s n)) ((k : Int).toNat * 11) 11 = some (gc (piece g s k)) := by
  have h := cells_at (pcs g s n) k (by rw [pcs_len]; exact hk)
  rw [h]
  simp [pcs]
theorem ext_add (b : ByteArray) (i j : Nat) (h : i ≤ j) : b.extract 0 i ++ b.extract i j = b.extract 0 j := by
  apply Go.WideShapes.bytes_inj
  simp only [ByteArray.data_append, ByteArray.data_extract, Array.toList_append, Array.toList_extract, List.extract, List.drop_zero, Nat.sub_zero]
  rw [← List.take_add, show i + (j - i) = j by omega]

/-- How far the first k pieces go. -/
def upto (g : Gr) (s k : Nat) : Nat := min (k * s) g.data.size
theorem law4_many (g : Gr) (ok : OkGr g) (size : Int) (s : Nat) (hc : cutAll g size = some (pcs g s (many g s))) (hv : okG g = true) (hs0 : 0 < s) (hs2 : s ≤ 4000) (hs8 : s % 8 = 0) (hss : (s : Int) ≤ size) (h0 : 0 < g.data.size) : Fun E 4 [gv g, .int .i64 size] (.bool true) := by
  have c1 := Cut14 g ok size
  have sn := sane19
  have hd := okG_size hv
  obtain ⟨q1, q2, q3, q4, q5⟩ := okG_parts hv
  obtain ⟨m1, m2⟩ := many_le g s hs0 h0 hd
  have hN : many g s * s ≤ g.data.size + s - 1 := Nat.div_mul_le_self _ _
  have hN2 : g.data.size ≤ many g s * s := by
    have := Nat.lt_div_mul_add (a := g.data.size + s - 1) hs0
    have e : (g.data.size + s - 1) / s = many g s := rfl
    rw [e] at this
    omega
  rw [hc] at c1
  refine Fun.of f4 rfl (of_decide_eq_true (by kernel_rfl)) rfl ?_
  refine Wp.seq ?_
  refine Wp.text ?_
  refine WpOps.made 2 (Value.pointer (some (Addr.mk 0 0 none))) (Blk.mk 24 true [Value.iface 3 (Value.iface (List.length (Gr.fr g)) (Value.iface (Gr.fx g) (Value.agg (List.toArray (List.map (fun n => Value.int IntKind.i64 n) (Gr.fr g)))))), Value.iface 3 (Value.iface (List.length (Gr.to g)) (Value.iface (Gr.tx g) (Value.agg (List.toArray (List.map (fun n => Value.int IntKind.i64 n) (Gr.to g)))))), Value.int IntKind.i64 (Gr.number g), Value.int IntKind.i64 (Gr.life g), Value.int IntKind.i64 (Gr.at' g), Value.int IntKind.i64 (Gr.total g), Value.int IntKind.i64 (Gr.report g), Value.bool (Gr.more g), Value.bool (Gr.may g), Value.bool (Gr.wants g), Value.string (Gr.data g)]) (by kernel_rfl) (by kernel_rfl) (by kernel_rfl) ?_ (fun cf => (by kernel_rfl))
  refine WpOps.keep 4 (Value.bool false) (by kernel_rfl) (by kernel_rfl) (by kernel_rfl) ?_ (fun cf => (by kernel_rfl))
  refine WpOps.nil ?_
  refine thenK_at ?_
  refine Wp.seq ?_
  refine Wp.text ?_
  refine WpOps.keep 12 (Value.agg #[Value.iface 3 (Value.iface (List.length (Gr.fr g)) (Value.iface (Gr.fx g) (Value.agg (List.toArray (List.map (fun n => Value.int IntKind.i64 n) (Gr.fr g)))))), Value.iface 3 (Value.iface (List.length (Gr.to g)) (Value.iface (Gr.tx g) (Value.agg (List.toArray (List.map (fun n => Value.int IntKind.i64 n) (Gr.to g)))))), Value.int IntKind.i64 (Gr.number g), Value.int IntKind.i64 (Gr.life g), Value.int IntKind.i64 (Gr.at' g), Value.int IntKind.i64 (Gr.total g), Value.int IntKind.i64 (Gr.report g), Value.bool (Gr.more g), Value.bool (Gr.may g), Value.bool (Gr.wants g), Value.string (Gr.data g)]) (by kernel_rfl) (by kernel_rfl) (by kernel_rfl) ?_ (fun cf => (by kernel_rfl))
  refine WpOps.keep 13 (Value.int IntKind.i64 size) (by kernel_rfl) (by kernel_rfl) (by kernel_rfl) ?_ (fun cf => (by kernel_rfl))
  refine WpOps.framed 14 14 [Value.agg #[Value.iface 3 (Value.iface (List.length (Gr.fr g)) (Value.iface (Gr.fx g) (Value.agg (List.toArray (List.map (fun n => Value.int IntKind.i64 n) (Gr.fr g)))))), Value.iface 3 (Value.iface (List.length (Gr.to g)) (Value.iface (Gr.tx g) (Value.agg (List.toArray (List.map (fun n => Value.int IntKind.i64 n) (Gr.to g)))))), Value.int IntKind.i64 (Gr.number g), Value.int IntKind.i64 (Gr.life g), Value.int IntKind.i64 (Gr.at' g), Value.int IntKind.i64 (Gr.total g), Value.int IntKind.i64 (Gr.report g), Value.bool (Gr.more g), Value.bool (Gr.may g), Value.bool (Gr.wants g), Value.string (Gr.data g)], Value.int IntKind.i64 size] (by kernel_rfl) (by kernel_rfl) (by kernel_rfl) (by kernel_rfl) (by kernel_rfl) (fun cf => (by kernel_rfl)) ?_
  refine WpFun.of (c1) ?_
  refine WpOps.keep 11 (Value.tuple #[grams 24 (pcs g s (many g s)), Value.int IntKind.i64 0]) (by kernel_rfl) (by kernel_rfl) (by kernel_rfl) ?_ (fun cf => (by kernel_rfl))
  refine WpOps.keep 15 (Value.iface 24 (Value.iface (List.length (pcs g s (many g s))) (Value.iface 0 (Value.agg (List.toArray (cellsG (pcs g s (many g s)))))))) (by kernel_rfl) (by kernel_rfl) (by kernel_rfl) ?_ (fun cf => (by kernel_rfl))
  refine WpOps.keep 16 (Value.int IntKind.i64 0) (by kernel_rfl) (by kernel_rfl) (by kernel_rfl) ?_ (fun cf => (by kernel_rfl))
  refine WpOps.keep 5 (Value.iface 24 (Value.iface (List.length (pcs g s (many g s))) (Value.iface 0 (Value.agg (List.toArray (cellsG (pcs g s (many g s)))))))) (by kernel_rfl) (by kernel_rfl) (by kernel_rfl) ?_ (fun cf => (by kernel_rfl))
  refine WpOps.keep 6 (Value.int IntKind.i64 0) (by kernel_rfl) (by kernel_rfl) (by kernel_rfl) ?_ (fun cf => (by kernel_rfl))
  refine WpOps.nil ?_
  refine thenK_at ?_
  refine Wp.seq ?_
  refine Wp.seq ?_
  refine Wp.text ?_
  refine WpOps.keep 17 (Value.int IntKind.i64 0) (by kernel_rfl) (by kernel_rfl) (by kernel_rfl) ?_ (fun cf => (by kernel_rfl))
  refine WpOps.keep 18 (Value.bool false) (by kernel_rfl) (by kernel_rfl) (by kernel_rfl) ?_ (fun cf => (by kernel_rfl))
  refine WpOps.nil ?_
  refine thenK_at ?_
  refine Wp.off (by kernel_rfl) ?_
  refine Wp.skip ?_
  refine thenK_at ?_
  refine Wp.seq ?_
  refine Wp.text ?_
  refine WpOps.keep 7 (Value.string (ByteArray.mk #[])) (by kernel_rfl) (by kernel_rfl) (by kernel_rfl) ?_ (fun cf => (by kernel_rfl))
  refine WpOps.nil ?_
  refine thenK_at ?_
  refine Wp.seq ?_
  refine Wp.text ?_
  refine WpOps.keep 25 (Value.pointer (some (Addr.mk 0 4 none))) (by kernel_rfl) (by kernel_rfl) (by kernel_rfl) ?_ (fun cf => (by kernel_rfl))
  refine WpOps.keep 26 (Value.int IntKind.i64 (Gr.at' g)) (by kernel_rfl) (by kernel_rfl) (by kernel_rfl) ?_ (fun cf => (by kernel_rfl))
  refine WpOps.keep 8 (Value.int IntKind.i64 (Gr.at' g)) (by kernel_rfl) (by kernel_rfl) (by kernel_rfl) ?_ (fun cf => (by kernel_rfl))
  refine WpOps.nil ?_
  refine thenK_at ?_
  refine Wp.seq ?_
  refine Wp.seq ?_
  refine Wp.text ?_
  refine WpOps.keep 9 (Value.int IntKind.i64 0) (by kernel_rfl) (by kernel_rfl) (by kernel_rfl) ?_ (fun cf => (by kernel_rfl))
  refine WpOps.nil ?_
  refine thenK_at ?_
  refine Wp.block ?_
  refine Wp.loop (G := Nat) (fun k => layj [(1, .int .i64 size), (2, .pointer (some ⟨0, 0, none⟩)), (5, grams 24 (pcs g s (many g s))), (7, .string (g.data.extract 0 (upto g s k))), (8, .int .i64 (g.at' + (upto g s k : Nat))), (9, .int .i64 (k : Int))]) (fun _ => heapOf [⟨24, true, gc g⟩]) (fun k => many g s - k) (fun k => k ≤ many g s) 0
    (View.of [0] [⟨24, true, gc g⟩] _ (by decide) rfl ⟨⟨gc g, by kernel_rfl, CellsOk.eq rfl (gc_flat g)⟩, trivial⟩
      ⟨⟨by kernel_rfl, rfl⟩, ⟨by kernel_rfl, rfl⟩, ⟨by kernel_rfl, rfl⟩, ⟨congrArg Value.string (Go.WideShapes.bytes_inj (by simp [upto])), rfl⟩, ⟨congrArg (Value.int .i64) (by simp [upto]), rfl⟩, ⟨by kernel_rfl, rfl⟩, trivial⟩) (Nat.zero_le _) ?_
  intro k hk
  refine Wp.seq ?_
  refine Wp.seq ?_
  refine Wp.text ?_
  refine WpOps.keep 27 (Value.int IntKind.i64 (↑k : Int)) (by kernel_rfl) (by kernel_rfl) (by kernel_rfl) ?_ (fun cf => (by kernel_rfl))
  refine WpOps.keep 28 (Value.iface 24 (Value.iface (List.length (pcs g s (many g s))) (Value.iface 0 (Value.agg (List.toArray (cellsG (pcs g s (many g s)))))))) (by kernel_rfl) (by kernel_rfl) (by kernel_rfl) ?_ (fun cf => (by kernel_rfl))
  refine WpOps.keep 29 (Value.int IntKind.i64 (↑(List.length (pcs g s (many g s))) : Int)) (by kernel_rfl) (by kernel_rfl) (by kernel_rfl) ?_ (fun cf => (by kernel_rfl))
  refine WpOps.keep 30 (Value.bool (decide ((↑k : Int) < (↑(List.length (pcs g s (many g s))) : Int)))) (by kernel_rfl) (by kernel_rfl) (by kernel_rfl) ?_ (fun cf => (by kernel_rfl))
  refine WpOps.nil ?_
  refine thenK_at ?_
  refine Wp.split (decide ((↑k : Int) < (↑(List.length (pcs g s (many g s))) : Int))) (by kernel_rfl) (fun hb => ?_) (fun hb => ?_)
  · have hlt : k < many g s := by have := of_decide_eq_true hb; rw [pcs_len] at this; omega
    have hks : k * s + s ≤ many g s * s := by rw [← Nat.succ_mul]; exact Nat.mul_le_mul_right _ hlt
    have hk0 : k * s < g.data.size := by omega
    have b1 : 0 ≤ (k : Int) ∧ (k : Int) < (pcs g s (many g s)).length := by rw [pcs_len]; omega
    have v1 := cells_piece g s (many g s) k hlt
    have ha := piece_at hv hk0
    have hz := piece_size hv hs2 hk0
    have e1 : ((piece g s k).at' != g.at' + (upto g s k : Nat)) = false := by
      rw [ha, show upto g s k = k * s by simp only [upto]; omega]; simp
    have e2 : decide (((piece g s k).data.size : Int) > size) = false := decide_eq_false (by omega)
    have v := valid20 (piece g s k) (by have := ok.fl; show g.fr.length ≤ _; omega) (by have := ok.tl; show g.to.length ≤ _; omega)
    have hv2 : (!okG (piece g s k)) = false := by rw [piece_ok hv hs2 hk0]; rfl
    have e3 : ((piece g s k).total != g.total) = false := by simp [piece, ownG]
    have e4 : (((g.data.extract 0 (upto g s k)).size + (piece g s k).data.size : Nat) : Int) ≤ 9223372036854775807 := by
      rw [ByteArray.size_extract, hz]; omega
    refine Wp.skip ?_
    refine thenK_at ?_
    refine Wp.seq ?_
    refine Wp.block ?_
    refine Wp.seq ?_
    refine Wp.text ?_
    refine WpOps.keep 33 (Value.iface 24 (Value.iface (List.length (pcs g s (many g s))) (Value.iface 0 (Value.agg (List.toArray (cellsG (pcs g s (many g s)))))))) (by kernel_rfl) (by kernel_rfl) (by kernel_rfl) ?_ (fun cf => (by kernel_rfl))
    refine WpOps.keep 34 (Value.int IntKind.i64 (↑k : Int)) (by kernel_rfl) (by kernel_rfl) (by kernel_rfl) ?_ (fun cf => (by kernel_rfl))
    refine WpOps.keep 35 (Value.iface 24 (Value.iface (Int.toNat (↑k : Int) * 11) (Value.agg (List.toArray (cellsG (pcs g s (many g s))))))) (by kernel_rfl) (by kernel_rfl) (by kernel_rfl) ?_ (fun cf => o_indexI (e := 24) (size := 11) (a := (↑k : Int)) b1 (by kernel_rfl) (by kernel_rfl) (by kernel_rfl) (by kernel_rfl))
    refine WpOps.keep 36 (Value.agg (List.toArray (gc (piece g s k)))) (by kernel_rfl) (by kernel_rfl) (by kernel_rfl) ?_ (fun cf => o_loadIA (Int.toNat (↑k : Int) * 11) v1 (by kernel_rfl) (by kernel_rfl))
    refine WpOps.made 10 (Value.pointer (some (Addr.mk 1 0 none))) (Blk.mk 24 true [Value.slice none 0 0, Value.slice none 0 0, Value.int IntKind.i64 0, Value.int IntKind.i64 0, Value.int IntKind.i64 0, Value.int IntKind.i64 0, Value.int IntKind.i64 0, Value.bool false, Value.bool false, Value.bool false, Value.string (ByteArray.mk #[])]) (by kernel_rfl) (by kernel_rfl) (by kernel_rfl) ?_ (fun cf => (by kernel_rfl))
    refine WpOps.laid (Value.tuple #[]) (1) (Blk.mk 24 true [Value.iface 3 (Value.iface (List.length (Gr.fr (piece g s k))) (Value.iface (Gr.fx (piece g s k)) (Value.agg (List.toArray (List.map (fun n => Value.int IntKind.i64 n) (Gr.fr (piece g s k))))))), Value.iface 3 (Value.iface (List.length (Gr.to (piece g s k))) (Value.iface (Gr.tx (piece g s k)) (Value.agg (List.toArray (List.map (fun n => Value.int IntKind.i64 n) (Gr.to (piece g s k))))))), Value.int IntKind.i64 (Gr.number (piece g s k)), Value.int IntKind.i64 (Gr.life (piece g s k)), Value.int IntKind.i64 (Gr.at' (piece g s k)), Value.int IntKind.i64 (Gr.total (piece g s k)), Value.int IntKind.i64 (Gr.report (piece g s k)), Value.bool (Gr.more (piece g s k)), Value.bool (Gr.may (piece g s k)), Value.bool (Gr.wants (piece g s k)), Value.string (Gr.data (piece g s k))]) (by kernel_rfl) (by kernel_rfl) (by kernel_rfl) ?_ (fun cf => (by kernel_rfl))
    refine WpOps.nil ?_
    refine thenK_at ?_
    refine Wp.seq ?_
    refine Wp.seq ?_
    refine Wp.text ?_
    refine WpOps.keep 37 (Value.pointer (some (Addr.mk 1 4 none))) (by kernel_rfl) (by kernel_rfl) (by kernel_rfl) ?_ (fun cf => (by kernel_rfl))
    refine WpOps.keep 38 (Value.int IntKind.i64 (Gr.at' (piece g s k))) (by kernel_rfl) (by kernel_rfl) (by kernel_rfl) ?_ (fun cf => (by kernel_rfl))
    refine WpOps.keep 39 (Value.int IntKind.i64 (Gr.at' g + (↑(upto g s k) : Int))) (by kernel_rfl) (by kernel_rfl) (by kernel_rfl) ?_ (fun cf => (by kernel_rfl))
    refine WpOps.keep 40 (Value.bool false) (by kernel_rfl) (by kernel_rfl) (by kernel_rfl) ?_ (fun cf => by_fact e1 ((by kernel_rfl)))
    refine WpOps.keep 41 (Value.bool false) (by kernel_rfl) (by kernel_rfl) (by kernel_rfl) ?_ (fun cf => (by kernel_rfl))
    refine WpOps.keep 42 (Value.pointer (some (Addr.mk 1 10 none))) (by kernel_rfl) (by kernel_rfl) (by kernel_rfl) ?_ (fun cf => (by kernel_rfl))
    refine WpOps.keep 43 (Value.string (Gr.data (piece g s k))) (by kernel_rfl) (by kernel_rfl) (by kernel_rfl) ?_ (fun cf => (by kernel_rfl))
    refine WpOps.keep 44 (Value.int IntKind.i64 (↑(ByteArray.size (Gr.data (piece g s k))) : Int)) (by kernel_rfl) (by kernel_rfl) (by kernel_rfl) ?_ (fun cf => (by kernel_rfl))
    refine WpOps.keep 45 (Value.int IntKind.i64 size) (by kernel_rfl) (by kernel_rfl) (by kernel_rfl) ?_ (fun cf => (by kernel_rfl))
    refine WpOps.keep 46 (Value.bool false) (by kernel_rfl) (by kernel_rfl) (by kernel_rfl) ?_ (fun cf => by_fact e2 ((by kernel_rfl)))
    refine WpOps.keep 47 (Value.bool false) (by kernel_rfl) (by kernel_rfl) (by kernel_rfl) ?_ (fun cf => (by kernel_rfl))
    refine WpOps.keep 48 (Value.bool false) (by kernel_rfl) (by kernel_rfl) (by kernel_rfl) ?_ (fun cf => (by kernel_rfl))
    refine WpOps.keep 49 (Value.agg #[Value.iface 3 (Value.iface (List.length (Gr.fr (piece g s k))) (Value.iface (Gr.fx (piece g s k)) (Value.agg (List.toArray (List.map (fun n => Value.int IntKind.i64 n) (Gr.fr (piece g s k))))))), Value.iface 3 (Value.iface (List.length (Gr.to (piece g s k))) (Value.iface (Gr.tx (piece g s k)) (Value.agg (List.toArray (List.map (fun n => Value.int IntKind.i64 n) (Gr.to (piece g s k))))))), Value.int IntKind.i64 (Gr.number (piece g s k)), Value.int IntKind.i64 (Gr.life (piece g s k)), Value.int IntKind.i64 (Gr.at' (piece g s k)), Value.int IntKind.i64 (Gr.total (piece g s k)), Value.int IntKind.i64 (Gr.report (piece g s k)), Value.bool (Gr.more (piece g s k)), Value.bool (Gr.may (piece g s k)), Value.bool (Gr.wants (piece g s k)), Value.string (Gr.data (piece g s k))]) (by kernel_rfl) (by kernel_rfl) (by kernel_rfl) ?_ (fun cf => (by kernel_rfl))
    refine WpOps.framed 50 20 [Value.agg #[Value.iface 3 (Value.iface (List.length (Gr.fr (piece g s k))) (Value.iface (Gr.fx (piece g s k)) (Value.agg (List.toArray (List.map (fun n => Value.int IntKind.i64 n) (Gr.fr (piece g s k))))))), Value.iface 3 (Value.iface (List.length (Gr.to (piece g s k))) (Value.iface (Gr.tx (piece g s k)) (Value.agg (List.toArray (List.map (fun n => Value.int IntKind.i64 n) (Gr.to (piece g s k))))))), Value.int IntKind.i64 (Gr.number (piece g s k)), Value.int IntKind.i64 (Gr.life (piece g s k)), Value.int IntKind.i64 (Gr.at' (piece g s k)), Value.int IntKind.i64 (Gr.total (piece g s k)), Value.int IntKind.i64 (Gr.report (piece g s k)), Value.bool (Gr.more (piece g s k)), Value.bool (Gr.may (piece g s k)), Value.bool (Gr.wants (piece g s k)), Value.string (Gr.data (piece g s k))]] (by kernel_rfl) (by kernel_rfl) (by kernel_rfl) (by kernel_rfl) (by kernel_rfl) (fun cf => (by kernel_rfl)) ?_
    refine WpFun.of (v) ?_
    refine WpOps.keep 51 (Value.bool false) (by kernel_rfl) (by kernel_rfl) (by kernel_rfl) ?_ (fun cf => by_fact hv2 ((by kernel_rfl)))
    refine WpOps.keep 52 (Value.bool false) (by kernel_rfl) (by kernel_rfl) (by kernel_rfl) ?_ (fun cf => (by kernel_rfl))
    refine WpOps.keep 53 (Value.bool false) (by kernel_rfl) (by kernel_rfl) (by kernel_rfl) ?_ (fun cf => (by kernel_rfl))
    refine WpOps.keep 54 (Value.pointer (some (Addr.mk 1 5 none))) (by kernel_rfl) (by kernel_rfl) (by kernel_rfl) ?_ (fun cf => (by kernel_rfl))
    refine WpOps.keep 55 (Value.int IntKind.i64 (Gr.total (piece g s k))) (by kernel_rfl) (by kernel_rfl) (by kernel_rfl) ?_ (fun cf => (by kernel_rfl))
    refine WpOps.keep 56 (Value.pointer (some (Addr.mk 0 5 none))) (by kernel_rfl) (by kernel_rfl) (by kernel_rfl) ?_ (fun cf => (by kernel_rfl))
    refine WpOps.keep 57 (Value.int IntKind.i64 (Gr.total g)) (by kernel_rfl) (by kernel_rfl) (by kernel_rfl) ?_ (fun cf => (by kernel_rfl))
    refine WpOps.keep 58 (Value.bool false) (by kernel_rfl) (by kernel_rfl) (by kernel_rfl) ?_ (fun cf => by_fact e3 ((by kernel_rfl)))
    refine WpOps.keep 59 (Value.bool false) (by kernel_rfl) (by kernel_rfl) (by kernel_rfl) ?_ (fun cf => (by kernel_rfl))
    refine WpOps.keep 60 (Value.bool false) (by kernel_rfl) (by kernel_rfl) (by kernel_rfl) ?_ (fun cf => (by kernel_rfl))
    refine WpOps.keep 61 (Value.int IntKind.i64 (↑k : Int)) (by kernel_rfl) (by kernel_rfl) (by kernel_rfl) ?_ (fun cf => (by kernel_rfl))
    refine WpOps.keep 62 (Value.int IntKind.i64 (IntKind.wrap IntKind.i64 ((↑k : Int) + 1))) (by kernel_rfl) (by kernel_rfl) (by kernel_rfl) ?_ (fun cf => (by kernel_rfl))
    refine WpOps.keep 63 (Value.iface 24 (Value.iface (List.length (pcs g s (many g s))) (Value.iface 0 (Value.agg (List.toArray (cellsG (pcs g s (many g s)))))))) (by kernel_rfl) (by kernel_rfl) (by kernel_rfl) ?_ (fun cf => (by kernel_rfl))
    refine WpOps.keep 64 (Value.int IntKind.i64 (↑(List.length (pcs g s (many g s))) : Int)) (by kernel_rfl) (by kernel_rfl) (by kernel_rfl) ?_ (fun cf => (by kernel_rfl))
    refine WpOps.keep 65 (Value.bool (decide (IntKind.wrap IntKind.i64 ((↑k : Int) + 1) < (↑(List.length (pcs g s (many g s))) : Int)))) (by kernel_rfl) (by kernel_rfl) (by kernel_rfl) ?_ (fun cf => (by kernel_rfl))
    refine WpOps.keep 66 (Value.bool (decide (IntKind.wrap IntKind.i64 ((↑k : Int) + 1) < (↑(List.length (pcs g s (many g s))) : Int)))) (by kernel_rfl) (by kernel_rfl) (by kernel_rfl) ?_ (fun cf => (by kernel_rfl))
    refine WpOps.fork 7 (decide (IntKind.wrap IntKind.i64 ((↑k : Int) + 1) < (↑(List.length (pcs g s (many g s))) : Int))) [67, 68, 69, 70, 71, 72, 73] 73 (Int.tmod (↑(ByteArray.size (Gr.data (piece g s k))) : Int) 8 != 0) (false) (by kernel_rfl) (fun g73 => ?_) (fun g73 => ?_) (fun f_73 b73 hb73 => ?_)
    · refine WpOps.keep 67 (Value.pointer (some (Addr.mk 1 10 none))) (by kernel_rfl) (by kernel_rfl) (wants_tt g73 (by kernel_rfl)) ?_ (fun cf => (by kernel_rfl))
      refine WpOps.keep 68 (Value.string (Gr.data (piece g s k))) (by kernel_rfl) (by kernel_rfl) (wants_tt g73 (by kernel_rfl)) ?_ (fun cf => (by kernel_rfl))
      refine WpOps.keep 69 (Value.int IntKind.i64 (↑(ByteArray.size (Gr.data (piece g s k))) : Int)) (by kernel_rfl) (by kernel_rfl) (wants_tt g73 (by kernel_rfl)) ?_ (fun cf => (by kernel_rfl))
      refine WpOps.keep 70 (Value.int IntKind.i64 (Int.tmod (↑(ByteArray.size (Gr.data (piece g s k))) : Int) 8)) (by kernel_rfl) (by kernel_rfl) (wants_tt g73 (by kernel_rfl)) ?_ (fun cf => (by kernel_rfl))
      refine WpOps.keep 71 (Value.bool (Int.tmod (↑(ByteArray.size (Gr.data (piece g s k))) : Int) 8 != 0)) (by kernel_rfl) (by kernel_rfl) (wants_tt g73 (by kernel_rfl)) ?_ (fun cf => (by kernel_rfl))
      refine WpOps.keep 72 (Value.bool (Int.tmod (↑(ByteArray.size (Gr.data (piece g s k))) : Int) 8 != 0)) (by kernel_rfl) (by kernel_rfl) (by kernel_rfl) ?_ (fun cf => o_pickT g73 (by kernel_rfl) (by kernel_rfl))
      refine WpOps.keep 73 (Value.bool (Int.tmod (↑(ByteArray.size (Gr.data (piece g s k))) : Int) 8 != 0)) (by kernel_rfl) (by kernel_rfl) (by kernel_rfl) ?_ (fun cf => (by kernel_rfl))
      refine WpOps.nil ?_
      exact ⟨rfl, (.upd rfl (.upd rfl (.upd rfl (.upd rfl (.upd rfl (.upd rfl (.upd rfl .refl))))))), (by kernel_rfl)⟩
    · refine WpOps.unmet 67 (by kernel_rfl) (by kernel_rfl) (wants_ft g73 (by kernel_rfl)) ?_
      refine WpOps.unmet 68 (by kernel_rfl) (by kernel_rfl) (wants_ft g73 (by kernel_rfl)) ?_
      refine WpOps.unmet 69 (by kernel_rfl) (by kernel_rfl) (wants_ft g73 (by kernel_rfl)) ?_
      refine WpOps.unmet 70 (by kernel_rfl) (by kernel_rfl) (wants_ft g73 (by kernel_rfl)) ?_
      refine WpOps.unmet 71 (by kernel_rfl) (by kernel_rfl) (wants_ft g73 (by kernel_rfl)) ?_
      refine WpOps.keep 72 (Value.bool false) (by kernel_rfl) (by kernel_rfl) (by kernel_rfl) ?_ (fun cf => o_pickF g73 (by kernel_rfl) (by kernel_rfl))
      refine WpOps.keep 73 (Value.bool false) (by kernel_rfl) (by kernel_rfl) (by kernel_rfl) ?_ (fun cf => (by kernel_rfl))
      refine WpOps.nil ?_
      exact ⟨rfl, (.upd rfl (.upd rfl (.upd rfl (.upd rfl (.upd rfl (.upd rfl (.upd rfl .refl))))))), (by kernel_rfl)⟩
    refine WpOps.nil ?_
    refine thenK_at ?_
    refine Wp.split (b73) (by kernel_rfl) (fun h73 => ?_) (fun h73 => ?_)
    · exfalso
      rw [hb73, Bool.cond_false_right, Bool.and_eq_true, decide_eq_true_eq] at h73
      obtain ⟨h1, h2⟩ := h73
      rw [wr _ (by omega) (by omega), pcs_len] at h1
      have hks2 : (k + 1) * s + s ≤ many g s * s := by rw [← Nat.succ_mul]; exact Nat.mul_le_mul_right _ (by omega)
      rw [Nat.add_mul, Nat.one_mul] at hks2
      have hz2 : (piece g s k).data.size = s := by omega
      rw [hz2, Int.tmod_eq_emod_of_nonneg (by omega)] at h2
      have : (s : Int) % 8 = 0 := by omega
      rw [this] at h2
      cases h2
    · refine Wp.skip ?_
      refine thenK_at ?_
      refine Wp.seq ?_
      refine Wp.text ?_
      refine WpOps.keep 74 (Value.int IntKind.i64 (Gr.at' g + (↑(upto g s k) : Int))) (by kernel_rfl) (by kernel_rfl) (by kernel_rfl) ?_ (fun cf => (by kernel_rfl))
      refine WpOps.keep 75 (Value.pointer (some (Addr.mk 1 10 none))) (by kernel_rfl) (by kernel_rfl) (by kernel_rfl) ?_ (fun cf => (by kernel_rfl))
      refine WpOps.keep 76 (Value.string (Gr.data (piece g s k))) (by kernel_rfl) (by kernel_rfl) (by kernel_rfl) ?_ (fun cf => (by kernel_rfl))
      refine WpOps.keep 77 (Value.int IntKind.i64 (↑(ByteArray.size (Gr.data (piece g s k))) : Int)) (by kernel_rfl) (by kernel_rfl) (by kernel_rfl) ?_ (fun cf => (by kernel_rfl))
      refine WpOps.keep 78 (Value.int IntKind.i64 (IntKind.wrap IntKind.i64 (Gr.at' g + (↑(upto g s k) : Int) + (↑(ByteArray.size (Gr.data (piece g s k))) : Int)))) (by kernel_rfl) (by kernel_rfl) (by kernel_rfl) ?_ (fun cf => (by kernel_rfl))
      refine WpOps.keep 8 (Value.int IntKind.i64 (IntKind.wrap IntKind.i64 (Gr.at' g + (↑(upto g s k) : Int) + (↑(ByteArray.size (Gr.data (piece g s k))) : Int)))) (by kernel_rfl) (by kernel_rfl) (by kernel_rfl) ?_ (fun cf => (by kernel_rfl))
      refine WpOps.nil ?_
      refine thenK_at ?_
      refine Wp.text ?_
      refine WpOps.keep 79 (Value.string (ByteArray.extract (Gr.data g) 0 (upto g s k))) (by kernel_rfl) (by kernel_rfl) (by kernel_rfl) ?_ (fun cf => (by kernel_rfl))
      refine WpOps.keep 80 (Value.pointer (some (Addr.mk 1 10 none))) (by kernel_rfl) (by kernel_rfl) (by kernel_rfl) ?_ (fun cf => (by kernel_rfl))
      refine WpOps.keep 81 (Value.string (Gr.data (piece g s k))) (by kernel_rfl) (by kernel_rfl) (by kernel_rfl) ?_ (fun cf => (by kernel_rfl))
      refine WpOps.keep 82 (Value.string (ByteArray.extract (Gr.data g) 0 (upto g s k) ++ Gr.data (piece g s k))) (by kernel_rfl) (by kernel_rfl) (by kernel_rfl) ?_ (fun cf => o_add e4 (by kernel_rfl) (by kernel_rfl))
      refine WpOps.keep 7 (Value.string (ByteArray.extract (Gr.data g) 0 (upto g s k) ++ Gr.data (piece g s k))) (by kernel_rfl) (by kernel_rfl) (by kernel_rfl) ?_ (fun cf => (by kernel_rfl))
      refine WpOps.nil ?_
      refine blockK_norm ?_
      refine thenK_at ?_
      refine Wp.text ?_
      refine WpOps.keep 31 (Value.int IntKind.i64 (↑k : Int)) (by kernel_rfl) (by kernel_rfl) (by kernel_rfl) ?_ (fun cf => (by kernel_rfl))
      refine WpOps.keep 32 (Value.int IntKind.i64 (IntKind.wrap IntKind.i64 ((↑k : Int) + 1))) (by kernel_rfl) (by kernel_rfl) (by kernel_rfl) ?_ (fun cf => (by kernel_rfl))
      refine WpOps.keep 9 (Value.int IntKind.i64 (IntKind.wrap IntKind.i64 ((↑k : Int) + 1))) (by kernel_rfl) (by kernel_rfl) (by kernel_rfl) ?_ (fun cf => (by kernel_rfl))
      refine WpOps.nil ?_
      refine thenK_at ?_
      have hu : upto g s (k + 1) = min (k * s + s) g.data.size := by simp only [upto, Nat.add_mul, Nat.one_mul]
      have hu0 : upto g s k = k * s := by simp only [upto]; omega
      refine ⟨k + 1, by omega, by omega, View.of [0] [⟨24, true, gc g⟩] _ (by decide) rfl ⟨⟨gc g, by kernel_rfl, CellsOk.eq rfl (gc_flat g)⟩, trivial⟩
        ⟨⟨by kernel_rfl, rfl⟩, ⟨by kernel_rfl, rfl⟩, ⟨by kernel_rfl, rfl⟩, ⟨congrArg Value.string (?_ : g.data.extract 0 (upto g s k) ++ (piece g s k).data = g.data.extract 0 (upto g s (k + 1))), rfl⟩, ⟨congrArg (Value.int .i64) (?_ : IntKind.i64.wrap (g.at' + (upto g s k : Nat) + ((piece g s k).data.size : Int)) = g.at' + (upto g s (k + 1) : Nat)), rfl⟩, ⟨congrArg (Value.int .i64) (wr _ (by omega) (by omega)), rfl⟩, trivial⟩⟩
      · rw [piece_data hv hs2 hk0, hu, hu0, ext_add _ _ _ (by omega)]
      · rw [wr _ (by omega) (by omega), hz, hu, hu0]
        omega
  · have hkN : k = many g s := by have := of_decide_eq_false hb; rw [pcs_len] at this; omega
    have hfull : g.data.extract 0 (upto g s k) = g.data := by
      rw [hkN, show upto g s (many g s) = g.data.size by simp only [upto]; omega, ByteArray.extract_zero_size]
    have e5 : ((g.data.extract 0 (upto g s k)).toList == g.data.toList) = true := by
      rw [hfull]; exact beq_self_eq_true _
    have e6 : decide (((pcs g s (many g s)).length : Int) > 0) = true := decide_eq_true (by rw [pcs_len]; omega)
    refine Wp.exit ?_
    refine thenK_exit ?_
    refine thenK_exit ?_
    refine blockK_hit ?_
    refine thenK_at ?_
    refine Wp.seq ?_
    refine Wp.text ?_
    refine WpOps.keep 83 (Value.string (ByteArray.extract (Gr.data g) 0 (upto g s k))) (by kernel_rfl) (by kernel_rfl) (by kernel_rfl) ?_ (fun cf => (by kernel_rfl))
    refine WpOps.keep 84 (Value.pointer (some (Addr.mk 0 10 none))) (by kernel_rfl) (by kernel_rfl) (by kernel_rfl) ?_ (fun cf => (by kernel_rfl))
    refine WpOps.keep 85 (Value.string (Gr.data g)) (by kernel_rfl) (by kernel_rfl) (by kernel_rfl) ?_ (fun cf => (by kernel_rfl))
    refine WpOps.keep 86 (Value.bool true) (by kernel_rfl) (by kernel_rfl) (by kernel_rfl) ?_ (fun cf => by_fact e5 ((by kernel_rfl)))
    refine WpOps.keep 87 (Value.bool true) (by kernel_rfl) (by kernel_rfl) (by kernel_rfl) ?_ (fun cf => (by kernel_rfl))
    refine WpOps.keep 88 (Value.iface 24 (Value.iface (List.length (pcs g s (many g s))) (Value.iface 0 (Value.agg (List.toArray (cellsG (pcs g s (many g s)))))))) (by kernel_rfl) (by kernel_rfl) (by kernel_rfl) ?_ (fun cf => (by kernel_rfl))
    refine WpOps.keep 89 (Value.int IntKind.i64 (↑(List.length (pcs g s (many g s))) : Int)) (by kernel_rfl) (by kernel_rfl) (by kernel_rfl) ?_ (fun cf => (by kernel_rfl))
    refine WpOps.keep 90 (Value.bool true) (by kernel_rfl) (by kernel_rfl) (by kernel_rfl) ?_ (fun cf => by_fact e6 ((by kernel_rfl)))
    refine WpOps.keep 91 (Value.bool true) (by kernel_rfl) (by kernel_rfl) (by kernel_rfl) ?_ (fun cf => (by kernel_rfl))
    refine WpOps.keep 92 (Value.bool true) (by kernel_rfl) (by kernel_rfl) (by kernel_rfl) ?_ (fun cf => (by kernel_rfl))
    refine WpOps.framed 93 19 [] (by kernel_rfl) (by kernel_rfl) (by kernel_rfl) (by kernel_rfl) (by kernel_rfl) (fun cf => (by kernel_rfl)) ?_
    refine WpFun.of (sn) ?_
    refine WpOps.keep 94 (Value.bool true) (by kernel_rfl) (by kernel_rfl) (by kernel_rfl) ?_ (fun cf => (by kernel_rfl))
    refine WpOps.keep 4 (Value.bool true) (by kernel_rfl) (by kernel_rfl) (by kernel_rfl) ?_ (fun cf => (by kernel_rfl))
    refine WpOps.nil ?_
    refine thenK_at ?_
    refine Wp.ret ?_
    refine endK_retn [Value.bool true] (Value.bool true) (by kernel_rfl) (by kernel_rfl) ?_
    kernel_rfl

theorem law4 (g : Gr) (ok : OkGr g) (size : Int) : Fun E 4 [gv g, .int .i64 size] (.bool true) := by
  cases hc : cutAll g size with
  | none => exact law4_none g ok size hc
  | some l =>
    have hc0 := hc
    simp only [cutAll, cutL] at hc
    split at hc
    · rename_i hv
      have hsz := okG_size hv.1
      have hi := hv.2
      simp only [inR, Bool.cond_false_right, Bool.and_eq_true, decide_eq_true_eq] at hi
      split at hc
      · rename_i hlen
        cases hc
        exact law4_one g ok size hc0 hv.1 hlen hsz
      · rename_i hlen
        split at hc
        · rename_i hm
          cases hc
          obtain ⟨t1, t2⟩ := s8_eq size hi.1 hi.2
          have e1 : size.tdiv 8 = size / 8 := Int.tdiv_eq_ediv_of_nonneg (by omega)
          have e2 : IntKind.i64.wrap (size / 8) = size / 8 := wr _ (by omega) (by omega)
          rw [e1, e2, wr _ (by omega) (by omega)] at t1
          exact law4_many g ok size (s8 size) hc0 hv.1 (by omega) t2 (by omega) (by omega) (by omega)
        · cases hc
    · cases hc
end Go.Proofs.Ytpkkcpglbjbgfaa.D
