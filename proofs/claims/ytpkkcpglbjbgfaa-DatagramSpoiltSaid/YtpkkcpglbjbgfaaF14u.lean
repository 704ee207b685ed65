/- The laws DatagramWrites and DatagramReads. -/
import Derived.Test.YtpkkcpglbjbgfaaFwLem
import Derived.Test.YtpkkcpglbjbgfaaF14t
namespace Go.Proofs.Ytpkkcpglbjbgfaa.D
open Go.Fw Go.RowKit

theorem okGr_of {g : Gr} (h : okG g = true) (hx : g.fx = 0) (ht : g.tx = 0) : OkGr g := by
  have f := fits h
  have := f.f1
  have := f.t1
  exact ⟨fun h => by omega, fun h => by omega, by omega, by omega⟩
theorem wrt_le {g : Gr} (h : okG g = true) : (wrt g).size ≤ 140737488351232 ∧ 23 ≤ (wrt g).size := by
  have f := fits h
  have := f.f1
  have := f.t1
  have := f.f0
  have := f.t0
  have := f.d
  rw [wrt_size]
  omega
theorem read_wrt {g : Gr} (h : okG g = true) : Fun E 24 [.string (wrt g)] (.tuple #[gv (norm g), .int .i64 0]) := by
  obtain ⟨h1, h2⟩ := wrt_le h
  have c := read24 (wrt g) h1
  have e1 : rGr (wrt g) = norm g := by
    unfold rGr
    rw [if_neg (by omega), wrt_ok, if_neg (by decide), parse_wrt h]
    rfl
  have e2 : rErr (wrt g) = 0 := by
    unfold rErr
    rw [if_neg (by omega), wrt_ok, if_neg (by decide), parse_wrt h]
  rwa [e1, e2] at c
theorem read26_wrt {g : Gr} (h : okG g = true) : Fun E 26 [.string (wrt g)] (.tuple #[gv (norm g), .int .i64 0]) := by
  obtain ⟨h1, h2⟩ := wrt_le h
  have c := read26 (wrt g) h1
  have e1 : rGr (wrt g) = norm g := by
    unfold rGr
    rw [if_neg (by omega), wrt_ok, if_neg (by decide), parse_wrt h]
    rfl
  have e2 : rErr (wrt g) = 0 := by
    unfold rErr
    rw [if_neg (by omega), wrt_ok, if_neg (by decide), parse_wrt h]
  rwa [e1, e2] at c
theorem f5 : E.funcs 5 = some Try.f5 := by kernel_rfl
theorem law5_bad (g : Gr) (ok : OkGr g) (h : okG g = false) : Fun E 5 [gv g] (.bool true) := by
  refine Fun.of f5 rfl (of_decide_eq_true (by kernel_rfl)) rfl ?_
  have c1 := write21_bad g ok h
  have c2 := To16 g ok
  have c3 := write22_bad (toR g) h
  have c4 := valid20 g (by have := ok.fl; omega) (by have := ok.tl; omega)
  have c5 := valid23 (toR g)
  have c6 := sane19
  have e1 : okG (toR g) = okG g := rfl
  rw [e1, h] at c5
  rw [h] at c4
  refine Wp.seq ?_
  refine Wp.text ?_
  refine WpOps.made 1 (Value.pointer (some (Addr.mk 0 0 none))) (Blk.mk 24 true [Value.iface 3 (Value.iface (List.length (Gr.fr g)) (Value.iface (Gr.fx g) (Value.agg (List.toArray (List.map (fun n => Value.int IntKind.i64 n) (Gr.fr g)))))), Value.iface 3 (Value.iface (List.length (Gr.to g)) (Value.iface (Gr.tx g) (Value.agg (List.toArray (List.map (fun n => Value.int IntKind.i64 n) (Gr.to g)))))), Value.int IntKind.i64 (Gr.number g), Value.int IntKind.i64 (Gr.life g), Value.int IntKind.i64 (Gr.at' g), Value.int IntKind.i64 (Gr.total g), Value.int IntKind.i64 (Gr.report g), Value.bool (Gr.more g), Value.bool (Gr.may g), Value.bool (Gr.wants g), Value.string (Gr.data g)]) (by kernel_rfl) (by kernel_rfl) (by kernel_rfl) ?_ (fun cf => (by kernel_rfl))
  refine WpOps.keep 2 (Value.bool false) (by kernel_rfl) (by kernel_rfl) (by kernel_rfl) ?_ (fun cf => (by kernel_rfl))
  refine WpOps.nil ?_
  refine thenK_at ?_
  refine Wp.seq ?_
  refine Wp.text ?_
  refine WpOps.keep 9 (Value.agg #[Value.iface 3 (Value.iface (List.length (Gr.fr g)) (Value.iface (Gr.fx g) (Value.agg (List.toArray (List.map (fun n => Value.int IntKind.i64 n) (Gr.fr g)))))), Value.iface 3 (Value.iface (List.length (Gr.to g)) (Value.iface (Gr.tx g) (Value.agg (List.toArray (List.map (fun n => Value.int IntKind.i64 n) (Gr.to g)))))), Value.int IntKind.i64 (Gr.number g), Value.int IntKind.i64 (Gr.life g), Value.int IntKind.i64 (Gr.at' g), Value.int IntKind.i64 (Gr.total g), Value.int IntKind.i64 (Gr.report g), Value.bool (Gr.more g), Value.bool (Gr.may g), Value.bool (Gr.wants g), Value.string (Gr.data g)]) (by kernel_rfl) (by kernel_rfl) (by kernel_rfl) ?_ (fun cf => (by kernel_rfl))
  refine WpOps.framed 10 21 [Value.agg #[Value.iface 3 (Value.iface (List.length (Gr.fr g)) (Value.iface (Gr.fx g) (Value.agg (List.toArray (List.map (fun n => Value.int IntKind.i64 n) (Gr.fr g)))))), Value.iface 3 (Value.iface (List.length (Gr.to g)) (Value.iface (Gr.tx g) (Value.agg (List.toArray (List.map (fun n => Value.int IntKind.i64 n) (Gr.to g)))))), Value.int IntKind.i64 (Gr.number g), Value.int IntKind.i64 (Gr.life g), Value.int IntKind.i64 (Gr.at' g), Value.int IntKind.i64 (Gr.total g), Value.int IntKind.i64 (Gr.report g), Value.bool (Gr.more g), Value.bool (Gr.may g), Value.bool (Gr.wants g), Value.string (Gr.data g)]] (by kernel_rfl) (by kernel_rfl) (by kernel_rfl) (by kernel_rfl) (by kernel_rfl) (fun cf => (by kernel_rfl)) ?_
  refine WpFun.of (c1) ?_
  refine WpOps.keep 8 (Value.tuple #[Value.string ByteArray.empty, Value.int IntKind.i64 1]) (by kernel_rfl) (by kernel_rfl) (by kernel_rfl) ?_ (fun cf => (by kernel_rfl))
  refine WpOps.keep 11 (Value.string ByteArray.empty) (by kernel_rfl) (by kernel_rfl) (by kernel_rfl) ?_ (fun cf => (by kernel_rfl))
  refine WpOps.keep 12 (Value.int IntKind.i64 1) (by kernel_rfl) (by kernel_rfl) (by kernel_rfl) ?_ (fun cf => (by kernel_rfl))
  refine WpOps.keep 3 (Value.string ByteArray.empty) (by kernel_rfl) (by kernel_rfl) (by kernel_rfl) ?_ (fun cf => (by kernel_rfl))
  refine WpOps.keep 4 (Value.int IntKind.i64 1) (by kernel_rfl) (by kernel_rfl) (by kernel_rfl) ?_ (fun cf => (by kernel_rfl))
  refine WpOps.nil ?_
  refine thenK_at ?_
  refine Wp.seq ?_
  refine Wp.text ?_
  refine WpOps.keep 14 (Value.agg #[Value.iface 3 (Value.iface (List.length (Gr.fr g)) (Value.iface (Gr.fx g) (Value.agg (List.toArray (List.map (fun n => Value.int IntKind.i64 n) (Gr.fr g)))))), Value.iface 3 (Value.iface (List.length (Gr.to g)) (Value.iface (Gr.tx g) (Value.agg (List.toArray (List.map (fun n => Value.int IntKind.i64 n) (Gr.to g)))))), Value.int IntKind.i64 (Gr.number g), Value.int IntKind.i64 (Gr.life g), Value.int IntKind.i64 (Gr.at' g), Value.int IntKind.i64 (Gr.total g), Value.int IntKind.i64 (Gr.report g), Value.bool (Gr.more g), Value.bool (Gr.may g), Value.bool (Gr.wants g), Value.string (Gr.data g)]) (by kernel_rfl) (by kernel_rfl) (by kernel_rfl) ?_ (fun cf => (by kernel_rfl))
  refine WpOps.framed 15 16 [Value.agg #[Value.iface 3 (Value.iface (List.length (Gr.fr g)) (Value.iface (Gr.fx g) (Value.agg (List.toArray (List.map (fun n => Value.int IntKind.i64 n) (Gr.fr g)))))), Value.iface 3 (Value.iface (List.length (Gr.to g)) (Value.iface (Gr.tx g) (Value.agg (List.toArray (List.map (fun n => Value.int IntKind.i64 n) (Gr.to g)))))), Value.int IntKind.i64 (Gr.number g), Value.int IntKind.i64 (Gr.life g), Value.int IntKind.i64 (Gr.at' g), Value.int IntKind.i64 (Gr.total g), Value.int IntKind.i64 (Gr.report g), Value.bool (Gr.more g), Value.bool (Gr.may g), Value.bool (Gr.wants g), Value.string (Gr.data g)]] (by kernel_rfl) (by kernel_rfl) (by kernel_rfl) (by kernel_rfl) (by kernel_rfl) (fun cf => (by kernel_rfl)) ?_
  refine WpFun.of (c2) ?_
  refine WpOps.framed 16 22 [Value.agg (List.toArray (gc (toR g)))] (by kernel_rfl) (by kernel_rfl) (by kernel_rfl) (by kernel_rfl) (by kernel_rfl) (fun cf => (by kernel_rfl)) ?_
  refine WpFun.of (c3) ?_
  refine WpOps.keep 13 (Value.tuple #[Value.string ByteArray.empty, Value.int IntKind.i64 1]) (by kernel_rfl) (by kernel_rfl) (by kernel_rfl) ?_ (fun cf => (by kernel_rfl))
  refine WpOps.keep 17 (Value.string ByteArray.empty) (by kernel_rfl) (by kernel_rfl) (by kernel_rfl) ?_ (fun cf => (by kernel_rfl))
  refine WpOps.keep 18 (Value.int IntKind.i64 1) (by kernel_rfl) (by kernel_rfl) (by kernel_rfl) ?_ (fun cf => (by kernel_rfl))
  refine WpOps.keep 5 (Value.string ByteArray.empty) (by kernel_rfl) (by kernel_rfl) (by kernel_rfl) ?_ (fun cf => (by kernel_rfl))
  refine WpOps.keep 6 (Value.int IntKind.i64 1) (by kernel_rfl) (by kernel_rfl) (by kernel_rfl) ?_ (fun cf => (by kernel_rfl))
  refine WpOps.nil ?_
  refine thenK_at ?_
  refine Wp.seq ?_
  refine Wp.seq ?_
  refine Wp.region (by kernel_rfl) ?_
  refine WpOps.keep 19 (Value.string ByteArray.empty) (by kernel_rfl) (by kernel_rfl) (by kernel_rfl) ?_ (fun cf => (by kernel_rfl))
  refine WpOps.keep 20 (Value.string ByteArray.empty) (by kernel_rfl) (by kernel_rfl) (by kernel_rfl) ?_ (fun cf => (by kernel_rfl))
  refine WpOps.keep 21 (Value.bool false) (by kernel_rfl) (by kernel_rfl) (by kernel_rfl) ?_ (fun cf => (by kernel_rfl))
  refine WpOps.keep 22 (Value.bool false) (by kernel_rfl) (by kernel_rfl) (by kernel_rfl) ?_ (fun cf => (by kernel_rfl))
  refine WpOps.keep 23 (Value.int IntKind.i64 1) (by kernel_rfl) (by kernel_rfl) (by kernel_rfl) ?_ (fun cf => (by kernel_rfl))
  refine WpOps.keep 24 (Value.int IntKind.i64 1) (by kernel_rfl) (by kernel_rfl) (by kernel_rfl) ?_ (fun cf => (by kernel_rfl))
  refine WpOps.keep 25 (Value.bool false) (by kernel_rfl) (by kernel_rfl) (by kernel_rfl) ?_ (fun cf => (by kernel_rfl))
  refine WpOps.keep 26 (Value.bool false) (by kernel_rfl) (by kernel_rfl) (by kernel_rfl) ?_ (fun cf => (by kernel_rfl))
  refine WpOps.keep 27 (Value.bool false) (by kernel_rfl) (by kernel_rfl) (by kernel_rfl) ?_ (fun cf => (by kernel_rfl))
  refine WpOps.keep 28 (Value.agg #[Value.iface 3 (Value.iface (List.length (Gr.fr g)) (Value.iface (Gr.fx g) (Value.agg (List.toArray (List.map (fun n => Value.int IntKind.i64 n) (Gr.fr g)))))), Value.iface 3 (Value.iface (List.length (Gr.to g)) (Value.iface (Gr.tx g) (Value.agg (List.toArray (List.map (fun n => Value.int IntKind.i64 n) (Gr.to g)))))), Value.int IntKind.i64 (Gr.number g), Value.int IntKind.i64 (Gr.life g), Value.int IntKind.i64 (Gr.at' g), Value.int IntKind.i64 (Gr.total g), Value.int IntKind.i64 (Gr.report g), Value.bool (Gr.more g), Value.bool (Gr.may g), Value.bool (Gr.wants g), Value.string (Gr.data g)]) (by kernel_rfl) (by kernel_rfl) (by kernel_rfl) ?_ (fun cf => (by kernel_rfl))
  refine WpOps.framed 29 20 [Value.agg #[Value.iface 3 (Value.iface (List.length (Gr.fr g)) (Value.iface (Gr.fx g) (Value.agg (List.toArray (List.map (fun n => Value.int IntKind.i64 n) (Gr.fr g)))))), Value.iface 3 (Value.iface (List.length (Gr.to g)) (Value.iface (Gr.tx g) (Value.agg (List.toArray (List.map (fun n => Value.int IntKind.i64 n) (Gr.to g)))))), Value.int IntKind.i64 (Gr.number g), Value.int IntKind.i64 (Gr.life g), Value.int IntKind.i64 (Gr.at' g), Value.int IntKind.i64 (Gr.total g), Value.int IntKind.i64 (Gr.report g), Value.bool (Gr.more g), Value.bool (Gr.may g), Value.bool (Gr.wants g), Value.string (Gr.data g)]] (by kernel_rfl) (by kernel_rfl) (by kernel_rfl) (by kernel_rfl) (by kernel_rfl) (fun cf => (by kernel_rfl)) ?_
  refine WpFun.of (c4) ?_
  refine WpOps.keep 30 (Value.agg #[Value.iface 3 (Value.iface (List.length (Gr.fr g)) (Value.iface (Gr.fx g) (Value.agg (List.toArray (List.map (fun n => Value.int IntKind.i64 n) (Gr.fr g)))))), Value.iface 3 (Value.iface (List.length (Gr.to g)) (Value.iface (Gr.tx g) (Value.agg (List.toArray (List.map (fun n => Value.int IntKind.i64 n) (Gr.to g)))))), Value.int IntKind.i64 (Gr.number g), Value.int IntKind.i64 (Gr.life g), Value.int IntKind.i64 (Gr.at' g), Value.int IntKind.i64 (Gr.total g), Value.int IntKind.i64 (Gr.report g), Value.bool (Gr.more g), Value.bool (Gr.may g), Value.bool (Gr.wants g), Value.string (Gr.data g)]) (by kernel_rfl) (by kernel_rfl) (by kernel_rfl) ?_ (fun cf => (by kernel_rfl))
  refine WpOps.framed 31 16 [Value.agg #[Value.iface 3 (Value.iface (List.length (Gr.fr g)) (Value.iface (Gr.fx g) (Value.agg (List.toArray (List.map (fun n => Value.int IntKind.i64 n) (Gr.fr g)))))), Value.iface 3 (Value.iface (List.length (Gr.to g)) (Value.iface (Gr.tx g) (Value.agg (List.toArray (List.map (fun n => Value.int IntKind.i64 n) (Gr.to g)))))), Value.int IntKind.i64 (Gr.number g), Value.int IntKind.i64 (Gr.life g), Value.int IntKind.i64 (Gr.at' g), Value.int IntKind.i64 (Gr.total g), Value.int IntKind.i64 (Gr.report g), Value.bool (Gr.more g), Value.bool (Gr.may g), Value.bool (Gr.wants g), Value.string (Gr.data g)]] (by kernel_rfl) (by kernel_rfl) (by kernel_rfl) (by kernel_rfl) (by kernel_rfl) (fun cf => (by kernel_rfl)) ?_
  refine WpFun.of (c2) ?_
  refine WpOps.framed 32 23 [Value.agg (List.toArray (gc (toR g)))] (by kernel_rfl) (by kernel_rfl) (by kernel_rfl) (by kernel_rfl) (by kernel_rfl) (fun cf => (by kernel_rfl)) ?_
  refine WpFun.of (c5) ?_
  refine WpOps.keep 33 (Value.bool false) (by kernel_rfl) (by kernel_rfl) (by kernel_rfl) ?_ (fun cf => (by kernel_rfl))
  refine WpOps.keep 34 (Value.bool false) (by kernel_rfl) (by kernel_rfl) (by kernel_rfl) ?_ (fun cf => (by kernel_rfl))
  refine WpOps.nil ?_
  refine thenK_at ?_
  refine Wp.off (by kernel_rfl) ?_
  refine Wp.skip ?_
  refine thenK_at ?_
  refine Wp.seq ?_
  refine Wp.seq ?_
  refine Wp.text ?_
  refine WpOps.keep 35 (Value.int IntKind.i64 1) (by kernel_rfl) (by kernel_rfl) (by kernel_rfl) ?_ (fun cf => (by kernel_rfl))
  refine WpOps.keep 36 (Value.bool true) (by kernel_rfl) (by kernel_rfl) (by kernel_rfl) ?_ (fun cf => (by kernel_rfl))
  refine WpOps.nil ?_
  refine thenK_at ?_
  refine Wp.on (by kernel_rfl) ?_
  refine Wp.seq ?_
  refine Wp.text ?_
  refine WpOps.framed 37 19 [] (by kernel_rfl) (by kernel_rfl) (by kernel_rfl) (by kernel_rfl) (by kernel_rfl) (fun cf => (by kernel_rfl)) ?_
  refine WpFun.of (c6) ?_
  refine WpOps.keep 2 (Value.bool true) (by kernel_rfl) (by kernel_rfl) (by kernel_rfl) ?_ (fun cf => (by kernel_rfl))
  refine WpOps.nil ?_
  refine thenK_at ?_
  refine Wp.ret ?_
  refine thenK_ret ?_
  refine endK_retn [Value.bool true] (Value.bool true) (by kernel_rfl) (by kernel_rfl) ?_
  kernel_rfl
theorem law5_ok (g : Gr) (ok : OkGr g) (h : okG g = true) : Fun E 5 [gv g] (.bool true) := by
  refine Fun.of f5 rfl (of_decide_eq_true (by kernel_rfl)) rfl ?_
  have c1 := write21_ok g ok h
  have c2 := To16 g ok
  have c3 : Fun E 22 [gv (toR g)] (.tuple #[.string (wrt g), .int .i64 0]) := write22_ok (toR g) h
  have n1 : (!((wrt g).toList == (wrt g).toList)) = false := by rw [beq_self_eq_true]; rfl
  have c9 : Fun E 25 [gv (toR (norm g)), gv (toR g)] (.bool true) := same25 (toR g) (by have := ok.fl; show g.fr.length ≤ _; omega) (by have := ok.tl; show g.to.length ≤ _; omega)
  have c4 := valid20 g (by have := ok.fl; omega) (by have := ok.tl; omega)
  have c5 := valid23 (toR g)
  have c6 := sane19
  have c7 := read_wrt h
  have c8 := To16 (norm g) (okGr_of (g := norm g) h rfl rfl)
  have e1 : okG (toR g) = okG g := rfl
  rw [e1, h] at c5
  rw [h] at c4
  refine Wp.seq ?_
  refine Wp.text ?_
  refine WpOps.made 1 (Value.pointer (some (Addr.mk 0 0 none))) (Blk.mk 24 true [Value.iface 3 (Value.iface (List.length (Gr.fr g)) (Value.iface (Gr.fx g) (Value.agg (List.toArray (List.map (fun n => Value.int IntKind.i64 n) (Gr.fr g)))))), Value.iface 3 (Value.iface (List.length (Gr.to g)) (Value.iface (Gr.tx g) (Value.agg (List.toArray (List.map (fun n => Value.int IntKind.i64 n) (Gr.to g)))))), Value.int IntKind.i64 (Gr.number g), Value.int IntKind.i64 (Gr.life g), Value.int IntKind.i64 (Gr.at' g), Value.int IntKind.i64 (Gr.total g), Value.int IntKind.i64 (Gr.report g), Value.bool (Gr.more g), Value.bool (Gr.may g), Value.bool (Gr.wants g), Value.string (Gr.data g)]) (by kernel_rfl) (by kernel_rfl) (by kernel_rfl) ?_ (fun cf => (by kernel_rfl))
  refine WpOps.keep 2 (Value.bool false) (by kernel_rfl) (by kernel_rfl) (by kernel_rfl) ?_ (fun cf => (by kernel_rfl))
  refine WpOps.nil ?_
  refine thenK_at ?_
  refine Wp.seq ?_
  refine Wp.text ?_
  refine WpOps.keep 9 (Value.agg #[Value.iface 3 (Value.iface (List.length (Gr.fr g)) (Value.iface (Gr.fx g) (Value.agg (List.toArray (List.map (fun n => Value.int IntKind.i64 n) (Gr.fr g)))))), Value.iface 3 (Value.iface (List.length (Gr.to g)) (Value.iface (Gr.tx g) (Value.agg (List.toArray (List.map (fun n => Value.int IntKind.i64 n) (Gr.to g)))))), Value.int IntKind.i64 (Gr.number g), Value.int IntKind.i64 (Gr.life g), Value.int IntKind.i64 (Gr.at' g), Value.int IntKind.i64 (Gr.total g), Value.int IntKind.i64 (Gr.report g), Value.bool (Gr.more g), Value.bool (Gr.may g), Value.bool (Gr.wants g), Value.string (Gr.data g)]) (by kernel_rfl) (by kernel_rfl) (by kernel_rfl) ?_ (fun cf => (by kernel_rfl))
  refine WpOps.framed 10 21 [Value.agg #[Value.iface 3 (Value.iface (List.length (Gr.fr g)) (Value.iface (Gr.fx g) (Value.agg (List.toArray (List.map (fun n => Value.int IntKind.i64 n) (Gr.fr g)))))), Value.iface 3 (Value.iface (List.length (Gr.to g)) (Value.iface (Gr.tx g) (Value.agg (List.toArray (List.map (fun n => Value.int IntKind.i64 n) (Gr.to g)))))), Value.int IntKind.i64 (Gr.number g), Value.int IntKind.i64 (Gr.life g), Value.int IntKind.i64 (Gr.at' g), Value.int IntKind.i64 (Gr.total g), Value.int IntKind.i64 (Gr.report g), Value.bool (Gr.more g), Value.bool (Gr.may g), Value.bool (Gr.wants g), Value.string (Gr.data g)]] (by kernel_rfl) (by kernel_rfl) (by kernel_rfl) (by kernel_rfl) (by kernel_rfl) (fun cf => (by kernel_rfl)) ?_
  refine WpFun.of (c1) ?_
  refine WpOps.keep 8 (Value.tuple #[Value.string (wrt g), Value.int IntKind.i64 0]) (by kernel_rfl) (by kernel_rfl) (by kernel_rfl) ?_ (fun cf => (by kernel_rfl))
  refine WpOps.keep 11 (Value.string (wrt g)) (by kernel_rfl) (by kernel_rfl) (by kernel_rfl) ?_ (fun cf => (by kernel_rfl))
  refine WpOps.keep 12 (Value.int IntKind.i64 0) (by kernel_rfl) (by kernel_rfl) (by kernel_rfl) ?_ (fun cf => (by kernel_rfl))
  refine WpOps.keep 3 (Value.string (wrt g)) (by kernel_rfl) (by kernel_rfl) (by kernel_rfl) ?_ (fun cf => (by kernel_rfl))
  refine WpOps.keep 4 (Value.int IntKind.i64 0) (by kernel_rfl) (by kernel_rfl) (by kernel_rfl) ?_ (fun cf => (by kernel_rfl))
  refine WpOps.nil ?_
  refine thenK_at ?_
  refine Wp.seq ?_
  refine Wp.text ?_
  refine WpOps.keep 14 (Value.agg #[Value.iface 3 (Value.iface (List.length (Gr.fr g)) (Value.iface (Gr.fx g) (Value.agg (List.toArray (List.map (fun n => Value.int IntKind.i64 n) (Gr.fr g)))))), Value.iface 3 (Value.iface (List.length (Gr.to g)) (Value.iface (Gr.tx g) (Value.agg (List.toArray (List.map (fun n => Value.int IntKind.i64 n) (Gr.to g)))))), Value.int IntKind.i64 (Gr.number g), Value.int IntKind.i64 (Gr.life g), Value.int IntKind.i64 (Gr.at' g), Value.int IntKind.i64 (Gr.total g), Value.int IntKind.i64 (Gr.report g), Value.bool (Gr.more g), Value.bool (Gr.may g), Value.bool (Gr.wants g), Value.string (Gr.data g)]) (by kernel_rfl) (by kernel_rfl) (by kernel_rfl) ?_ (fun cf => (by kernel_rfl))
  refine WpOps.framed 15 16 [Value.agg #[Value.iface 3 (Value.iface (List.length (Gr.fr g)) (Value.iface (Gr.fx g) (Value.agg (List.toArray (List.map (fun n => Value.int IntKind.i64 n) (Gr.fr g)))))), Value.iface 3 (Value.iface (List.length (Gr.to g)) (Value.iface (Gr.tx g) (Value.agg (List.toArray (List.map (fun n => Value.int IntKind.i64 n) (Gr.to g)))))), Value.int IntKind.i64 (Gr.number g), Value.int IntKind.i64 (Gr.life g), Value.int IntKind.i64 (Gr.at' g), Value.int IntKind.i64 (Gr.total g), Value.int IntKind.i64 (Gr.report g), Value.bool (Gr.more g), Value.bool (Gr.may g), Value.bool (Gr.wants g), Value.string (Gr.data g)]] (by kernel_rfl) (by kernel_rfl) (by kernel_rfl) (by kernel_rfl) (by kernel_rfl) (fun cf => (by kernel_rfl)) ?_
  refine WpFun.of (c2) ?_
  refine WpOps.framed 16 22 [Value.agg (List.toArray (gc (toR g)))] (by kernel_rfl) (by kernel_rfl) (by kernel_rfl) (by kernel_rfl) (by kernel_rfl) (fun cf => (by kernel_rfl)) ?_
  refine WpFun.of (c3) ?_
  refine WpOps.keep 13 (Value.tuple #[Value.string (wrt g), Value.int IntKind.i64 0]) (by kernel_rfl) (by kernel_rfl) (by kernel_rfl) ?_ (fun cf => (by kernel_rfl))
  refine WpOps.keep 17 (Value.string (wrt g)) (by kernel_rfl) (by kernel_rfl) (by kernel_rfl) ?_ (fun cf => (by kernel_rfl))
  refine WpOps.keep 18 (Value.int IntKind.i64 0) (by kernel_rfl) (by kernel_rfl) (by kernel_rfl) ?_ (fun cf => (by kernel_rfl))
  refine WpOps.keep 5 (Value.string (wrt g)) (by kernel_rfl) (by kernel_rfl) (by kernel_rfl) ?_ (fun cf => (by kernel_rfl))
  refine WpOps.keep 6 (Value.int IntKind.i64 0) (by kernel_rfl) (by kernel_rfl) (by kernel_rfl) ?_ (fun cf => (by kernel_rfl))
  refine WpOps.nil ?_
  refine thenK_at ?_
  refine Wp.seq ?_
  refine Wp.seq ?_
  refine Wp.region (by kernel_rfl) ?_
  refine WpOps.keep 19 (Value.string (wrt g)) (by kernel_rfl) (by kernel_rfl) (by kernel_rfl) ?_ (fun cf => (by kernel_rfl))
  refine WpOps.keep 20 (Value.string (wrt g)) (by kernel_rfl) (by kernel_rfl) (by kernel_rfl) ?_ (fun cf => (by kernel_rfl))
  refine WpOps.keep 21 (Value.bool false) (by kernel_rfl) (by kernel_rfl) (by kernel_rfl) ?_ (fun cf => by_fact n1 ((by kernel_rfl)))
  refine WpOps.keep 22 (Value.bool false) (by kernel_rfl) (by kernel_rfl) (by kernel_rfl) ?_ (fun cf => (by kernel_rfl))
  refine WpOps.keep 23 (Value.int IntKind.i64 0) (by kernel_rfl) (by kernel_rfl) (by kernel_rfl) ?_ (fun cf => (by kernel_rfl))
  refine WpOps.keep 24 (Value.int IntKind.i64 0) (by kernel_rfl) (by kernel_rfl) (by kernel_rfl) ?_ (fun cf => (by kernel_rfl))
  refine WpOps.keep 25 (Value.bool false) (by kernel_rfl) (by kernel_rfl) (by kernel_rfl) ?_ (fun cf => (by kernel_rfl))
  refine WpOps.keep 26 (Value.bool false) (by kernel_rfl) (by kernel_rfl) (by kernel_rfl) ?_ (fun cf => (by kernel_rfl))
  refine WpOps.keep 27 (Value.bool false) (by kernel_rfl) (by kernel_rfl) (by kernel_rfl) ?_ (fun cf => (by kernel_rfl))
  refine WpOps.keep 28 (Value.agg #[Value.iface 3 (Value.iface (List.length (Gr.fr g)) (Value.iface (Gr.fx g) (Value.agg (List.toArray (List.map (fun n => Value.int IntKind.i64 n) (Gr.fr g)))))), Value.iface 3 (Value.iface (List.length (Gr.to g)) (Value.iface (Gr.tx g) (Value.agg (List.toArray (List.map (fun n => Value.int IntKind.i64 n) (Gr.to g)))))), Value.int IntKind.i64 (Gr.number g), Value.int IntKind.i64 (Gr.life g), Value.int IntKind.i64 (Gr.at' g), Value.int IntKind.i64 (Gr.total g), Value.int IntKind.i64 (Gr.report g), Value.bool (Gr.more g), Value.bool (Gr.may g), Value.bool (Gr.wants g), Value.string (Gr.data g)]) (by kernel_rfl) (by kernel_rfl) (by kernel_rfl) ?_ (fun cf => (by kernel_rfl))
  refine WpOps.framed 29 20 [Value.agg #[Value.iface 3 (Value.iface (List.length (Gr.fr g)) (Value.iface (Gr.fx g) (Value.agg (List.toArray (List.map (fun n => Value.int IntKind.i64 n) (Gr.fr g)))))), Value.iface 3 (Value.iface (List.length (Gr.to g)) (Value.iface (Gr.tx g) (Value.agg (List.toArray (List.map (fun n => Value.int IntKind.i64 n) (Gr.to g)))))), Value.int IntKind.i64 (Gr.number g), Value.int IntKind.i64 (Gr.life g), Value.int IntKind.i64 (Gr.at' g), Value.int IntKind.i64 (Gr.total g), Value.int IntKind.i64 (Gr.report g), Value.bool (Gr.more g), Value.bool (Gr.may g), Value.bool (Gr.wants g), Value.string (Gr.data g)]] (by kernel_rfl) (by kernel_rfl) (by kernel_rfl) (by kernel_rfl) (by kernel_rfl) (fun cf => (by kernel_rfl)) ?_
  refine WpFun.of (c4) ?_
  refine WpOps.keep 30 (Value.agg #[Value.iface 3 (Value.iface (List.length (Gr.fr g)) (Value.iface (Gr.fx g) (Value.agg (List.toArray (List.map (fun n => Value.int IntKind.i64 n) (Gr.fr g)))))), Value.iface 3 (Value.iface (List.length (Gr.to g)) (Value.iface (Gr.tx g) (Value.agg (List.toArray (List.map (fun n => Value.int IntKind.i64 n) (Gr.to g)))))), Value.int IntKind.i64 (Gr.number g), Value.int IntKind.i64 (Gr.life g), Value.int IntKind.i64 (Gr.at' g), Value.int IntKind.i64 (Gr.total g), Value.int IntKind.i64 (Gr.report g), Value.bool (Gr.more g), Value.bool (Gr.may g), Value.bool (Gr.wants g), Value.string (Gr.data g)]) (by kernel_rfl) (by kernel_rfl) (by kernel_rfl) ?_ (fun cf => (by kernel_rfl))
  refine WpOps.framed 31 16 [Value.agg #[Value.iface 3 (Value.iface (List.length (Gr.fr g)) (Value.iface (Gr.fx g) (Value.agg (List.toArray (List.map (fun n => Value.int IntKind.i64 n) (Gr.fr g)))))), Value.iface 3 (Value.iface (List.length (Gr.to g)) (Value.iface (Gr.tx g) (Value.agg (List.toArray (List.map (fun n => Value.int IntKind.i64 n) (Gr.to g)))))), Value.int IntKind.i64 (Gr.number g), Value.int IntKind.i64 (Gr.life g), Value.int IntKind.i64 (Gr.at' g), Value.int IntKind.i64 (Gr.total g), Value.int IntKind.i64 (Gr.report g), Value.bool (Gr.more g), Value.bool (Gr.may g), Value.bool (Gr.wants g), Value.string (Gr.data g)]] (by kernel_rfl) (by kernel_rfl) (by kernel_rfl) (by kernel_rfl) (by kernel_rfl) (fun cf => (by kernel_rfl)) ?_
  refine WpFun.of (c2) ?_
  refine WpOps.framed 32 23 [Value.agg (List.toArray (gc (toR g)))] (by kernel_rfl) (by kernel_rfl) (by kernel_rfl) (by kernel_rfl) (by kernel_rfl) (fun cf => (by kernel_rfl)) ?_
  refine WpFun.of (c5) ?_
  refine WpOps.keep 33 (Value.bool false) (by kernel_rfl) (by kernel_rfl) (by kernel_rfl) ?_ (fun cf => (by kernel_rfl))
  refine WpOps.keep 34 (Value.bool false) (by kernel_rfl) (by kernel_rfl) (by kernel_rfl) ?_ (fun cf => (by kernel_rfl))
  refine WpOps.nil ?_
  refine thenK_at ?_
  refine Wp.off (by kernel_rfl) ?_
  refine Wp.skip ?_
  refine thenK_at ?_
  refine Wp.seq ?_
  refine Wp.seq ?_
  refine Wp.text ?_
  refine WpOps.keep 35 (Value.int IntKind.i64 0) (by kernel_rfl) (by kernel_rfl) (by kernel_rfl) ?_ (fun cf => (by kernel_rfl))
  refine WpOps.keep 36 (Value.bool false) (by kernel_rfl) (by kernel_rfl) (by kernel_rfl) ?_ (fun cf => (by kernel_rfl))
  refine WpOps.nil ?_
  refine thenK_at ?_
  refine Wp.off (by kernel_rfl) ?_
  refine Wp.skip ?_
  refine thenK_at ?_
  refine Wp.seq ?_
  refine Wp.text ?_
  refine WpOps.keep 39 (Value.string (wrt g)) (by kernel_rfl) (by kernel_rfl) (by kernel_rfl) ?_ (fun cf => (by kernel_rfl))
  refine WpOps.framed 40 24 [Value.string (wrt g)] (by kernel_rfl) (by kernel_rfl) (by kernel_rfl) (by kernel_rfl) (by kernel_rfl) (fun cf => (by kernel_rfl)) ?_
  refine WpFun.of (c7) ?_
  refine WpOps.keep 38 (Value.tuple #[gv (norm g), Value.int IntKind.i64 0]) (by kernel_rfl) (by kernel_rfl) (by kernel_rfl) ?_ (fun cf => (by kernel_rfl))
  refine WpOps.keep 41 (Value.agg (List.toArray (gc (norm g)))) (by kernel_rfl) (by kernel_rfl) (by kernel_rfl) ?_ (fun cf => (by kernel_rfl))
  refine WpOps.keep 42 (Value.int IntKind.i64 0) (by kernel_rfl) (by kernel_rfl) (by kernel_rfl) ?_ (fun cf => (by kernel_rfl))
  refine WpOps.made 7 (Value.pointer (some (Addr.mk 1 0 none))) (Blk.mk 24 true [Value.slice none 0 0, Value.slice none 0 0, Value.int IntKind.i64 0, Value.int IntKind.i64 0, Value.int IntKind.i64 0, Value.int IntKind.i64 0, Value.int IntKind.i64 0, Value.bool false, Value.bool false, Value.bool false, Value.string (ByteArray.mk #[])]) (by kernel_rfl) (by kernel_rfl) (by kernel_rfl) ?_ (fun cf => (by kernel_rfl))
  refine WpOps.laid (Value.tuple #[]) (1) (Blk.mk 24 true [Value.iface 3 (Value.iface (List.length (Gr.fr (norm g))) (Value.iface (Gr.fx (norm g)) (Value.agg (List.toArray (List.map (fun n => Value.int IntKind.i64 n) (Gr.fr (norm g))))))), Value.iface 3 (Value.iface (List.length (Gr.to (norm g))) (Value.iface (Gr.tx (norm g)) (Value.agg (List.toArray (List.map (fun n => Value.int IntKind.i64 n) (Gr.to (norm g))))))), Value.int IntKind.i64 (Gr.number (norm g)), Value.int IntKind.i64 (Gr.life (norm g)), Value.int IntKind.i64 (Gr.at' (norm g)), Value.int IntKind.i64 (Gr.total (norm g)), Value.int IntKind.i64 (Gr.report (norm g)), Value.bool (Gr.more (norm g)), Value.bool (Gr.may (norm g)), Value.bool (Gr.wants (norm g)), Value.string (Gr.data (norm g))]) (by kernel_rfl) (by kernel_rfl) (by kernel_rfl) ?_ (fun cf => (by kernel_rfl))
  refine WpOps.keep 4 (Value.int IntKind.i64 0) (by kernel_rfl) (by kernel_rfl) (by kernel_rfl) ?_ (fun cf => (by kernel_rfl))
  refine WpOps.nil ?_
  refine thenK_at ?_
  refine Wp.seq ?_
  refine Wp.region (by kernel_rfl) ?_
  refine WpOps.keep 43 (Value.int IntKind.i64 0) (by kernel_rfl) (by kernel_rfl) (by kernel_rfl) ?_ (fun cf => (by kernel_rfl))
  refine WpOps.keep 44 (Value.bool true) (by kernel_rfl) (by kernel_rfl) (by kernel_rfl) ?_ (fun cf => (by kernel_rfl))
  refine WpOps.keep 45 (Value.bool true) (by kernel_rfl) (by kernel_rfl) (by kernel_rfl) ?_ (fun cf => (by kernel_rfl))
  refine WpOps.keep 46 (Value.agg #[Value.iface 3 (Value.iface (List.length (Gr.fr (norm g))) (Value.iface (Gr.fx (norm g)) (Value.agg (List.toArray (List.map (fun n => Value.int IntKind.i64 n) (Gr.fr (norm g))))))), Value.iface 3 (Value.iface (List.length (Gr.to (norm g))) (Value.iface (Gr.tx (norm g)) (Value.agg (List.toArray (List.map (fun n => Value.int IntKind.i64 n) (Gr.to (norm g))))))), Value.int IntKind.i64 (Gr.number (norm g)), Value.int IntKind.i64 (Gr.life (norm g)), Value.int IntKind.i64 (Gr.at' (norm g)), Value.int IntKind.i64 (Gr.total (norm g)), Value.int IntKind.i64 (Gr.report (norm g)), Value.bool (Gr.more (norm g)), Value.bool (Gr.may (norm g)), Value.bool (Gr.wants (norm g)), Value.string (Gr.data (norm g))]) (by kernel_rfl) (by kernel_rfl) (by kernel_rfl) ?_ (fun cf => (by kernel_rfl))
  refine WpOps.framed 47 16 [Value.agg #[Value.iface 3 (Value.iface (List.length (Gr.fr (norm g))) (Value.iface (Gr.fx (norm g)) (Value.agg (List.toArray (List.map (fun n => Value.int IntKind.i64 n) (Gr.fr (norm g))))))), Value.iface 3 (Value.iface (List.length (Gr.to (norm g))) (Value.iface (Gr.tx (norm g)) (Value.agg (List.toArray (List.map (fun n => Value.int IntKind.i64 n) (Gr.to (norm g))))))), Value.int IntKind.i64 (Gr.number (norm g)), Value.int IntKind.i64 (Gr.life (norm g)), Value.int IntKind.i64 (Gr.at' (norm g)), Value.int IntKind.i64 (Gr.total (norm g)), Value.int IntKind.i64 (Gr.report (norm g)), Value.bool (Gr.more (norm g)), Value.bool (Gr.may (norm g)), Value.bool (Gr.wants (norm g)), Value.string (Gr.data (norm g))]] (by kernel_rfl) (by kernel_rfl) (by kernel_rfl) (by kernel_rfl) (by kernel_rfl) (fun cf => (by kernel_rfl)) ?_
  refine WpFun.of (c8) ?_
  refine WpOps.keep 48 (Value.agg #[Value.iface 3 (Value.iface (List.length (Gr.fr g)) (Value.iface (Gr.fx g) (Value.agg (List.toArray (List.map (fun n => Value.int IntKind.i64 n) (Gr.fr g)))))), Value.iface 3 (Value.iface (List.length (Gr.to g)) (Value.iface (Gr.tx g) (Value.agg (List.toArray (List.map (fun n => Value.int IntKind.i64 n) (Gr.to g)))))), Value.int IntKind.i64 (Gr.number g), Value.int IntKind.i64 (Gr.life g), Value.int IntKind.i64 (Gr.at' g), Value.int IntKind.i64 (Gr.total g), Value.int IntKind.i64 (Gr.report g), Value.bool (Gr.more g), Value.bool (Gr.may g), Value.bool (Gr.wants g), Value.string (Gr.data g)]) (by kernel_rfl) (by kernel_rfl) (by kernel_rfl) ?_ (fun cf => (by kernel_rfl))
  refine WpOps.framed 49 16 [Value.agg #[Value.iface 3 (Value.iface (List.length (Gr.fr g)) (Value.iface (Gr.fx g) (Value.agg (List.toArray (List.map (fun n => Value.int IntKind.i64 n) (Gr.fr g)))))), Value.iface 3 (Value.iface (List.length (Gr.to g)) (Value.iface (Gr.tx g) (Value.agg (List.toArray (List.map (fun n => Value.int IntKind.i64 n) (Gr.to g)))))), Value.int IntKind.i64 (Gr.number g), Value.int IntKind.i64 (Gr.life g), Value.int IntKind.i64 (Gr.at' g), Value.int IntKind.i64 (Gr.total g), Value.int IntKind.i64 (Gr.report g), Value.bool (Gr.more g), Value.bool (Gr.may g), Value.bool (Gr.wants g), Value.string (Gr.data g)]] (by kernel_rfl) (by kernel_rfl) (by kernel_rfl) (by kernel_rfl) (by kernel_rfl) (fun cf => (by kernel_rfl)) ?_
  refine WpFun.of (c2) ?_
  refine WpOps.framed 50 25 [Value.agg (List.toArray (gc (toR (norm g)))), Value.agg (List.toArray (gc (toR g)))] (by kernel_rfl) (by kernel_rfl) (by kernel_rfl) (by kernel_rfl) (by kernel_rfl) (fun cf => (by kernel_rfl)) ?_
  refine WpFun.of (c9) ?_
  refine WpOps.keep 51 (Value.bool true) (by kernel_rfl) (by kernel_rfl) (by kernel_rfl) ?_ (fun cf => (by kernel_rfl))
  refine WpOps.keep 52 (Value.bool true) (by kernel_rfl) (by kernel_rfl) (by kernel_rfl) ?_ (fun cf => (by kernel_rfl))
  refine WpOps.framed 53 19 [] (by kernel_rfl) (by kernel_rfl) (by kernel_rfl) (by kernel_rfl) (by kernel_rfl) (fun cf => (by kernel_rfl)) ?_
  refine WpFun.of (c6) ?_
  refine WpOps.keep 54 (Value.bool true) (by kernel_rfl) (by kernel_rfl) (by kernel_rfl) ?_ (fun cf => (by kernel_rfl))
  refine WpOps.keep 2 (Value.bool true) (by kernel_rfl) (by kernel_rfl) (by kernel_rfl) ?_ (fun cf => (by kernel_rfl))
  refine WpOps.nil ?_
  refine thenK_at ?_
  refine Wp.ret ?_
  refine endK_retn [Value.bool true] (Value.bool true) (by kernel_rfl) (by kernel_rfl) ?_
  kernel_rfl
theorem law5 (g : Gr) (ok : OkGr g) : Fun E 5 [gv g] (.bool true) := by
  cases h : okG g with
  | true => exact law5_ok g ok h
  | false => exact law5_bad g ok h

theorem f6 : E.funcs 6 = some Try.f6 := by kernel_rfl
theorem law6_bad (b : ByteArray) (e : Int) (c1 : Fun E 24 [.string b] (.tuple #[gv zeroG, .int .i64 e])) (c2 : Fun E 26 [.string b] (.tuple #[gv zeroG, .int .i64 e])) (he : (e != 0) = true) : Fun E 6 [.string b] (.bool true) := by
  refine Fun.of f6 rfl (of_decide_eq_true (by kernel_rfl)) rfl ?_
  have n1 : (e != e) = false := by simp
  have c3 : Fun E 16 [gv zeroG] (gv (toR zeroG)) := To16 zeroG ⟨fun _ => rfl, fun _ => rfl, by decide, by decide⟩
  have c4 : Fun E 25 [gv (toR zeroG), gv zeroG] (.bool true) := Fun.closed 60 _ (by kernel_rfl)
  have c6 := sane19
  refine Wp.seq ?_
  refine Wp.text ?_
  refine WpOps.keep 2 (Value.bool false) (by kernel_rfl) (by kernel_rfl) (by kernel_rfl) ?_ (fun cf => (by kernel_rfl))
  refine WpOps.nil ?_
  refine thenK_at ?_
  refine Wp.seq ?_
  refine Wp.text ?_
  refine WpOps.keep 9 (Value.string b) (by kernel_rfl) (by kernel_rfl) (by kernel_rfl) ?_ (fun cf => (by kernel_rfl))
  refine WpOps.framed 10 24 [Value.string b] (by kernel_rfl) (by kernel_rfl) (by kernel_rfl) (by kernel_rfl) (by kernel_rfl) (fun cf => (by kernel_rfl)) ?_
  refine WpFun.of (c1) ?_
  refine WpOps.keep 8 (Value.tuple #[gv zeroG, Value.int IntKind.i64 e]) (by kernel_rfl) (by kernel_rfl) (by kernel_rfl) ?_ (fun cf => (by kernel_rfl))
  refine WpOps.keep 11 (Value.agg #[Value.iface 3 (Value.iface (List.length (Gr.fr zeroG)) (Value.iface (Gr.fx zeroG) (Value.agg (List.toArray (List.map (fun n => Value.int IntKind.i64 n) (Gr.fr zeroG)))))), Value.iface 3 (Value.iface (List.length (Gr.to zeroG)) (Value.iface (Gr.tx zeroG) (Value.agg (List.toArray (List.map (fun n => Value.int IntKind.i64 n) (Gr.to zeroG)))))), Value.int IntKind.i64 (Gr.number zeroG), Value.int IntKind.i64 (Gr.life zeroG), Value.int IntKind.i64 (Gr.at' zeroG), Value.int IntKind.i64 (Gr.total zeroG), Value.int IntKind.i64 (Gr.report zeroG), Value.bool (Gr.more zeroG), Value.bool (Gr.may zeroG), Value.bool (Gr.wants zeroG), Value.string (Gr.data zeroG)]) (by kernel_rfl) (by kernel_rfl) (by kernel_rfl) ?_ (fun cf => (by kernel_rfl))
  refine WpOps.keep 12 (Value.int IntKind.i64 e) (by kernel_rfl) (by kernel_rfl) (by kernel_rfl) ?_ (fun cf => (by kernel_rfl))
  refine WpOps.made 3 (Value.pointer (some (Addr.mk 0 0 none))) (Blk.mk 24 true [Value.slice none 0 0, Value.slice none 0 0, Value.int IntKind.i64 0, Value.int IntKind.i64 0, Value.int IntKind.i64 0, Value.int IntKind.i64 0, Value.int IntKind.i64 0, Value.bool false, Value.bool false, Value.bool false, Value.string (ByteArray.mk #[])]) (by kernel_rfl) (by kernel_rfl) (by kernel_rfl) ?_ (fun cf => (by kernel_rfl))
  refine WpOps.laid (Value.tuple #[]) (0) (Blk.mk 24 true [Value.iface 3 (Value.iface (List.length (Gr.fr zeroG)) (Value.iface (Gr.fx zeroG) (Value.agg (List.toArray (List.map (fun n => Value.int IntKind.i64 n) (Gr.fr zeroG)))))), Value.iface 3 (Value.iface (List.length (Gr.to zeroG)) (Value.iface (Gr.tx zeroG) (Value.agg (List.toArray (List.map (fun n => Value.int IntKind.i64 n) (Gr.to zeroG)))))), Value.int IntKind.i64 (Gr.number zeroG), Value.int IntKind.i64 (Gr.life zeroG), Value.int IntKind.i64 (Gr.at' zeroG), Value.int IntKind.i64 (Gr.total zeroG), Value.int IntKind.i64 (Gr.report zeroG), Value.bool (Gr.more zeroG), Value.bool (Gr.may zeroG), Value.bool (Gr.wants zeroG), Value.string (Gr.data zeroG)]) (by kernel_rfl) (by kernel_rfl) (by kernel_rfl) ?_ (fun cf => (by kernel_rfl))
  refine WpOps.keep 4 (Value.int IntKind.i64 e) (by kernel_rfl) (by kernel_rfl) (by kernel_rfl) ?_ (fun cf => (by kernel_rfl))
  refine WpOps.nil ?_
  refine thenK_at ?_
  refine Wp.seq ?_
  refine Wp.text ?_
  refine WpOps.keep 14 (Value.string b) (by kernel_rfl) (by kernel_rfl) (by kernel_rfl) ?_ (fun cf => (by kernel_rfl))
  refine WpOps.framed 15 26 [Value.string b] (by kernel_rfl) (by kernel_rfl) (by kernel_rfl) (by kernel_rfl) (by kernel_rfl) (fun cf => (by kernel_rfl)) ?_
  refine WpFun.of (c2) ?_
  refine WpOps.keep 13 (Value.tuple #[gv zeroG, Value.int IntKind.i64 e]) (by kernel_rfl) (by kernel_rfl) (by kernel_rfl) ?_ (fun cf => (by kernel_rfl))
  refine WpOps.keep 16 (Value.agg #[Value.iface 3 (Value.iface (List.length (Gr.fr zeroG)) (Value.iface (Gr.fx zeroG) (Value.agg (List.toArray (List.map (fun n => Value.int IntKind.i64 n) (Gr.fr zeroG)))))), Value.iface 3 (Value.iface (List.length (Gr.to zeroG)) (Value.iface (Gr.tx zeroG) (Value.agg (List.toArray (List.map (fun n => Value.int IntKind.i64 n) (Gr.to zeroG)))))), Value.int IntKind.i64 (Gr.number zeroG), Value.int IntKind.i64 (Gr.life zeroG), Value.int IntKind.i64 (Gr.at' zeroG), Value.int IntKind.i64 (Gr.total zeroG), Value.int IntKind.i64 (Gr.report zeroG), Value.bool (Gr.more zeroG), Value.bool (Gr.may zeroG), Value.bool (Gr.wants zeroG), Value.string (Gr.data zeroG)]) (by kernel_rfl) (by kernel_rfl) (by kernel_rfl) ?_ (fun cf => (by kernel_rfl))
  refine WpOps.keep 17 (Value.int IntKind.i64 e) (by kernel_rfl) (by kernel_rfl) (by kernel_rfl) ?_ (fun cf => (by kernel_rfl))
  refine WpOps.made 5 (Value.pointer (some (Addr.mk 1 0 none))) (Blk.mk 32 true [Value.slice none 0 0, Value.slice none 0 0, Value.int IntKind.i64 0, Value.int IntKind.i64 0, Value.int IntKind.i64 0, Value.int IntKind.i64 0, Value.int IntKind.i64 0, Value.bool false, Value.bool false, Value.bool false, Value.string (ByteArray.mk #[])]) (by kernel_rfl) (by kernel_rfl) (by kernel_rfl) ?_ (fun cf => (by kernel_rfl))
  refine WpOps.laid (Value.tuple #[]) (1) (Blk.mk 32 true [Value.iface 3 (Value.iface (List.length (Gr.fr zeroG)) (Value.iface (Gr.fx zeroG) (Value.agg (List.toArray (List.map (fun n => Value.int IntKind.i64 n) (Gr.fr zeroG)))))), Value.iface 3 (Value.iface (List.length (Gr.to zeroG)) (Value.iface (Gr.tx zeroG) (Value.agg (List.toArray (List.map (fun n => Value.int IntKind.i64 n) (Gr.to zeroG)))))), Value.int IntKind.i64 (Gr.number zeroG), Value.int IntKind.i64 (Gr.life zeroG), Value.int IntKind.i64 (Gr.at' zeroG), Value.int IntKind.i64 (Gr.total zeroG), Value.int IntKind.i64 (Gr.report zeroG), Value.bool (Gr.more zeroG), Value.bool (Gr.may zeroG), Value.bool (Gr.wants zeroG), Value.string (Gr.data zeroG)]) (by kernel_rfl) (by kernel_rfl) (by kernel_rfl) ?_ (fun cf => (by kernel_rfl))
  refine WpOps.keep 6 (Value.int IntKind.i64 e) (by kernel_rfl) (by kernel_rfl) (by kernel_rfl) ?_ (fun cf => (by kernel_rfl))
  refine WpOps.nil ?_
  refine thenK_at ?_
  refine Wp.seq ?_
  refine Wp.seq ?_
  refine Wp.region (by kernel_rfl) ?_
  refine WpOps.keep 18 (Value.int IntKind.i64 e) (by kernel_rfl) (by kernel_rfl) (by kernel_rfl) ?_ (fun cf => (by kernel_rfl))
  refine WpOps.keep 19 (Value.int IntKind.i64 e) (by kernel_rfl) (by kernel_rfl) (by kernel_rfl) ?_ (fun cf => (by kernel_rfl))
  refine WpOps.keep 20 (Value.bool false) (by kernel_rfl) (by kernel_rfl) (by kernel_rfl) ?_ (fun cf => by_fact n1 ((by kernel_rfl)))
  refine WpOps.keep 21 (Value.bool false) (by kernel_rfl) (by kernel_rfl) (by kernel_rfl) ?_ (fun cf => (by kernel_rfl))
  refine WpOps.keep 22 (Value.agg #[Value.iface 3 (Value.iface (List.length (Gr.fr zeroG)) (Value.iface (Gr.fx zeroG) (Value.agg (List.toArray (List.map (fun n => Value.int IntKind.i64 n) (Gr.fr zeroG)))))), Value.iface 3 (Value.iface (List.length (Gr.to zeroG)) (Value.iface (Gr.tx zeroG) (Value.agg (List.toArray (List.map (fun n => Value.int IntKind.i64 n) (Gr.to zeroG)))))), Value.int IntKind.i64 (Gr.number zeroG), Value.int IntKind.i64 (Gr.life zeroG), Value.int IntKind.i64 (Gr.at' zeroG), Value.int IntKind.i64 (Gr.total zeroG), Value.int IntKind.i64 (Gr.report zeroG), Value.bool (Gr.more zeroG), Value.bool (Gr.may zeroG), Value.bool (Gr.wants zeroG), Value.string (Gr.data zeroG)]) (by kernel_rfl) (by kernel_rfl) (by kernel_rfl) ?_ (fun cf => (by kernel_rfl))
  refine WpOps.framed 23 16 [Value.agg #[Value.iface 3 (Value.iface (List.length (Gr.fr zeroG)) (Value.iface (Gr.fx zeroG) (Value.agg (List.toArray (List.map (fun n => Value.int IntKind.i64 n) (Gr.fr zeroG)))))), Value.iface 3 (Value.iface (List.length (Gr.to zeroG)) (Value.iface (Gr.tx zeroG) (Value.agg (List.toArray (List.map (fun n => Value.int IntKind.i64 n) (Gr.to zeroG)))))), Value.int IntKind.i64 (Gr.number zeroG), Value.int IntKind.i64 (Gr.life zeroG), Value.int IntKind.i64 (Gr.at' zeroG), Value.int IntKind.i64 (Gr.total zeroG), Value.int IntKind.i64 (Gr.report zeroG), Value.bool (Gr.more zeroG), Value.bool (Gr.may zeroG), Value.bool (Gr.wants zeroG), Value.string (Gr.data zeroG)]] (by kernel_rfl) (by kernel_rfl) (by kernel_rfl) (by kernel_rfl) (by kernel_rfl) (fun cf => (by kernel_rfl)) ?_
  refine WpFun.of (c3) ?_
  refine WpOps.keep 24 (Value.agg #[Value.iface 3 (Value.iface (List.length (Gr.fr zeroG)) (Value.iface (Gr.fx zeroG) (Value.agg (List.toArray (List.map (fun n => Value.int IntKind.i64 n) (Gr.fr zeroG)))))), Value.iface 3 (Value.iface (List.length (Gr.to zeroG)) (Value.iface (Gr.tx zeroG) (Value.agg (List.toArray (List.map (fun n => Value.int IntKind.i64 n) (Gr.to zeroG)))))), Value.int IntKind.i64 (Gr.number zeroG), Value.int IntKind.i64 (Gr.life zeroG), Value.int IntKind.i64 (Gr.at' zeroG), Value.int IntKind.i64 (Gr.total zeroG), Value.int IntKind.i64 (Gr.report zeroG), Value.bool (Gr.more zeroG), Value.bool (Gr.may zeroG), Value.bool (Gr.wants zeroG), Value.string (Gr.data zeroG)]) (by kernel_rfl) (by kernel_rfl) (by kernel_rfl) ?_ (fun cf => (by kernel_rfl))
  refine WpOps.framed 25 25 [Value.agg (List.toArray (gc (toR zeroG))), Value.agg #[Value.iface 3 (Value.iface (List.length (Gr.fr zeroG)) (Value.iface (Gr.fx zeroG) (Value.agg (List.toArray (List.map (fun n => Value.int IntKind.i64 n) (Gr.fr zeroG)))))), Value.iface 3 (Value.iface (List.length (Gr.to zeroG)) (Value.iface (Gr.tx zeroG) (Value.agg (List.toArray (List.map (fun n => Value.int IntKind.i64 n) (Gr.to zeroG)))))), Value.int IntKind.i64 (Gr.number zeroG), Value.int IntKind.i64 (Gr.life zeroG), Value.int IntKind.i64 (Gr.at' zeroG), Value.int IntKind.i64 (Gr.total zeroG), Value.int IntKind.i64 (Gr.report zeroG), Value.bool (Gr.more zeroG), Value.bool (Gr.may zeroG), Value.bool (Gr.wants zeroG), Value.string (Gr.data zeroG)]] (by kernel_rfl) (by kernel_rfl) (by kernel_rfl) (by kernel_rfl) (by kernel_rfl) (fun cf => (by kernel_rfl)) ?_
  refine WpFun.of (c4) ?_
  refine WpOps.keep 26 (Value.bool false) (by kernel_rfl) (by kernel_rfl) (by kernel_rfl) ?_ (fun cf => (by kernel_rfl))
  refine WpOps.keep 27 (Value.bool false) (by kernel_rfl) (by kernel_rfl) (by kernel_rfl) ?_ (fun cf => (by kernel_rfl))
  refine WpOps.nil ?_
  refine thenK_at ?_
  refine Wp.off (by kernel_rfl) ?_
  refine Wp.skip ?_
  refine thenK_at ?_
  refine Wp.seq ?_
  refine Wp.seq ?_
  refine Wp.text ?_
  refine WpOps.keep 28 (Value.int IntKind.i64 e) (by kernel_rfl) (by kernel_rfl) (by kernel_rfl) ?_ (fun cf => (by kernel_rfl))
  refine WpOps.keep 29 (Value.bool true) (by kernel_rfl) (by kernel_rfl) (by kernel_rfl) ?_ (fun cf => by_fact he ((by kernel_rfl)))
  refine WpOps.nil ?_
  refine thenK_at ?_
  refine Wp.on (by kernel_rfl) ?_
  refine Wp.seq ?_
  refine Wp.text ?_
  refine WpOps.framed 30 19 [] (by kernel_rfl) (by kernel_rfl) (by kernel_rfl) (by kernel_rfl) (by kernel_rfl) (fun cf => (by kernel_rfl)) ?_
  refine WpFun.of (c6) ?_
  refine WpOps.keep 2 (Value.bool true) (by kernel_rfl) (by kernel_rfl) (by kernel_rfl) ?_ (fun cf => (by kernel_rfl))
  refine WpOps.nil ?_
  refine thenK_at ?_
  refine Wp.ret ?_
  refine thenK_ret ?_
  refine endK_retn [Value.bool true] (Value.bool true) (by kernel_rfl) (by kernel_rfl) ?_
  kernel_rfl
theorem law6_ok (g : Gr) (h : okG g = true) : Fun E 6 [.string (wrt g)] (.bool true) := by
  refine Fun.of f6 rfl (of_decide_eq_true (by kernel_rfl)) rfl ?_
  have f := fits h
  have c1 := read_wrt h
  have c2 : Fun E 26 [.string (wrt g)] (.tuple #[gv (norm g), .int .i64 0]) := read26_wrt h
  have okn := okGr_of (g := norm g) h rfl rfl
  have c3 : Fun E 16 [gv (norm g)] (gv (norm g)) := To16 (norm g) okn
  have c4 : Fun E 25 [gv (norm g), gv (norm g)] (.bool true) := same25 (norm g) (by have := okn.fl; omega) (by have := okn.tl; omega)
  have c5 : Fun E 21 [gv (norm g)] (.tuple #[.string (wrt g), .int .i64 0]) := write21_ok (norm g) okn h
  have n1 : ((wrt g).toList == (wrt g).toList) = true := beq_self_eq_true _
  have c6 := sane19
  refine Wp.seq ?_
  refine Wp.text ?_
  refine WpOps.keep 2 (Value.bool false) (by kernel_rfl) (by kernel_rfl) (by kernel_rfl) ?_ (fun cf => (by kernel_rfl))
  refine WpOps.nil ?_
  refine thenK_at ?_
  refine Wp.seq ?_
  refine Wp.text ?_
  refine WpOps.keep 9 (Value.string (wrt g)) (by kernel_rfl) (by kernel_rfl) (by kernel_rfl) ?_ (fun cf => (by kernel_rfl))
  refine WpOps.framed 10 24 [Value.string (wrt g)] (by kernel_rfl) (by kernel_rfl) (by kernel_rfl) (by kernel_rfl) (by kernel_rfl) (fun cf => (by kernel_rfl)) ?_
  refine WpFun.of (c1) ?_
  refine WpOps.keep 8 (Value.tuple #[gv (norm g), Value.int IntKind.i64 0]) (by kernel_rfl) (by kernel_rfl) (by kernel_rfl) ?_ (fun cf => (by kernel_rfl))
  refine WpOps.keep 11 (Value.agg (List.toArray (gc (norm g)))) (by kernel_rfl) (by kernel_rfl) (by kernel_rfl) ?_ (fun cf => (by kernel_rfl))
  refine WpOps.keep 12 (Value.int IntKind.i64 0) (by kernel_rfl) (by kernel_rfl) (by kernel_rfl) ?_ (fun cf => (by kernel_rfl))
  refine WpOps.made 3 (Value.pointer (some (Addr.mk 0 0 none))) (Blk.mk 24 true [Value.slice none 0 0, Value.slice none 0 0, Value.int IntKind.i64 0, Value.int IntKind.i64 0, Value.int IntKind.i64 0, Value.int IntKind.i64 0, Value.int IntKind.i64 0, Value.bool false, Value.bool false, Value.bool false, Value.string (ByteArray.mk #[])]) (by kernel_rfl) (by kernel_rfl) (by kernel_rfl) ?_ (fun cf => (by kernel_rfl))
  refine WpOps.laid (Value.tuple #[]) (0) (Blk.mk 24 true [Value.iface 3 (Value.iface (List.length (Gr.fr (norm g))) (Value.iface (Gr.fx (norm g)) (Value.agg (List.toArray (List.map (fun n => Value.int IntKind.i64 n) (Gr.fr (norm g))))))), Value.iface 3 (Value.iface (List.length (Gr.to (norm g))) (Value.iface (Gr.tx (norm g)) (Value.agg (List.toArray (List.map (fun n => Value.int IntKind.i64 n) (Gr.to (norm g))))))), Value.int IntKind.i64 (Gr.number (norm g)), Value.int IntKind.i64 (Gr.life (norm g)), Value.int IntKind.i64 (Gr.at' (norm g)), Value.int IntKind.i64 (Gr.total (norm g)), Value.int IntKind.i64 (Gr.report (norm g)), Value.bool (Gr.more (norm g)), Value.bool (Gr.may (norm g)), Value.bool (Gr.wants (norm g)), Value.string (Gr.data (norm g))]) (by kernel_rfl) (by kernel_rfl) (by kernel_rfl) ?_ (fun cf => (by kernel_rfl))
  refine WpOps.keep 4 (Value.int IntKind.i64 0) (by kernel_rfl) (by kernel_rfl) (by kernel_rfl) ?_ (fun cf => (by kernel_rfl))
  refine WpOps.nil ?_
  refine thenK_at ?_
  refine Wp.seq ?_
  refine Wp.text ?_
  refine WpOps.keep 14 (Value.string (wrt g)) (by kernel_rfl) (by kernel_rfl) (by kernel_rfl) ?_ (fun cf => (by kernel_rfl))
  refine WpOps.framed 15 26 [Value.string (wrt g)] (by kernel_rfl) (by kernel_rfl) (by kernel_rfl) (by kernel_rfl) (by kernel_rfl) (fun cf => (by kernel_rfl)) ?_
  refine WpFun.of (c2) ?_
  refine WpOps.keep 13 (Value.tuple #[gv (norm g), Value.int IntKind.i64 0]) (by kernel_rfl) (by kernel_rfl) (by kernel_rfl) ?_ (fun cf => (by kernel_rfl))
  refine WpOps.keep 16 (Value.agg (List.toArray (gc (norm g)))) (by kernel_rfl) (by kernel_rfl) (by kernel_rfl) ?_ (fun cf => (by kernel_rfl))
  refine WpOps.keep 17 (Value.int IntKind.i64 0) (by kernel_rfl) (by kernel_rfl) (by kernel_rfl) ?_ (fun cf => (by kernel_rfl))
  refine WpOps.made 5 (Value.pointer (some (Addr.mk 1 0 none))) (Blk.mk 32 true [Value.slice none 0 0, Value.slice none 0 0, Value.int IntKind.i64 0, Value.int IntKind.i64 0, Value.int IntKind.i64 0, Value.int IntKind.i64 0, Value.int IntKind.i64 0, Value.bool false, Value.bool false, Value.bool false, Value.string (ByteArray.mk #[])]) (by kernel_rfl) (by kernel_rfl) (by kernel_rfl) ?_ (fun cf => (by kernel_rfl))
  refine WpOps.laid (Value.tuple #[]) (1) (Blk.mk 32 true [Value.iface 3 (Value.iface (List.length (Gr.fr (norm g))) (Value.iface (Gr.fx (norm g)) (Value.agg (List.toArray (List.map (fun n => Value.int IntKind.i64 n) (Gr.fr (norm g))))))), Value.iface 3 (Value.iface (List.length (Gr.to (norm g))) (Value.iface (Gr.tx (norm g)) (Value.agg (List.toArray (List.map (fun n => Value.int IntKind.i64 n) (Gr.to (norm g))))))), Value.int IntKind.i64 (Gr.number (norm g)), Value.int IntKind.i64 (Gr.life (norm g)), Value.int IntKind.i64 (Gr.at' (norm g)), Value.int IntKind.i64 (Gr.total (norm g)), Value.int IntKind.i64 (Gr.report (norm g)), Value.bool (Gr.more (norm g)), Value.bool (Gr.may (norm g)), Value.bool (Gr.wants (norm g)), Value.string (Gr.data (norm g))]) (by kernel_rfl) (by kernel_rfl) (by kernel_rfl) ?_ (fun cf => (by kernel_rfl))
  refine WpOps.keep 6 (Value.int IntKind.i64 0) (by kernel_rfl) (by kernel_rfl) (by kernel_rfl) ?_ (fun cf => (by kernel_rfl))
  refine WpOps.nil ?_
  refine thenK_at ?_
  refine Wp.seq ?_
  refine Wp.seq ?_
  refine Wp.region (by kernel_rfl) ?_
  refine WpOps.keep 18 (Value.int IntKind.i64 0) (by kernel_rfl) (by kernel_rfl) (by kernel_rfl) ?_ (fun cf => (by kernel_rfl))
  refine WpOps.keep 19 (Value.int IntKind.i64 0) (by kernel_rfl) (by kernel_rfl) (by kernel_rfl) ?_ (fun cf => (by kernel_rfl))
  refine WpOps.keep 20 (Value.bool false) (by kernel_rfl) (by kernel_rfl) (by kernel_rfl) ?_ (fun cf => (by kernel_rfl))
  refine WpOps.keep 21 (Value.bool false) (by kernel_rfl) (by kernel_rfl) (by kernel_rfl) ?_ (fun cf => (by kernel_rfl))
  refine WpOps.keep 22 (Value.agg #[Value.iface 3 (Value.iface (List.length (Gr.fr (norm g))) (Value.iface (Gr.fx (norm g)) (Value.agg (List.toArray (List.map (fun n => Value.int IntKind.i64 n) (Gr.fr (norm g))))))), Value.iface 3 (Value.iface (List.length (Gr.to (norm g))) (Value.iface (Gr.tx (norm g)) (Value.agg (List.toArray (List.map (fun n => Value.int IntKind.i64 n) (Gr.to (norm g))))))), Value.int IntKind.i64 (Gr.number (norm g)), Value.int IntKind.i64 (Gr.life (norm g)), Value.int IntKind.i64 (Gr.at' (norm g)), Value.int IntKind.i64 (Gr.total (norm g)), Value.int IntKind.i64 (Gr.report (norm g)), Value.bool (Gr.more (norm g)), Value.bool (Gr.may (norm g)), Value.bool (Gr.wants (norm g)), Value.string (Gr.data (norm g))]) (by kernel_rfl) (by kernel_rfl) (by kernel_rfl) ?_ (fun cf => (by kernel_rfl))
  refine WpOps.framed 23 16 [Value.agg #[Value.iface 3 (Value.iface (List.length (Gr.fr (norm g))) (Value.iface (Gr.fx (norm g)) (Value.agg (List.toArray (List.map (fun n => Value.int IntKind.i64 n) (Gr.fr (norm g))))))), Value.iface 3 (Value.iface (List.length (Gr.to (norm g))) (Value.iface (Gr.tx (norm g)) (Value.agg (List.toArray (List.map (fun n => Value.int IntKind.i64 n) (Gr.to (norm g))))))), Value.int IntKind.i64 (Gr.number (norm g)), Value.int IntKind.i64 (Gr.life (norm g)), Value.int IntKind.i64 (Gr.at' (norm g)), Value.int IntKind.i64 (Gr.total (norm g)), Value.int IntKind.i64 (Gr.report (norm g)), Value.bool (Gr.more (norm g)), Value.bool (Gr.may (norm g)), Value.bool (Gr.wants (norm g)), Value.string (Gr.data (norm g))]] (by kernel_rfl) (by kernel_rfl) (by kernel_rfl) (by kernel_rfl) (by kernel_rfl) (fun cf => (by kernel_rfl)) ?_
  refine WpFun.of (c3) ?_
  refine WpOps.keep 24 (Value.agg #[Value.iface 3 (Value.iface (List.length (Gr.fr (norm g))) (Value.iface (Gr.fx (norm g)) (Value.agg (List.toArray (List.map (fun n => Value.int IntKind.i64 n) (Gr.fr (norm g))))))), Value.iface 3 (Value.iface (List.length (Gr.to (norm g))) (Value.iface (Gr.tx (norm g)) (Value.agg (List.toArray (List.map (fun n => Value.int IntKind.i64 n) (Gr.to (norm g))))))), Value.int IntKind.i64 (Gr.number (norm g)), Value.int IntKind.i64 (Gr.life (norm g)), Value.int IntKind.i64 (Gr.at' (norm g)), Value.int IntKind.i64 (Gr.total (norm g)), Value.int IntKind.i64 (Gr.report (norm g)), Value.bool (Gr.more (norm g)), Value.bool (Gr.may (norm g)), Value.bool (Gr.wants (norm g)), Value.string (Gr.data (norm g))]) (by kernel_rfl) (by kernel_rfl) (by kernel_rfl) ?_ (fun cf => (by kernel_rfl))
  refine WpOps.framed 25 25 [Value.agg (List.toArray (gc (norm g))), Value.agg #[Value.iface 3 (Value.iface (List.length (Gr.fr (norm g))) (Value.iface (Gr.fx (norm g)) (Value.agg (List.toArray (List.map (fun n => Value.int IntKind.i64 n) (Gr.fr (norm g))))))), Value.iface 3 (Value.iface (List.length (Gr.to (norm g))) (Value.iface (Gr.tx (norm g)) (Value.agg (List.toArray (List.map (fun n => Value.int IntKind.i64 n) (Gr.to (norm g))))))), Value.int IntKind.i64 (Gr.number (norm g)), Value.int IntKind.i64 (Gr.life (norm g)), Value.int IntKind.i64 (Gr.at' (norm g)), Value.int IntKind.i64 (Gr.total (norm g)), Value.int IntKind.i64 (Gr.report (norm g)), Value.bool (Gr.more (norm g)), Value.bool (Gr.may (norm g)), Value.bool (Gr.wants (norm g)), Value.string (Gr.data (norm g))]] (by kernel_rfl) (by kernel_rfl) (by kernel_rfl) (by kernel_rfl) (by kernel_rfl) (fun cf => (by kernel_rfl)) ?_
  refine WpFun.of (c4) ?_
  refine WpOps.keep 26 (Value.bool false) (by kernel_rfl) (by kernel_rfl) (by kernel_rfl) ?_ (fun cf => (by kernel_rfl))
  refine WpOps.keep 27 (Value.bool false) (by kernel_rfl) (by kernel_rfl) (by kernel_rfl) ?_ (fun cf => (by kernel_rfl))
  refine WpOps.nil ?_
  refine thenK_at ?_
  refine Wp.off (by kernel_rfl) ?_
  refine Wp.skip ?_
  refine thenK_at ?_
  refine Wp.seq ?_
  refine Wp.seq ?_
  refine Wp.text ?_
  refine WpOps.keep 28 (Value.int IntKind.i64 0) (by kernel_rfl) (by kernel_rfl) (by kernel_rfl) ?_ (fun cf => (by kernel_rfl))
  refine WpOps.keep 29 (Value.bool false) (by kernel_rfl) (by kernel_rfl) (by kernel_rfl) ?_ (fun cf => (by kernel_rfl))
  refine WpOps.nil ?_
  refine thenK_at ?_
  refine Wp.off (by kernel_rfl) ?_
  refine Wp.skip ?_
  refine thenK_at ?_
  refine Wp.seq ?_
  refine Wp.text ?_
  refine WpOps.keep 32 (Value.agg #[Value.iface 3 (Value.iface (List.length (Gr.fr (norm g))) (Value.iface (Gr.fx (norm g)) (Value.agg (List.toArray (List.map (fun n => Value.int IntKind.i64 n) (Gr.fr (norm g))))))), Value.iface 3 (Value.iface (List.length (Gr.to (norm g))) (Value.iface (Gr.tx (norm g)) (Value.agg (List.toArray (List.map (fun n => Value.int IntKind.i64 n) (Gr.to (norm g))))))), Value.int IntKind.i64 (Gr.number (norm g)), Value.int IntKind.i64 (Gr.life (norm g)), Value.int IntKind.i64 (Gr.at' (norm g)), Value.int IntKind.i64 (Gr.total (norm g)), Value.int IntKind.i64 (Gr.report (norm g)), Value.bool (Gr.more (norm g)), Value.bool (Gr.may (norm g)), Value.bool (Gr.wants (norm g)), Value.string (Gr.data (norm g))]) (by kernel_rfl) (by kernel_rfl) (by kernel_rfl) ?_ (fun cf => (by kernel_rfl))
  refine WpOps.framed 33 21 [Value.agg #[Value.iface 3 (Value.iface (List.length (Gr.fr (norm g))) (Value.iface (Gr.fx (norm g)) (Value.agg (List.toArray (List.map (fun n => Value.int IntKind.i64 n) (Gr.fr (norm g))))))), Value.iface 3 (Value.iface (List.length (Gr.to (norm g))) (Value.iface (Gr.tx (norm g)) (Value.agg (List.toArray (List.map (fun n => Value.int IntKind.i64 n) (Gr.to (norm g))))))), Value.int IntKind.i64 (Gr.number (norm g)), Value.int IntKind.i64 (Gr.life (norm g)), Value.int IntKind.i64 (Gr.at' (norm g)), Value.int IntKind.i64 (Gr.total (norm g)), Value.int IntKind.i64 (Gr.report (norm g)), Value.bool (Gr.more (norm g)), Value.bool (Gr.may (norm g)), Value.bool (Gr.wants (norm g)), Value.string (Gr.data (norm g))]] (by kernel_rfl) (by kernel_rfl) (by kernel_rfl) (by kernel_rfl) (by kernel_rfl) (fun cf => (by kernel_rfl)) ?_
  refine WpFun.of (c5) ?_
  refine WpOps.keep 31 (Value.tuple #[Value.string (wrt g), Value.int IntKind.i64 0]) (by kernel_rfl) (by kernel_rfl) (by kernel_rfl) ?_ (fun cf => (by kernel_rfl))
  refine WpOps.keep 34 (Value.string (wrt g)) (by kernel_rfl) (by kernel_rfl) (by kernel_rfl) ?_ (fun cf => (by kernel_rfl))
  refine WpOps.keep 35 (Value.int IntKind.i64 0) (by kernel_rfl) (by kernel_rfl) (by kernel_rfl) ?_ (fun cf => (by kernel_rfl))
  refine WpOps.keep 7 (Value.string (wrt g)) (by kernel_rfl) (by kernel_rfl) (by kernel_rfl) ?_ (fun cf => (by kernel_rfl))
  refine WpOps.keep 4 (Value.int IntKind.i64 0) (by kernel_rfl) (by kernel_rfl) (by kernel_rfl) ?_ (fun cf => (by kernel_rfl))
  refine WpOps.nil ?_
  refine thenK_at ?_
  refine Wp.seq ?_
  refine Wp.text ?_
  refine WpOps.keep 36 (Value.int IntKind.i64 0) (by kernel_rfl) (by kernel_rfl) (by kernel_rfl) ?_ (fun cf => (by kernel_rfl))
  refine WpOps.keep 37 (Value.bool true) (by kernel_rfl) (by kernel_rfl) (by kernel_rfl) ?_ (fun cf => (by kernel_rfl))
  refine WpOps.keep 38 (Value.bool true) (by kernel_rfl) (by kernel_rfl) (by kernel_rfl) ?_ (fun cf => (by kernel_rfl))
  refine WpOps.keep 39 (Value.string (wrt g)) (by kernel_rfl) (by kernel_rfl) (by kernel_rfl) ?_ (fun cf => (by kernel_rfl))
  refine WpOps.keep 40 (Value.string (wrt g)) (by kernel_rfl) (by kernel_rfl) (by kernel_rfl) ?_ (fun cf => (by kernel_rfl))
  refine WpOps.keep 41 (Value.bool true) (by kernel_rfl) (by kernel_rfl) (by kernel_rfl) ?_ (fun cf => by_fact n1 ((by kernel_rfl)))
  refine WpOps.keep 42 (Value.bool true) (by kernel_rfl) (by kernel_rfl) (by kernel_rfl) ?_ (fun cf => (by kernel_rfl))
  refine WpOps.keep 43 (Value.bool true) (by kernel_rfl) (by kernel_rfl) (by kernel_rfl) ?_ (fun cf => (by kernel_rfl))
  refine WpOps.framed 44 19 [] (by kernel_rfl) (by kernel_rfl) (by kernel_rfl) (by kernel_rfl) (by kernel_rfl) (fun cf => (by kernel_rfl)) ?_
  refine WpFun.of (c6) ?_
  refine WpOps.keep 45 (Value.bool true) (by kernel_rfl) (by kernel_rfl) (by kernel_rfl) ?_ (fun cf => (by kernel_rfl))
  refine WpOps.keep 2 (Value.bool true) (by kernel_rfl) (by kernel_rfl) (by kernel_rfl) ?_ (fun cf => (by kernel_rfl))
  refine WpOps.nil ?_
  refine thenK_at ?_
  refine Wp.ret ?_
  refine endK_retn [Value.bool true] (Value.bool true) (by kernel_rfl) (by kernel_rfl) ?_
  kernel_rfl
theorem law6 (b : ByteArray) (hb : b.size ≤ 140737488351232) : Fun E 6 [.string b] (.bool true) := by
  have c1 := read24 b hb
  have c2 := read26 b hb
  unfold rGr rErr at c1 c2
  by_cases h : b.size < 23
  · rw [if_pos h, if_pos h] at c1 c2
    exact law6_bad b 10 c1 c2 rfl
  · rw [if_neg h, if_neg h] at c1 c2
    cases hs : sumOk b with
    | false =>
      rw [if_pos hs, if_pos hs] at c1 c2
      exact law6_bad b 11 c1 c2 rfl
    | true =>
      rw [if_neg (by rw [hs]; decide), if_neg (by rw [hs]; decide)] at c1 c2
      cases hp : parse b with
      | none =>
        rw [hp] at c1 c2
        exact law6_bad b 4 c1 c2 rfl
      | some g =>
        obtain ⟨e, hk⟩ := wrt_parse (by omega) hs hp
        rw [← e]
        exact law6_ok g hk
end Go.Proofs.Ytpkkcpglbjbgfaa.D
