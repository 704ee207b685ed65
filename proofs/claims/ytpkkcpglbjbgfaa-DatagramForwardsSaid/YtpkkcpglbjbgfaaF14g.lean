/- The document's cut and Cut. -/
import Derived.Test.YtpkkcpglbjbgfaaFwLem
import Derived.Test.YtpkkcpglbjbgfaaF14e
import Derived.Test.YtpkkcpglbjbgfaaF14f
namespace Go.Proofs.Ytpkkcpglbjbgfaa.D
open Go.Fw Go.RowKit

theorem cut47_many (g0 : Gr) (ok : OkGr g0) (size : Int) (h1 : 1 ≤ size) (h2 : size ≤ 4000) (hd : (toR g0).data.size ≤ 4000) (s : Nat) (hs : IntKind.i64.wrap (size - size.tmod 8) = (s : Int)) (hs2 : s ≤ 4000) (hlen : decide (((toR g0).data.size : Int) ≤ size) = false) (hmay : (toR g0).may = true) (hs0 : 0 < s) : Fun E 47 [gv (toR g0), .int .i64 size] (FS 32 (many (toR g0) s) 0 (cellsG (pcs (toR g0) s (many (toR g0) s))).toArray) := by
  refine Fun.of f47 rfl (of_decide_eq_true (by kernel_rfl)) (by kernel_rfl) ?_
  have c := own77 (toR g0) ⟨by simp [toR], by simp [toR], ok.fl, ok.tl⟩
  have z : (IntKind.i64.wrap (size - size.tmod 8) == 0) = false := by
    rw [hs]
    simp
    omega
  have hm0 : 0 < (toR g0).data.size := by
    have := of_decide_eq_false hlen
    omega
  refine Wp.seq ?_
  refine Wp.text ?_
  refine WpOps.made 2 (Value.pointer (some (Addr.mk 0 0 none))) (Blk.mk 32 true [Value.iface 3 (Value.iface (List.length (Gr.fr (toR g0))) (Value.iface (Gr.fx (toR g0)) (Value.agg (List.toArray (List.map (fun n => Value.int IntKind.i64 n) (Gr.fr (toR g0))))))), Value.iface 3 (Value.iface (List.length (Gr.to (toR g0))) (Value.iface (Gr.tx (toR g0)) (Value.agg (List.toArray (List.map (fun n => Value.int IntKind.i64 n) (Gr.to (toR g0))))))), Value.int IntKind.i64 (Gr.number (toR g0)), Value.int IntKind.i64 (Gr.life (toR g0)), Value.int IntKind.i64 (Gr.at' (toR g0)), Value.int IntKind.i64 (Gr.total (toR g0)), Value.int IntKind.i64 (Gr.report (toR g0)), Value.bool (Gr.more (toR g0)), Value.bool (Gr.may (toR g0)), Value.bool (Gr.wants (toR g0)), Value.string (Gr.data (toR g0))]) (by kernel_rfl) (by kernel_rfl) (by kernel_rfl) ?_ (fun cf => (by kernel_rfl))
  refine WpOps.keep 4 (Value.slice none 0 0) (by kernel_rfl) (by kernel_rfl) (by kernel_rfl) ?_ (fun cf => (by kernel_rfl))
  refine WpOps.nil ?_
  refine thenK_at ?_
  refine Wp.seq ?_
  refine Wp.seq ?_
  refine Wp.text ?_
  refine WpOps.keep 8 (Value.pointer (some (Addr.mk 0 10 none))) (by kernel_rfl) (by kernel_rfl) (by kernel_rfl) ?_ (fun cf => (by kernel_rfl))
  refine WpOps.keep 9 (Value.string (Gr.data (toR g0))) (by kernel_rfl) (by kernel_rfl) (by kernel_rfl) ?_ (fun cf => (by kernel_rfl))
  refine WpOps.keep 10 (Value.int IntKind.i64 (↑(ByteArray.size (Gr.data (toR g0))) : Int)) (by kernel_rfl) (by kernel_rfl) (by kernel_rfl) ?_ (fun cf => (by kernel_rfl))
  refine WpOps.keep 11 (Value.int IntKind.i64 size) (by kernel_rfl) (by kernel_rfl) (by kernel_rfl) ?_ (fun cf => (by kernel_rfl))
  refine WpOps.keep 12 (Value.bool false) (by kernel_rfl) (by kernel_rfl) (by kernel_rfl) ?_ (fun cf => by_fact hlen ((by kernel_rfl)))
  refine WpOps.nil ?_
  refine thenK_at ?_
  refine Wp.off (by kernel_rfl) ?_
  refine Wp.skip ?_
  refine thenK_at ?_
  refine Wp.seq ?_
  refine Wp.text ?_
  refine WpOps.keep 16 (Value.int IntKind.i64 size) (by kernel_rfl) (by kernel_rfl) (by kernel_rfl) ?_ (fun cf => (by kernel_rfl))
  refine WpOps.keep 17 (Value.int IntKind.i64 size) (by kernel_rfl) (by kernel_rfl) (by kernel_rfl) ?_ (fun cf => (by kernel_rfl))
  refine WpOps.keep 18 (Value.int IntKind.i64 (Int.tmod size 8)) (by kernel_rfl) (by kernel_rfl) (by kernel_rfl) ?_ (fun cf => (by kernel_rfl))
  refine WpOps.keep 19 (Value.int IntKind.i64 (IntKind.wrap IntKind.i64 (size - Int.tmod size 8))) (by kernel_rfl) (by kernel_rfl) (by kernel_rfl) ?_ (fun cf => (by kernel_rfl))
  refine WpOps.keep 1 (Value.int IntKind.i64 (IntKind.wrap IntKind.i64 (size - Int.tmod size 8))) (by kernel_rfl) (by kernel_rfl) (by kernel_rfl) ?_ (fun cf => (by kernel_rfl))
  refine WpOps.nil ?_
  refine thenK_at ?_
  refine Wp.seq ?_
  refine Wp.seq ?_
  refine Wp.text ?_
  refine WpOps.keep 20 (Value.pointer (some (Addr.mk 0 8 none))) (by kernel_rfl) (by kernel_rfl) (by kernel_rfl) ?_ (fun cf => (by kernel_rfl))
  refine WpOps.keep 21 (Value.bool true) (by kernel_rfl) (by kernel_rfl) (by kernel_rfl) ?_ (fun cf => by_fact hmay ((by kernel_rfl)))
  refine WpOps.keep 22 (Value.bool false) (by kernel_rfl) (by kernel_rfl) (by kernel_rfl) ?_ (fun cf => (by kernel_rfl))
  refine WpOps.keep 23 (Value.bool false) (by kernel_rfl) (by kernel_rfl) (by kernel_rfl) ?_ (fun cf => (by kernel_rfl))
  refine WpOps.keep 24 (Value.int IntKind.i64 (IntKind.wrap IntKind.i64 (size - Int.tmod size 8))) (by kernel_rfl) (by kernel_rfl) (by kernel_rfl) ?_ (fun cf => (by kernel_rfl))
  refine WpOps.keep 25 (Value.bool false) (by kernel_rfl) (by kernel_rfl) (by kernel_rfl) ?_ (fun cf => by_fact z ((by kernel_rfl)))
  refine WpOps.keep 26 (Value.bool false) (by kernel_rfl) (by kernel_rfl) (by kernel_rfl) ?_ (fun cf => (by kernel_rfl))
  refine WpOps.nil ?_
  refine thenK_at ?_
  refine Wp.off (by kernel_rfl) ?_
  refine Wp.skip ?_
  refine thenK_at ?_
  refine Wp.seq ?_
  refine Wp.text ?_
  refine WpOps.keep 5 (Value.slice none 0 0) (by kernel_rfl) (by kernel_rfl) (by kernel_rfl) ?_ (fun cf => (by kernel_rfl))
  refine WpOps.nil ?_
  refine thenK_at ?_
  refine Wp.seq ?_
  refine Wp.seq ?_
  refine Wp.text ?_
  refine WpOps.keep 6 (Value.int IntKind.i64 0) (by kernel_rfl) (by kernel_rfl) (by kernel_rfl) ?_ (fun cf => (by kernel_rfl))
  refine WpOps.nil ?_
  refine thenK_at ?_
  refine Wp.block ?_
  refine Wp.view (View.of [0] [⟨32, true, gc (toR g0)⟩] [(1, .int .i64 (s : Int)), (2, .pointer (some ⟨0, 0, none⟩)), (5, .slice none 0 0), (6, .int .i64 ((0 * s : Nat) : Int))] (by decide) rfl ⟨⟨gc (toR g0), by kernel_rfl, CellsOk.eq rfl (gc_flat (toR g0))⟩, trivial⟩
    ⟨⟨congrArg (Value.int .i64) hs, rfl⟩, ⟨by kernel_rfl, rfl⟩, ⟨by kernel_rfl, rfl⟩, ⟨congrArg (Value.int .i64) (by rw [Nat.zero_mul]; rfl), rfl⟩, trivial⟩) ?_
  refine Wp.unroll (WpL.step ?_)
  have hk0 : 0 * s < (toR g0).data.size := by omega
  have e0 := hi_eq (toR g0) s 0 hs2 hk0 hd
  have hc0 : decide (((0 * s : Nat) : Int) < ((toR g0).data.size : Int)) = true := decide_eq_true (by omega)
  have t1 : 0 ≤ hiI (toR g0) s 0 ∧ hiI (toR g0) s 0 ≤ ((toR g0).data.size : Int) := by omega
  have t2 : 0 ≤ ((0 * s : Nat) : Int) ∧ ((0 * s : Nat) : Int) ≤ ((hiI (toR g0) s 0).toNat : Int) := by omega
  simp only [hiI] at t1 t2
  refine Wp.seq ?_
  refine Wp.seq ?_
  refine Wp.text ?_
  refine WpOps.keep 27 (Value.int IntKind.i64 (↑(0 * s) : Int)) (by kernel_rfl) (by kernel_rfl) (by kernel_rfl) ?_ (fun cf => (by kernel_rfl))
  refine WpOps.keep 28 (Value.pointer (some (Addr.mk 0 10 none))) (by kernel_rfl) (by kernel_rfl) (by kernel_rfl) ?_ (fun cf => (by kernel_rfl))
  refine WpOps.keep 29 (Value.string (Gr.data (toR g0))) (by kernel_rfl) (by kernel_rfl) (by kernel_rfl) ?_ (fun cf => (by kernel_rfl))
  refine WpOps.keep 30 (Value.int IntKind.i64 (↑(ByteArray.size (Gr.data (toR g0))) : Int)) (by kernel_rfl) (by kernel_rfl) (by kernel_rfl) ?_ (fun cf => (by kernel_rfl))
  refine WpOps.keep 31 (Value.bool true) (by kernel_rfl) (by kernel_rfl) (by kernel_rfl) ?_ (fun cf => by_fact hc0 ((by kernel_rfl)))
  refine WpOps.nil ?_
  refine thenK_at ?_
  refine Wp.on (by kernel_rfl) ?_
  refine Wp.skip ?_
  refine thenK_at ?_
  refine Wp.seq ?_
  refine Wp.block ?_
  refine Wp.seq ?_
  refine Wp.text ?_
  refine WpOps.keep 35 (Value.agg #[Value.iface 3 (Value.iface (List.length (Gr.fr (toR g0))) (Value.iface (Gr.fx (toR g0)) (Value.agg (List.toArray (List.map (fun n => Value.int IntKind.i64 n) (Gr.fr (toR g0))))))), Value.iface 3 (Value.iface (List.length (Gr.to (toR g0))) (Value.iface (Gr.tx (toR g0)) (Value.agg (List.toArray (List.map (fun n => Value.int IntKind.i64 n) (Gr.to (toR g0))))))), Value.int IntKind.i64 (Gr.number (toR g0)), Value.int IntKind.i64 (Gr.life (toR g0)), Value.int IntKind.i64 (Gr.at' (toR g0)), Value.int IntKind.i64 (Gr.total (toR g0)), Value.int IntKind.i64 (Gr.report (toR g0)), Value.bool (Gr.more (toR g0)), Value.bool (Gr.may (toR g0)), Value.bool (Gr.wants (toR g0)), Value.string (Gr.data (toR g0))]) (by kernel_rfl) (by kernel_rfl) (by kernel_rfl) ?_ (fun cf => (by kernel_rfl))
  refine WpOps.framed 36 77 [Value.agg #[Value.iface 3 (Value.iface (List.length (Gr.fr (toR g0))) (Value.iface (Gr.fx (toR g0)) (Value.agg (List.toArray (List.map (fun n => Value.int IntKind.i64 n) (Gr.fr (toR g0))))))), Value.iface 3 (Value.iface (List.length (Gr.to (toR g0))) (Value.iface (Gr.tx (toR g0)) (Value.agg (List.toArray (List.map (fun n => Value.int IntKind.i64 n) (Gr.to (toR g0))))))), Value.int IntKind.i64 (Gr.number (toR g0)), Value.int IntKind.i64 (Gr.life (toR g0)), Value.int IntKind.i64 (Gr.at' (toR g0)), Value.int IntKind.i64 (Gr.total (toR g0)), Value.int IntKind.i64 (Gr.report (toR g0)), Value.bool (Gr.more (toR g0)), Value.bool (Gr.may (toR g0)), Value.bool (Gr.wants (toR g0)), Value.string (Gr.data (toR g0))]] (by kernel_rfl) (by kernel_rfl) (by kernel_rfl) (by kernel_rfl) (by kernel_rfl) (fun cf => (by kernel_rfl)) ?_
  refine WpFun.of (c) ?_
  refine WpOps.made 7 (Value.pointer (some (Addr.mk 1 0 none))) (Blk.mk 32 true [Value.slice none 0 0, Value.slice none 0 0, Value.int IntKind.i64 0, Value.int IntKind.i64 0, Value.int IntKind.i64 0, Value.int IntKind.i64 0, Value.int IntKind.i64 0, Value.bool false, Value.bool false, Value.bool false, Value.string (ByteArray.mk #[])]) (by kernel_rfl) (by kernel_rfl) (by kernel_rfl) ?_ (fun cf => (by kernel_rfl))
  refine WpOps.laid (Value.tuple #[]) (1) (Blk.mk 32 true [Value.iface 3 (Value.iface (List.length (Gr.fr (toR (toR g0)))) (Value.iface (Gr.fx (toR (toR g0))) (Value.agg (List.toArray (List.map (fun n => Value.int IntKind.i64 n) (Gr.fr (toR (toR g0)))))))), Value.iface 3 (Value.iface (List.length (Gr.to (toR (toR g0)))) (Value.iface (Gr.tx (toR (toR g0))) (Value.agg (List.toArray (List.map (fun n => Value.int IntKind.i64 n) (Gr.to (toR (toR g0)))))))), Value.int IntKind.i64 (Gr.number (toR (toR g0))), Value.int IntKind.i64 (Gr.life (toR (toR g0))), Value.int IntKind.i64 (Gr.at' (toR (toR g0))), Value.int IntKind.i64 (Gr.total (toR (toR g0))), Value.int IntKind.i64 (Gr.report (toR (toR g0))), Value.bool (Gr.more (toR (toR g0))), Value.bool (Gr.may (toR (toR g0))), Value.bool (Gr.wants (toR (toR g0))), Value.string (Gr.data (toR (toR g0)))]) (by kernel_rfl) (by kernel_rfl) (by kernel_rfl) ?_ (fun cf => (by kernel_rfl))
  refine WpOps.nil ?_
  refine thenK_at ?_
  refine Wp.seq ?_
  refine Wp.text ?_
  refine WpOps.keep 37 (Value.pointer (some (Addr.mk 0 4 none))) (by kernel_rfl) (by kernel_rfl) (by kernel_rfl) ?_ (fun cf => (by kernel_rfl))
  refine WpOps.keep 38 (Value.int IntKind.i64 (Gr.at' (toR g0))) (by kernel_rfl) (by kernel_rfl) (by kernel_rfl) ?_ (fun cf => (by kernel_rfl))
  refine WpOps.keep 39 (Value.int IntKind.i64 (↑(0 * s) : Int)) (by kernel_rfl) (by kernel_rfl) (by kernel_rfl) ?_ (fun cf => (by kernel_rfl))
  refine WpOps.keep 40 (Value.int IntKind.i64 (IntKind.wrap IntKind.i64 (Gr.at' (toR g0) + (↑(0 * s) : Int)))) (by kernel_rfl) (by kernel_rfl) (by kernel_rfl) ?_ (fun cf => (by kernel_rfl))
  refine WpOps.keep 41 (Value.pointer (some (Addr.mk 1 4 none))) (by kernel_rfl) (by kernel_rfl) (by kernel_rfl) ?_ (fun cf => (by kernel_rfl))
  refine WpOps.laid (Value.tuple #[]) (1) (Blk.mk 32 true [Value.iface 3 (Value.iface (List.length (Gr.fr (toR (toR g0)))) (Value.iface (Gr.fx (toR (toR g0))) (Value.agg (List.toArray (List.map (fun n => Value.int IntKind.i64 n) (Gr.fr (toR (toR g0)))))))), Value.iface 3 (Value.iface (List.length (Gr.to (toR (toR g0)))) (Value.iface (Gr.tx (toR (toR g0))) (Value.agg (List.toArray (List.map (fun n => Value.int IntKind.i64 n) (Gr.to (toR (toR g0)))))))), Value.int IntKind.i64 (Gr.number (toR (toR g0))), Value.int IntKind.i64 (Gr.life (toR (toR g0))), Value.int IntKind.i64 (IntKind.wrap IntKind.i64 (Gr.at' (toR g0) + (↑(0 * s) : Int))), Value.int IntKind.i64 (Gr.total (toR (toR g0))), Value.int IntKind.i64 (Gr.report (toR (toR g0))), Value.bool (Gr.more (toR (toR g0))), Value.bool (Gr.may (toR (toR g0))), Value.bool (Gr.wants (toR (toR g0))), Value.string (Gr.data (toR (toR g0)))]) (by kernel_rfl) (by kernel_rfl) (by kernel_rfl) ?_ (fun cf => (by kernel_rfl))
  refine WpOps.nil ?_
  refine thenK_at ?_
  refine Wp.seq ?_
  refine Wp.text ?_
  refine WpOps.keep 42 (Value.pointer (some (Addr.mk 0 10 none))) (by kernel_rfl) (by kernel_rfl) (by kernel_rfl) ?_ (fun cf => (by kernel_rfl))
  refine WpOps.keep 43 (Value.string (Gr.data (toR g0))) (by kernel_rfl) (by kernel_rfl) (by kernel_rfl) ?_ (fun cf => (by kernel_rfl))
  refine WpOps.keep 44 (Value.int IntKind.i64 (↑(0 * s) : Int)) (by kernel_rfl) (by kernel_rfl) (by kernel_rfl) ?_ (fun cf => (by kernel_rfl))
  refine WpOps.keep 45 (Value.int IntKind.i64 (↑(0 * s) : Int)) (by kernel_rfl) (by kernel_rfl) (by kernel_rfl) ?_ (fun cf => (by kernel_rfl))
  refine WpOps.keep 46 (Value.int IntKind.i64 (↑s : Int)) (by kernel_rfl) (by kernel_rfl) (by kernel_rfl) ?_ (fun cf => (by kernel_rfl))
  refine WpOps.keep 47 (Value.int IntKind.i64 (IntKind.wrap IntKind.i64 ((↑(0 * s) : Int) + (↑s : Int)))) (by kernel_rfl) (by kernel_rfl) (by kernel_rfl) ?_ (fun cf => (by kernel_rfl))
  refine WpOps.keep 48 (Value.pointer (some (Addr.mk 0 10 none))) (by kernel_rfl) (by kernel_rfl) (by kernel_rfl) ?_ (fun cf => (by kernel_rfl))
  refine WpOps.keep 49 (Value.string (Gr.data (toR g0))) (by kernel_rfl) (by kernel_rfl) (by kernel_rfl) ?_ (fun cf => (by kernel_rfl))
  refine WpOps.keep 50 (Value.int IntKind.i64 (↑(ByteArray.size (Gr.data (toR g0))) : Int)) (by kernel_rfl) (by kernel_rfl) (by kernel_rfl) ?_ (fun cf => (by kernel_rfl))
  refine WpOps.keep 51 (Value.int IntKind.i64 (if (↑(ByteArray.size (Gr.data (toR g0))) : Int) < IntKind.wrap IntKind.i64 ((↑(0 * s) : Int) + (↑s : Int)) then (↑(ByteArray.size (Gr.data (toR g0))) : Int) else IntKind.wrap IntKind.i64 ((↑(0 * s) : Int) + (↑s : Int)))) (by kernel_rfl) (by kernel_rfl) (by kernel_rfl) ?_ (fun cf => (by kernel_rfl))
  refine WpOps.keep 52 (Value.string (ByteArray.extract (Gr.data (toR g0)) (Int.toNat (↑(0 * s) : Int)) (Int.toNat (if (↑(ByteArray.size (Gr.data (toR g0))) : Int) < IntKind.wrap IntKind.i64 ((↑(0 * s) : Int) + (↑s : Int)) then (↑(ByteArray.size (Gr.data (toR g0))) : Int) else IntKind.wrap IntKind.i64 ((↑(0 * s) : Int) + (↑s : Int)))))) (by kernel_rfl) (by kernel_rfl) (by kernel_rfl) ?_ (fun cf => o_cutLH t1 t2 (by kernel_rfl) (by kernel_rfl) (by kernel_rfl) (by kernel_rfl))
  refine WpOps.keep 53 (Value.pointer (some (Addr.mk 1 10 none))) (by kernel_rfl) (by kernel_rfl) (by kernel_rfl) ?_ (fun cf => (by kernel_rfl))
  refine WpOps.laid (Value.tuple #[]) (1) (Blk.mk 32 true [Value.iface 3 (Value.iface (List.length (Gr.fr (toR (toR g0)))) (Value.iface (Gr.fx (toR (toR g0))) (Value.agg (List.toArray (List.map (fun n => Value.int IntKind.i64 n) (Gr.fr (toR (toR g0)))))))), Value.iface 3 (Value.iface (List.length (Gr.to (toR (toR g0)))) (Value.iface (Gr.tx (toR (toR g0))) (Value.agg (List.toArray (List.map (fun n => Value.int IntKind.i64 n) (Gr.to (toR (toR g0)))))))), Value.int IntKind.i64 (Gr.number (toR (toR g0))), Value.int IntKind.i64 (Gr.life (toR (toR g0))), Value.int IntKind.i64 (IntKind.wrap IntKind.i64 (Gr.at' (toR g0) + (↑(0 * s) : Int))), Value.int IntKind.i64 (Gr.total (toR (toR g0))), Value.int IntKind.i64 (Gr.report (toR (toR g0))), Value.bool (Gr.more (toR (toR g0))), Value.bool (Gr.may (toR (toR g0))), Value.bool (Gr.wants (toR (toR g0))), Value.string (ByteArray.extract (Gr.data (toR g0)) (Int.toNat (↑(0 * s) : Int)) (Int.toNat (if (↑(ByteArray.size (Gr.data (toR g0))) : Int) < IntKind.wrap IntKind.i64 ((↑(0 * s) : Int) + (↑s : Int)) then (↑(ByteArray.size (Gr.data (toR g0))) : Int) else IntKind.wrap IntKind.i64 ((↑(0 * s) : Int) + (↑s : Int)))))]) (by kernel_rfl) (by kernel_rfl) (by kernel_rfl) ?_ (fun cf => (by kernel_rfl))
  refine WpOps.nil ?_
  refine thenK_at ?_
  refine Wp.seq ?_
  refine Wp.text ?_
  refine WpOps.keep 54 (Value.pointer (some (Addr.mk 1 4 none))) (by kernel_rfl) (by kernel_rfl) (by kernel_rfl) ?_ (fun cf => (by kernel_rfl))
  refine WpOps.keep 55 (Value.int IntKind.i64 (IntKind.wrap IntKind.i64 (Gr.at' (toR g0) + (↑(0 * s) : Int)))) (by kernel_rfl) (by kernel_rfl) (by kernel_rfl) ?_ (fun cf => (by kernel_rfl))
  refine WpOps.keep 56 (Value.pointer (some (Addr.mk 1 10 none))) (by kernel_rfl) (by kernel_rfl) (by kernel_rfl) ?_ (fun cf => (by kernel_rfl))
  refine WpOps.keep 57 (Value.string (ByteArray.extract (Gr.data (toR g0)) (Int.toNat (↑(0 * s) : Int)) (Int.toNat (if (↑(ByteArray.size (Gr.data (toR g0))) : Int) < IntKind.wrap IntKind.i64 ((↑(0 * s) : Int) + (↑s : Int)) then (↑(ByteArray.size (Gr.data (toR g0))) : Int) else IntKind.wrap IntKind.i64 ((↑(0 * s) : Int) + (↑s : Int)))))) (by kernel_rfl) (by kernel_rfl) (by kernel_rfl) ?_ (fun cf => (by kernel_rfl))
  refine WpOps.keep 58 (Value.int IntKind.i64 (↑(ByteArray.size (ByteArray.extract (Gr.data (toR g0)) (Int.toNat (↑(0 * s) : Int)) (Int.toNat (if (↑(ByteArray.size (Gr.data (toR g0))) : Int) < IntKind.wrap IntKind.i64 ((↑(0 * s) : Int) + (↑s : Int)) then (↑(ByteArray.size (Gr.data (toR g0))) : Int) else IntKind.wrap IntKind.i64 ((↑(0 * s) : Int) + (↑s : Int)))))) : Int)) (by kernel_rfl) (by kernel_rfl) (by kernel_rfl) ?_ (fun cf => (by kernel_rfl))
  refine WpOps.keep 59 (Value.int IntKind.i64 (IntKind.wrap IntKind.i64 (IntKind.wrap IntKind.i64 (Gr.at' (toR g0) + (↑(0 * s) : Int)) + (↑(ByteArray.size (ByteArray.extract (Gr.data (toR g0)) (Int.toNat (↑(0 * s) : Int)) (Int.toNat (if (↑(ByteArray.size (Gr.data (toR g0))) : Int) < IntKind.wrap IntKind.i64 ((↑(0 * s) : Int) + (↑s : Int)) then (↑(ByteArray.size (Gr.data (toR g0))) : Int) else IntKind.wrap IntKind.i64 ((↑(0 * s) : Int) + (↑s : Int)))))) : Int)))) (by kernel_rfl) (by kernel_rfl) (by kernel_rfl) ?_ (fun cf => (by kernel_rfl))
  refine WpOps.keep 60 (Value.pointer (some (Addr.mk 0 5 none))) (by kernel_rfl) (by kernel_rfl) (by kernel_rfl) ?_ (fun cf => (by kernel_rfl))
  refine WpOps.keep 61 (Value.int IntKind.i64 (Gr.total (toR g0))) (by kernel_rfl) (by kernel_rfl) (by kernel_rfl) ?_ (fun cf => (by kernel_rfl))
  refine WpOps.keep 62 (Value.bool (decide (IntKind.wrap IntKind.i64 (IntKind.wrap IntKind.i64 (Gr.at' (toR g0) + (↑(0 * s) : Int)) + (↑(ByteArray.size (ByteArray.extract (Gr.data (toR g0)) (Int.toNat (↑(0 * s) : Int)) (Int.toNat (if (↑(ByteArray.size (Gr.data (toR g0))) : Int) < IntKind.wrap IntKind.i64 ((↑(0 * s) : Int) + (↑s : Int)) then (↑(ByteArray.size (Gr.data (toR g0))) : Int) else IntKind.wrap IntKind.i64 ((↑(0 * s) : Int) + (↑s : Int)))))) : Int)) < Gr.total (toR g0)))) (by kernel_rfl) (by kernel_rfl) (by kernel_rfl) ?_ (fun cf => (by kernel_rfl))
  refine WpOps.keep 63 (Value.pointer (some (Addr.mk 1 7 none))) (by kernel_rfl) (by kernel_rfl) (by kernel_rfl) ?_ (fun cf => (by kernel_rfl))
  refine WpOps.laid (Value.tuple #[]) (1) (Blk.mk 32 true [Value.iface 3 (Value.iface (List.length (Gr.fr (toR (toR g0)))) (Value.iface (Gr.fx (toR (toR g0))) (Value.agg (List.toArray (List.map (fun n => Value.int IntKind.i64 n) (Gr.fr (toR (toR g0)))))))), Value.iface 3 (Value.iface (List.length (Gr.to (toR (toR g0)))) (Value.iface (Gr.tx (toR (toR g0))) (Value.agg (List.toArray (List.map (fun n => Value.int IntKind.i64 n) (Gr.to (toR (toR g0)))))))), Value.int IntKind.i64 (Gr.number (toR (toR g0))), Value.int IntKind.i64 (Gr.life (toR (toR g0))), Value.int IntKind.i64 (IntKind.wrap IntKind.i64 (Gr.at' (toR g0) + (↑(0 * s) : Int))), Value.int IntKind.i64 (Gr.total (toR (toR g0))), Value.int IntKind.i64 (Gr.report (toR (toR g0))), Value.bool (decide (IntKind.wrap IntKind.i64 (IntKind.wrap IntKind.i64 (Gr.at' (toR g0) + (↑(0 * s) : Int)) + (↑(ByteArray.size (ByteArray.extract (Gr.data (toR g0)) (Int.toNat (↑(0 * s) : Int)) (Int.toNat (if (↑(ByteArray.size (Gr.data (toR g0))) : Int) < IntKind.wrap IntKind.i64 ((↑(0 * s) : Int) + (↑s : Int)) then (↑(ByteArray.size (Gr.data (toR g0))) : Int) else IntKind.wrap IntKind.i64 ((↑(0 * s) : Int) + (↑s : Int)))))) : Int)) < Gr.total (toR g0))), Value.bool (Gr.may (toR (toR g0))), Value.bool (Gr.wants (toR (toR g0))), Value.string (ByteArray.extract (Gr.data (toR g0)) (Int.toNat (↑(0 * s) : Int)) (Int.toNat (if (↑(ByteArray.size (Gr.data (toR g0))) : Int) < IntKind.wrap IntKind.i64 ((↑(0 * s) : Int) + (↑s : Int)) then (↑(ByteArray.size (Gr.data (toR g0))) : Int) else IntKind.wrap IntKind.i64 ((↑(0 * s) : Int) + (↑s : Int)))))]) (by kernel_rfl) (by kernel_rfl) (by kernel_rfl) ?_ (fun cf => (by kernel_rfl))
  refine WpOps.nil ?_
  refine thenK_at ?_
  refine Wp.text ?_
  refine WpOps.keep 64 (Value.slice none 0 0) (by kernel_rfl) (by kernel_rfl) (by kernel_rfl) ?_ (fun cf => (by kernel_rfl))
  refine WpOps.keep 65 (Value.agg #[Value.iface 3 (Value.iface (List.length (Gr.fr (toR (toR g0)))) (Value.iface (Gr.fx (toR (toR g0))) (Value.agg (List.toArray (List.map (fun n => Value.int IntKind.i64 n) (Gr.fr (toR (toR g0)))))))), Value.iface 3 (Value.iface (List.length (Gr.to (toR (toR g0)))) (Value.iface (Gr.tx (toR (toR g0))) (Value.agg (List.toArray (List.map (fun n => Value.int IntKind.i64 n) (Gr.to (toR (toR g0)))))))), Value.int IntKind.i64 (Gr.number (toR (toR g0))), Value.int IntKind.i64 (Gr.life (toR (toR g0))), Value.int IntKind.i64 (IntKind.wrap IntKind.i64 (Gr.at' (toR g0) + (↑(0 * s) : Int))), Value.int IntKind.i64 (Gr.total (toR (toR g0))), Value.int IntKind.i64 (Gr.report (toR (toR g0))), Value.bool (decide (IntKind.wrap IntKind.i64 (IntKind.wrap IntKind.i64 (Gr.at' (toR g0) + (↑(0 * s) : Int)) + (↑(ByteArray.size (ByteArray.extract (Gr.data (toR g0)) (Int.toNat (↑(0 * s) : Int)) (Int.toNat (if (↑(ByteArray.size (Gr.data (toR g0))) : Int) < IntKind.wrap IntKind.i64 ((↑(0 * s) : Int) + (↑s : Int)) then (↑(ByteArray.size (Gr.data (toR g0))) : Int) else IntKind.wrap IntKind.i64 ((↑(0 * s) : Int) + (↑s : Int)))))) : Int)) < Gr.total (toR g0))), Value.bool (Gr.may (toR (toR g0))), Value.bool (Gr.wants (toR (toR g0))), Value.string (ByteArray.extract (Gr.data (toR g0)) (Int.toNat (↑(0 * s) : Int)) (Int.toNat (if (↑(ByteArray.size (Gr.data (toR g0))) : Int) < IntKind.wrap IntKind.i64 ((↑(0 * s) : Int) + (↑s : Int)) then (↑(ByteArray.size (Gr.data (toR g0))) : Int) else IntKind.wrap IntKind.i64 ((↑(0 * s) : Int) + (↑s : Int)))))]) (by kernel_rfl) (by kernel_rfl) (by kernel_rfl) ?_ (fun cf => (by kernel_rfl))
  refine WpOps.made 66 (Value.slice (some (Addr.mk 2 0 none)) 1 1) (Blk.mk 32 true [Value.iface 3 (Value.iface (List.length (Gr.fr (toR (toR g0)))) (Value.iface (Gr.fx (toR (toR g0))) (Value.agg (List.toArray (List.map (fun n => Value.int IntKind.i64 n) (Gr.fr (toR (toR g0)))))))), Value.iface 3 (Value.iface (List.length (Gr.to (toR (toR g0)))) (Value.iface (Gr.tx (toR (toR g0))) (Value.agg (List.toArray (List.map (fun n => Value.int IntKind.i64 n) (Gr.to (toR (toR g0)))))))), Value.int IntKind.i64 (Gr.number (toR (toR g0))), Value.int IntKind.i64 (Gr.life (toR (toR g0))), Value.int IntKind.i64 (IntKind.wrap IntKind.i64 (Gr.at' (toR g0) + (↑(0 * s) : Int))), Value.int IntKind.i64 (Gr.total (toR (toR g0))), Value.int IntKind.i64 (Gr.report (toR (toR g0))), Value.bool (decide (IntKind.wrap IntKind.i64 (IntKind.wrap IntKind.i64 (Gr.at' (toR g0) + (↑(0 * s) : Int)) + (↑(ByteArray.size (ByteArray.extract (Gr.data (toR g0)) (Int.toNat (↑(0 * s) : Int)) (Int.toNat (if (↑(ByteArray.size (Gr.data (toR g0))) : Int) < IntKind.wrap IntKind.i64 ((↑(0 * s) : Int) + (↑s : Int)) then (↑(ByteArray.size (Gr.data (toR g0))) : Int) else IntKind.wrap IntKind.i64 ((↑(0 * s) : Int) + (↑s : Int)))))) : Int)) < Gr.total (toR g0))), Value.bool (Gr.may (toR (toR g0))), Value.bool (Gr.wants (toR (toR g0))), Value.string (ByteArray.extract (Gr.data (toR g0)) (Int.toNat (↑(0 * s) : Int)) (Int.toNat (if (↑(ByteArray.size (Gr.data (toR g0))) : Int) < IntKind.wrap IntKind.i64 ((↑(0 * s) : Int) + (↑s : Int)) then (↑(ByteArray.size (Gr.data (toR g0))) : Int) else IntKind.wrap IntKind.i64 ((↑(0 * s) : Int) + (↑s : Int)))))]) (by kernel_rfl) (by kernel_rfl) (by kernel_rfl) ?_ (fun cf => (by kernel_rfl))
  refine WpOps.made 67 (Value.slice (some (Addr.mk 3 0 none)) 1 1) (Blk.mk 32 true [Value.iface 3 (Value.iface (List.length (Gr.fr (toR (toR g0)))) (Value.iface (Gr.fx (toR (toR g0))) (Value.agg (List.toArray (List.map (fun n => Value.int IntKind.i64 n) (Gr.fr (toR (toR g0)))))))), Value.iface 3 (Value.iface (List.length (Gr.to (toR (toR g0)))) (Value.iface (Gr.tx (toR (toR g0))) (Value.agg (List.toArray (List.map (fun n => Value.int IntKind.i64 n) (Gr.to (toR (toR g0)))))))), Value.int IntKind.i64 (Gr.number (toR (toR g0))), Value.int IntKind.i64 (Gr.life (toR (toR g0))), Value.int IntKind.i64 (IntKind.wrap IntKind.i64 (Gr.at' (toR g0) + (↑(0 * s) : Int))), Value.int IntKind.i64 (Gr.total (toR (toR g0))), Value.int IntKind.i64 (Gr.report (toR (toR g0))), Value.bool (decide (IntKind.wrap IntKind.i64 (IntKind.wrap IntKind.i64 (Gr.at' (toR g0) + (↑(0 * s) : Int)) + (↑(ByteArray.size (ByteArray.extract (Gr.data (toR g0)) (Int.toNat (↑(0 * s) : Int)) (Int.toNat (if (↑(ByteArray.size (Gr.data (toR g0))) : Int) < IntKind.wrap IntKind.i64 ((↑(0 * s) : Int) + (↑s : Int)) then (↑(ByteArray.size (Gr.data (toR g0))) : Int) else IntKind.wrap IntKind.i64 ((↑(0 * s) : Int) + (↑s : Int)))))) : Int)) < Gr.total (toR g0))), Value.bool (Gr.may (toR (toR g0))), Value.bool (Gr.wants (toR (toR g0))), Value.string (ByteArray.extract (Gr.data (toR g0)) (Int.toNat (↑(0 * s) : Int)) (Int.toNat (if (↑(ByteArray.size (Gr.data (toR g0))) : Int) < IntKind.wrap IntKind.i64 ((↑(0 * s) : Int) + (↑s : Int)) then (↑(ByteArray.size (Gr.data (toR g0))) : Int) else IntKind.wrap IntKind.i64 ((↑(0 * s) : Int) + (↑s : Int)))))]) (by kernel_rfl) (by kernel_rfl) (by kernel_rfl) ?_ (fun cf => (by kernel_rfl))
  refine WpOps.keep 5 (Value.slice (some (Addr.mk 3 0 none)) 1 1) (by kernel_rfl) (by kernel_rfl) (by kernel_rfl) ?_ (fun cf => (by kernel_rfl))
  refine WpOps.nil ?_
  refine blockK_norm ?_
  refine thenK_at ?_
  refine Wp.text ?_
  refine WpOps.keep 32 (Value.int IntKind.i64 (↑(0 * s) : Int)) (by kernel_rfl) (by kernel_rfl) (by kernel_rfl) ?_ (fun cf => (by kernel_rfl))
  refine WpOps.keep 33 (Value.int IntKind.i64 (↑s : Int)) (by kernel_rfl) (by kernel_rfl) (by kernel_rfl) ?_ (fun cf => (by kernel_rfl))
  refine WpOps.keep 34 (Value.int IntKind.i64 (IntKind.wrap IntKind.i64 ((↑(0 * s) : Int) + (↑s : Int)))) (by kernel_rfl) (by kernel_rfl) (by kernel_rfl) ?_ (fun cf => (by kernel_rfl))
  refine WpOps.keep 6 (Value.int IntKind.i64 (IntKind.wrap IntKind.i64 ((↑(0 * s) : Int) + (↑s : Int)))) (by kernel_rfl) (by kernel_rfl) (by kernel_rfl) ?_ (fun cf => (by kernel_rfl))
  refine WpOps.nil ?_
  refine thenK_at ?_
  refine WpL.loop (G := Nat) (fun k => layj [(1, .int .i64 (s : Int)), (2, .pointer (some ⟨0, 0, none⟩)), (5, .slice (some ⟨1, 0, none⟩) k k), (6, .int .i64 ((k * s : Nat) : Int))]) (fun k => heapOf [⟨32, true, gc (toR g0)⟩, ⟨32, true, cellsG (pcs (toR g0) s k)⟩]) (fun k => (toR g0).data.size - k * s) (fun k => 1 ≤ k ∧ (k - 1) * s < (toR g0).data.size) 1
    (View.of [0, 3] [⟨32, true, gc (toR g0)⟩, ⟨32, true, cellsG (pcs (toR g0) s 1)⟩] _ (by decide) rfl ⟨⟨gc (toR g0), by kernel_rfl, CellsOk.eq rfl (gc_flat (toR g0))⟩, ⟨cellsG (pcs (toR g0) s 1), by kernel_rfl, CellsOk.eq rfl (cellsG_flat _)⟩, trivial⟩
      ⟨⟨by kernel_rfl, rfl⟩, ⟨by kernel_rfl, rfl⟩, ⟨by kernel_rfl, rfl⟩, ⟨congrArg (Value.int .i64) (by rw [wr _ (by omega) (by omega), Nat.zero_mul, Nat.one_mul]; omega), rfl⟩, trivial⟩) ⟨Nat.le_refl _, by omega⟩ ?_
  rintro k ⟨hk1, hkm⟩
  have hks : k ≤ 4000 := by
    rcases Nat.lt_or_ge 4000 k with h | h
    · have : (k - 1) * 1 ≤ (k - 1) * s := Nat.mul_le_mul_left _ hs0
      omega
    · exact h
  have hks2 : k * s = (k - 1) * s + s := by
    obtain ⟨j, rfl⟩ : ∃ j, k = j + 1 := ⟨k - 1, by omega⟩
    rw [Nat.add_mul, Nat.one_mul]
    rfl
  refine Wp.seq ?_
  refine Wp.seq ?_
  refine Wp.text ?_
  refine WpOps.keep 27 (Value.int IntKind.i64 (↑(k * s) : Int)) (by kernel_rfl) (by kernel_rfl) (by kernel_rfl) ?_ (fun cf => (by kernel_rfl))
  refine WpOps.keep 28 (Value.pointer (some (Addr.mk 0 10 none))) (by kernel_rfl) (by kernel_rfl) (by kernel_rfl) ?_ (fun cf => (by kernel_rfl))
  refine WpOps.keep 29 (Value.string (Gr.data (toR g0))) (by kernel_rfl) (by kernel_rfl) (by kernel_rfl) ?_ (fun cf => (by kernel_rfl))
  refine WpOps.keep 30 (Value.int IntKind.i64 (↑(ByteArray.size (Gr.data (toR g0))) : Int)) (by kernel_rfl) (by kernel_rfl) (by kernel_rfl) ?_ (fun cf => (by kernel_rfl))
  refine WpOps.keep 31 (Value.bool (decide ((↑(k * s) : Int) < (↑(ByteArray.size (Gr.data (toR g0))) : Int)))) (by kernel_rfl) (by kernel_rfl) (by kernel_rfl) ?_ (fun cf => (by kernel_rfl))
  refine WpOps.nil ?_
  refine thenK_at ?_
  refine Wp.split (decide ((↑(k * s) : Int) < (↑(ByteArray.size (Gr.data (toR g0))) : Int))) (by kernel_rfl) (fun hc => ?_) (fun hc => ?_)
  · have hk0 : k * s < (toR g0).data.size := by have := of_decide_eq_true hc; omega
    have e1 := hi_eq (toR g0) s k hs2 hk0 hd
    have t1 : 0 ≤ hiI (toR g0) s k ∧ hiI (toR g0) s k ≤ ((toR g0).data.size : Int) := by omega
    have t2 : 0 ≤ ((k * s : Nat) : Int) ∧ ((k * s : Nat) : Int) ≤ ((hiI (toR g0) s k).toNat : Int) := by omega
    simp only [hiI] at t1 t2
    have a1 : ¬ (k + 1 ≤ k) := by omega
    have a2 : 1 ≤ 112 ∧ (k + 1) * 112 ≤ 140737488355328 ∧ 11 = 11 ∧ k + 1 ≤ 9223372036854775807 := by omega
    have a3 := cells_all (toR g0) s k
    refine Wp.skip ?_
    refine thenK_at ?_
    refine Wp.seq ?_
    refine Wp.block ?_
    refine Wp.seq ?_
    refine Wp.text ?_
    refine WpOps.keep 35 (Value.agg #[Value.iface 3 (Value.iface (List.length (Gr.fr (toR g0))) (Value.iface (Gr.fx (toR g0)) (Value.agg (List.toArray (List.map (fun n => Value.int IntKind.i64 n) (Gr.fr (toR g0))))))), Value.iface 3 (Value.iface (List.length (Gr.to (toR g0))) (Value.iface (Gr.tx (toR g0)) (Value.agg (List.toArray (List.map (fun n => Value.int IntKind.i64 n) (Gr.to (toR g0))))))), Value.int IntKind.i64 (Gr.number (toR g0)), Value.int IntKind.i64 (Gr.life (toR g0)), Value.int IntKind.i64 (Gr.at' (toR g0)), Value.int IntKind.i64 (Gr.total (toR g0)), Value.int IntKind.i64 (Gr.report (toR g0)), Value.bool (Gr.more (toR g0)), Value.bool (Gr.may (toR g0)), Value.bool (Gr.wants (toR g0)), Value.string (Gr.data (toR g0))]) (by kernel_rfl) (by kernel_rfl) (by kernel_rfl) ?_ (fun cf => (by kernel_rfl))
    refine WpOps.framed 36 77 [Value.agg #[Value.iface 3 (Value.iface (List.length (Gr.fr (toR g0))) (Value.iface (Gr.fx (toR g0)) (Value.agg (List.toArray (List.map (fun n => Value.int IntKind.i64 n) (Gr.fr (toR g0))))))), Value.iface 3 (Value.iface (List.length (Gr.to (toR g0))) (Value.iface (Gr.tx (toR g0)) (Value.agg (List.toArray (List.map (fun n => Value.int IntKind.i64 n) (Gr.to (toR g0))))))), Value.int IntKind.i64 (Gr.number (toR g0)), Value.int IntKind.i64 (Gr.life (toR g0)), Value.int IntKind.i64 (Gr.at' (toR g0)), Value.int IntKind.i64 (Gr.total (toR g0)), Value.int IntKind.i64 (Gr.report (toR g0)), Value.bool (Gr.more (toR g0)), Value.bool (Gr.may (toR g0)), Value.bool (Gr.wants (toR g0)), Value.string (Gr.data (toR g0))]] (by kernel_rfl) (by kernel_rfl) (by kernel_rfl) (by kernel_rfl) (by kernel_rfl) (fun cf => (by kernel_rfl)) ?_
    refine WpFun.of (c) ?_
    refine WpOps.made 7 (Value.pointer (some (Addr.mk 2 0 none))) (Blk.mk 32 true [Value.slice none 0 0, Value.slice none 0 0, Value.int IntKind.i64 0, Value.int IntKind.i64 0, Value.int IntKind.i64 0, Value.int IntKind.i64 0, Value.int IntKind.i64 0, Value.bool false, Value.bool false, Value.bool false, Value.string (ByteArray.mk #[])]) (by kernel_rfl) (by kernel_rfl) (by kernel_rfl) ?_ (fun cf => (by kernel_rfl))
    refine WpOps.laid (Value.tuple #[]) (2) (Blk.mk 32 true [Value.iface 3 (Value.iface (List.length (Gr.fr (toR (toR g0)))) (Value.iface (Gr.fx (toR (toR g0))) (Value.agg (List.toArray (List.map (fun n => Value.int IntKind.i64 n) (Gr.fr (toR (toR g0)))))))), Value.iface 3 (Value.iface (List.length (Gr.to (toR (toR g0)))) (Value.iface (Gr.tx (toR (toR g0))) (Value.agg (List.toArray (List.map (fun n => Value.int IntKind.i64 n) (Gr.to (toR (toR g0)))))))), Value.int IntKind.i64 (Gr.number (toR (toR g0))), Value.int IntKind.i64 (Gr.life (toR (toR g0))), Value.int IntKind.i64 (Gr.at' (toR (toR g0))), Value.int IntKind.i64 (Gr.total (toR (toR g0))), Value.int IntKind.i64 (Gr.report (toR (toR g0))), Value.bool (Gr.more (toR (toR g0))), Value.bool (Gr.may (toR (toR g0))), Value.bool (Gr.wants (toR (toR g0))), Value.string (Gr.data (toR (toR g0)))]) (by kernel_rfl) (by kernel_rfl) (by kernel_rfl) ?_ (fun cf => (by kernel_rfl))
    refine WpOps.nil ?_
    refine thenK_at ?_
    refine Wp.seq ?_
    refine Wp.text ?_
    refine WpOps.keep 37 (Value.pointer (some (Addr.mk 0 4 none))) (by kernel_rfl) (by kernel_rfl) (by kernel_rfl) ?_ (fun cf => (by kernel_rfl))
    refine WpOps.keep 38 (Value.int IntKind.i64 (Gr.at' (toR g0))) (by kernel_rfl) (by kernel_rfl) (by kernel_rfl) ?_ (fun cf => (by kernel_rfl))
    refine WpOps.keep 39 (Value.int IntKind.i64 (↑(k * s) : Int)) (by kernel_rfl) (by kernel_rfl) (by kernel_rfl) ?_ (fun cf => (by kernel_rfl))
    refine WpOps.keep 40 (Value.int IntKind.i64 (IntKind.wrap IntKind.i64 (Gr.at' (toR g0) + (↑(k * s) : Int)))) (by kernel_rfl) (by kernel_rfl) (by kernel_rfl) ?_ (fun cf => (by kernel_rfl))
    refine WpOps.keep 41 (Value.pointer (some (Addr.mk 2 4 none))) (by kernel_rfl) (by kernel_rfl) (by kernel_rfl) ?_ (fun cf => (by kernel_rfl))
    refine WpOps.laid (Value.tuple #[]) (2) (Blk.mk 32 true [Value.iface 3 (Value.iface (List.length (Gr.fr (toR (toR g0)))) (Value.iface (Gr.fx (toR (toR g0))) (Value.agg (List.toArray (List.map (fun n => Value.int IntKind.i64 n) (Gr.fr (toR (toR g0)))))))), Value.iface 3 (Value.iface (List.length (Gr.to (toR (toR g0)))) (Value.iface (Gr.tx (toR (toR g0))) (Value.agg (List.toArray (List.map (fun n => Value.int IntKind.i64 n) (Gr.to (toR (toR g0)))))))), Value.int IntKind.i64 (Gr.number (toR (toR g0))), Value.int IntKind.i64 (Gr.life (toR (toR g0))), Value.int IntKind.i64 (IntKind.wrap IntKind.i64 (Gr.at' (toR g0) + (↑(k * s) : Int))), Value.int IntKind.i64 (Gr.total (toR (toR g0))), Value.int IntKind.i64 (Gr.report (toR (toR g0))), Value.bool (Gr.more (toR (toR g0))), Value.bool (Gr.may (toR (toR g0))), Value.bool (Gr.wants (toR (toR g0))), Value.string (Gr.data (toR (toR g0)))]) (by kernel_rfl) (by kernel_rfl) (by kernel_rfl) ?_ (fun cf => (by kernel_rfl))
    refine WpOps.nil ?_
    refine thenK_at ?_
    refine Wp.seq ?_
    refine Wp.text ?_
    refine WpOps.keep 42 (Value.pointer (some (Addr.mk 0 10 none))) (by kernel_rfl) (by kernel_rfl) (by kernel_rfl) ?_ (fun cf => (by kernel_rfl))
    refine WpOps.keep 43 (Value.string (Gr.data (toR g0))) (by kernel_rfl) (by kernel_rfl) (by kernel_rfl) ?_ (fun cf => (by kernel_rfl))
    refine WpOps.keep 44 (Value.int IntKind.i64 (↑(k * s) : Int)) (by kernel_rfl) (by kernel_rfl) (by kernel_rfl) ?_ (fun cf => (by kernel_rfl))
    refine WpOps.keep 45 (Value.int IntKind.i64 (↑(k * s) : Int)) (by kernel_rfl) (by kernel_rfl) (by kernel_rfl) ?_ (fun cf => (by kernel_rfl))
    refine WpOps.keep 46 (Value.int IntKind.i64 (↑s : Int)) (by kernel_rfl) (by kernel_rfl) (by kernel_rfl) ?_ (fun cf => (by kernel_rfl))
    refine WpOps.keep 47 (Value.int IntKind.i64 (IntKind.wrap IntKind.i64 ((↑(k * s) : Int) + (↑s : Int)))) (by kernel_rfl) (by kernel_rfl) (by kernel_rfl) ?_ (fun cf => (by kernel_rfl))
    refine WpOps.keep 48 (Value.pointer (some (Addr.mk 0 10 none))) (by kernel_rfl) (by kernel_rfl) (by kernel_rfl) ?_ (fun cf => (by kernel_rfl))
    refine WpOps.keep 49 (Value.string (Gr.data (toR g0))) (by kernel_rfl) (by kernel_rfl) (by kernel_rfl) ?_ (fun cf => (by kernel_rfl))
    refine WpOps.keep 50 (Value.int IntKind.i64 (↑(ByteArray.size (Gr.data (toR g0))) : Int)) (by kernel_rfl) (by kernel_rfl) (by kernel_rfl) ?_ (fun cf => (by kernel_rfl))
    refine WpOps.keep 51 (Value.int IntKind.i64 (if (↑(ByteArray.size (Gr.data (toR g0))) : Int) < IntKind.wrap IntKind.i64 ((↑(k * s) : Int) + (↑s : Int)) then (↑(ByteArray.size (Gr.data (toR g0))) : Int) else IntKind.wrap IntKind.i64 ((↑(k * s) : Int) + (↑s : Int)))) (by kernel_rfl) (by kernel_rfl) (by kernel_rfl) ?_ (fun cf => (by kernel_rfl))
    refine WpOps.keep 52 (Value.string (ByteArray.extract (Gr.data (toR g0)) (Int.toNat (↑(k * s) : Int)) (Int.toNat (if (↑(ByteArray.size (Gr.data (toR g0))) : Int) < IntKind.wrap IntKind.i64 ((↑(k * s) : Int) + (↑s : Int)) then (↑(ByteArray.size (Gr.data (toR g0))) : Int) else IntKind.wrap IntKind.i64 ((↑(k * s) : Int) + (↑s : Int)))))) (by kernel_rfl) (by kernel_rfl) (by kernel_rfl) ?_ (fun cf => o_cutLH t1 t2 (by kernel_rfl) (by kernel_rfl) (by kernel_rfl) (by kernel_rfl))
    refine WpOps.keep 53 (Value.pointer (some (Addr.mk 2 10 none))) (by kernel_rfl) (by kernel_rfl) (by kernel_rfl) ?_ (fun cf => (by kernel_rfl))
    refine WpOps.laid (Value.tuple #[]) (2) (Blk.mk 32 true [Value.iface 3 (Value.iface (List.length (Gr.fr (toR (toR g0)))) (Value.iface (Gr.fx (toR (toR g0))) (Value.agg (List.toArray (List.map (fun n => Value.int IntKind.i64 n) (Gr.fr (toR (toR g0)))))))), Value.iface 3 (Value.iface (List.length (Gr.to (toR (toR g0)))) (Value.iface (Gr.tx (toR (toR g0))) (Value.agg (List.toArray (List.map (fun n => Value.int IntKind.i64 n) (Gr.to (toR (toR g0)))))))), Value.int IntKind.i64 (Gr.number (toR (toR g0))), Value.int IntKind.i64 (Gr.life (toR (toR g0))), Value.int IntKind.i64 (IntKind.wrap IntKind.i64 (Gr.at' (toR g0) + (↑(k * s) : Int))), Value.int IntKind.i64 (Gr.total (toR (toR g0))), Value.int IntKind.i64 (Gr.report (toR (toR g0))), Value.bool (Gr.more (toR (toR g0))), Value.bool (Gr.may (toR (toR g0))), Value.bool (Gr.wants (toR (toR g0))), Value.string (ByteArray.extract (Gr.data (toR g0)) (Int.toNat (↑(k * s) : Int)) (Int.toNat (if (↑(ByteArray.size (Gr.data (toR g0))) : Int) < IntKind.wrap IntKind.i64 ((↑(k * s) : Int) + (↑s : Int)) then (↑(ByteArray.size (Gr.data (toR g0))) : Int) else IntKind.wrap IntKind.i64 ((↑(k * s) : Int) + (↑s : Int)))))]) (by kernel_rfl) (by kernel_rfl) (by kernel_rfl) ?_ (fun cf => (by kernel_rfl))
    refine WpOps.nil ?_
    refine thenK_at ?_
    refine Wp.seq ?_
    refine Wp.text ?_
    refine WpOps.keep 54 (Value.pointer (some (Addr.mk 2 4 none))) (by kernel_rfl) (by kernel_rfl) (by kernel_rfl) ?_ (fun cf => (by kernel_rfl))
    refine WpOps.keep 55 (Value.int IntKind.i64 (IntKind.wrap IntKind.i64 (Gr.at' (toR g0) + (↑(k * s) : Int)))) (by kernel_rfl) (by kernel_rfl) (by kernel_rfl) ?_ (fun cf => (by kernel_rfl))
    refine WpOps.keep 56 (Value.pointer (some (Addr.mk 2 10 none))) (by kernel_rfl) (by kernel_rfl) (by kernel_rfl) ?_ (fun cf => (by kernel_rfl))
    refine WpOps.keep 57 (Value.string (ByteArray.extract (Gr.data (toR g0)) (Int.toNat (↑(k * s) : Int)) (Int.toNat (if (↑(ByteArray.size (Gr.data (toR g0))) : Int) < IntKind.wrap IntKind.i64 ((↑(k * s) : Int) + (↑s : Int)) then (↑(ByteArray.size (Gr.data (toR g0))) : Int) else IntKind.wrap IntKind.i64 ((↑(k * s) : Int) + (↑s : Int)))))) (by kernel_rfl) (by kernel_rfl) (by kernel_rfl) ?_ (fun cf => (by kernel_rfl))
    refine WpOps.keep 58 (Value.int IntKind.i64 (↑(ByteArray.size (ByteArray.extract (Gr.data (toR g0)) (Int.toNat (↑(k * s) : Int)) (Int.toNat (if (↑(ByteArray.size (Gr.data (toR g0))) : Int) < IntKind.wrap IntKind.i64 ((↑(k * s) : Int) + (↑s : Int)) then (↑(ByteArray.size (Gr.data (toR g0))) : Int) else IntKind.wrap IntKind.i64 ((↑(k * s) : Int) + (↑s : Int)))))) : Int)) (by kernel_rfl) (by kernel_rfl) (by kernel_rfl) ?_ (fun cf => (by kernel_rfl))
    refine WpOps.keep 59 (Value.int IntKind.i64 (IntKind.wrap IntKind.i64 (IntKind.wrap IntKind.i64 (Gr.at' (toR g0) + (↑(k * s) : Int)) + (↑(ByteArray.size (ByteArray.extract (Gr.data (toR g0)) (Int.toNat (↑(k * s) : Int)) (Int.toNat (if (↑(ByteArray.size (Gr.data (toR g0))) : Int) < IntKind.wrap IntKind.i64 ((↑(k * s) : Int) + (↑s : Int)) then (↑(ByteArray.size (Gr.data (toR g0))) : Int) else IntKind.wrap IntKind.i64 ((↑(k * s) : Int) + (↑s : Int)))))) : Int)))) (by kernel_rfl) (by kernel_rfl) (by kernel_rfl) ?_ (fun cf => (by kernel_rfl))
    refine WpOps.keep 60 (Value.pointer (some (Addr.mk 0 5 none))) (by kernel_rfl) (by kernel_rfl) (by kernel_rfl) ?_ (fun cf => (by kernel_rfl))
    refine WpOps.keep 61 (Value.int IntKind.i64 (Gr.total (toR g0))) (by kernel_rfl) (by kernel_rfl) (by kernel_rfl) ?_ (fun cf => (by kernel_rfl))
    refine WpOps.keep 62 (Value.bool (decide (IntKind.wrap IntKind.i64 (IntKind.wrap IntKind.i64 (Gr.at' (toR g0) + (↑(k * s) : Int)) + (↑(ByteArray.size (ByteArray.extract (Gr.data (toR g0)) (Int.toNat (↑(k * s) : Int)) (Int.toNat (if (↑(ByteArray.size (Gr.data (toR g0))) : Int) < IntKind.wrap IntKind.i64 ((↑(k * s) : Int) + (↑s : Int)) then (↑(ByteArray.size (Gr.data (toR g0))) : Int) else IntKind.wrap IntKind.i64 ((↑(k * s) : Int) + (↑s : Int)))))) : Int)) < Gr.total (toR g0)))) (by kernel_rfl) (by kernel_rfl) (by kernel_rfl) ?_ (fun cf => (by kernel_rfl))
    refine WpOps.keep 63 (Value.pointer (some (Addr.mk 2 7 none))) (by kernel_rfl) (by kernel_rfl) (by kernel_rfl) ?_ (fun cf => (by kernel_rfl))
    refine WpOps.laid (Value.tuple #[]) (2) (Blk.mk 32 true [Value.iface 3 (Value.iface (List.length (Gr.fr (toR (toR g0)))) (Value.iface (Gr.fx (toR (toR g0))) (Value.agg (List.toArray (List.map (fun n => Value.int IntKind.i64 n) (Gr.fr (toR (toR g0)))))))), Value.iface 3 (Value.iface (List.length (Gr.to (toR (toR g0)))) (Value.iface (Gr.tx (toR (toR g0))) (Value.agg (List.toArray (List.map (fun n => Value.int IntKind.i64 n) (Gr.to (toR (toR g0)))))))), Value.int IntKind.i64 (Gr.number (toR (toR g0))), Value.int IntKind.i64 (Gr.life (toR (toR g0))), Value.int IntKind.i64 (IntKind.wrap IntKind.i64 (Gr.at' (toR g0) + (↑(k * s) : Int))), Value.int IntKind.i64 (Gr.total (toR (toR g0))), Value.int IntKind.i64 (Gr.report (toR (toR g0))), Value.bool (decide (IntKind.wrap IntKind.i64 (IntKind.wrap IntKind.i64 (Gr.at' (toR g0) + (↑(k * s) : Int)) + (↑(ByteArray.size (ByteArray.extract (Gr.data (toR g0)) (Int.toNat (↑(k * s) : Int)) (Int.toNat (if (↑(ByteArray.size (Gr.data (toR g0))) : Int) < IntKind.wrap IntKind.i64 ((↑(k * s) : Int) + (↑s : Int)) then (↑(ByteArray.size (Gr.data (toR g0))) : Int) else IntKind.wrap IntKind.i64 ((↑(k * s) : Int) + (↑s : Int)))))) : Int)) < Gr.total (toR g0))), Value.bool (Gr.may (toR (toR g0))), Value.bool (Gr.wants (toR (toR g0))), Value.string (ByteArray.extract (Gr.data (toR g0)) (Int.toNat (↑(k * s) : Int)) (Int.toNat (if (↑(ByteArray.size (Gr.data (toR g0))) : Int) < IntKind.wrap IntKind.i64 ((↑(k * s) : Int) + (↑s : Int)) then (↑(ByteArray.size (Gr.data (toR g0))) : Int) else IntKind.wrap IntKind.i64 ((↑(k * s) : Int) + (↑s : Int)))))]) (by kernel_rfl) (by kernel_rfl) (by kernel_rfl) ?_ (fun cf => (by kernel_rfl))
    refine WpOps.nil ?_
    refine thenK_at ?_
    refine Wp.text ?_
    refine WpOps.keep 64 (Value.slice (some (Addr.mk 1 0 none)) k k) (by kernel_rfl) (by kernel_rfl) (by kernel_rfl) ?_ (fun cf => (by kernel_rfl))
    refine WpOps.keep 65 (Value.agg #[Value.iface 3 (Value.iface (List.length (Gr.fr (toR (toR g0)))) (Value.iface (Gr.fx (toR (toR g0))) (Value.agg (List.toArray (List.map (fun n => Value.int IntKind.i64 n) (Gr.fr (toR (toR g0)))))))), Value.iface 3 (Value.iface (List.length (Gr.to (toR (toR g0)))) (Value.iface (Gr.tx (toR (toR g0))) (Value.agg (List.toArray (List.map (fun n => Value.int IntKind.i64 n) (Gr.to (toR (toR g0)))))))), Value.int IntKind.i64 (Gr.number (toR (toR g0))), Value.int IntKind.i64 (Gr.life (toR (toR g0))), Value.int IntKind.i64 (IntKind.wrap IntKind.i64 (Gr.at' (toR g0) + (↑(k * s) : Int))), Value.int IntKind.i64 (Gr.total (toR (toR g0))), Value.int IntKind.i64 (Gr.report (toR (toR g0))), Value.bool (decide (IntKind.wrap IntKind.i64 (IntKind.wrap IntKind.i64 (Gr.at' (toR g0) + (↑(k * s) : Int)) + (↑(ByteArray.size (ByteArray.extract (Gr.data (toR g0)) (Int.toNat (↑(k * s) : Int)) (Int.toNat (if (↑(ByteArray.size (Gr.data (toR g0))) : Int) < IntKind.wrap IntKind.i64 ((↑(k * s) : Int) + (↑s : Int)) then (↑(ByteArray.size (Gr.data (toR g0))) : Int) else IntKind.wrap IntKind.i64 ((↑(k * s) : Int) + (↑s : Int)))))) : Int)) < Gr.total (toR g0))), Value.bool (Gr.may (toR (toR g0))), Value.bool (Gr.wants (toR (toR g0))), Value.string (ByteArray.extract (Gr.data (toR g0)) (Int.toNat (↑(k * s) : Int)) (Int.toNat (if (↑(ByteArray.size (Gr.data (toR g0))) : Int) < IntKind.wrap IntKind.i64 ((↑(k * s) : Int) + (↑s : Int)) then (↑(ByteArray.size (Gr.data (toR g0))) : Int) else IntKind.wrap IntKind.i64 ((↑(k * s) : Int) + (↑s : Int)))))]) (by kernel_rfl) (by kernel_rfl) (by kernel_rfl) ?_ (fun cf => (by kernel_rfl))
    refine WpOps.made 66 (Value.slice (some (Addr.mk 3 0 none)) 1 1) (Blk.mk 32 true [Value.iface 3 (Value.iface (List.length (Gr.fr (toR (toR g0)))) (Value.iface (Gr.fx (toR (toR g0))) (Value.agg (List.toArray (List.map (fun n => Value.int IntKind.i64 n) (Gr.fr (toR (toR g0)))))))), Value.iface 3 (Value.iface (List.length (Gr.to (toR (toR g0)))) (Value.iface (Gr.tx (toR (toR g0))) (Value.agg (List.toArray (List.map (fun n => Value.int IntKind.i64 n) (Gr.to (toR (toR g0)))))))), Value.int IntKind.i64 (Gr.number (toR (toR g0))), Value.int IntKind.i64 (Gr.life (toR (toR g0))), Value.int IntKind.i64 (IntKind.wrap IntKind.i64 (Gr.at' (toR g0) + (↑(k * s) : Int))), Value.int IntKind.i64 (Gr.total (toR (toR g0))), Value.int IntKind.i64 (Gr.report (toR (toR g0))), Value.bool (decide (IntKind.wrap IntKind.i64 (IntKind.wrap IntKind.i64 (Gr.at' (toR g0) + (↑(k * s) : Int)) + (↑(ByteArray.size (ByteArray.extract (Gr.data (toR g0)) (Int.toNat (↑(k * s) : Int)) (Int.toNat (if (↑(ByteArray.size (Gr.data (toR g0))) : Int) < IntKind.wrap IntKind.i64 ((↑(k * s) : Int) + (↑s : Int)) then (↑(ByteArray.size (Gr.data (toR g0))) : Int) else IntKind.wrap IntKind.i64 ((↑(k * s) : Int) + (↑s : Int)))))) : Int)) < Gr.total (toR g0))), Value.bool (Gr.may (toR (toR g0))), Value.bool (Gr.wants (toR (toR g0))), Value.string (ByteArray.extract (Gr.data (toR g0)) (Int.toNat (↑(k * s) : Int)) (Int.toNat (if (↑(ByteArray.size (Gr.data (toR g0))) : Int) < IntKind.wrap IntKind.i64 ((↑(k * s) : Int) + (↑s : Int)) then (↑(ByteArray.size (Gr.data (toR g0))) : Int) else IntKind.wrap IntKind.i64 ((↑(k * s) : Int) + (↑s : Int)))))]) (by kernel_rfl) (by kernel_rfl) (by kernel_rfl) ?_ (fun cf => (by kernel_rfl))
    refine WpOps.chg 67 (Value.slice (some (Addr.mk 4 0 none)) (k + 1) (k + 1)) (Heap.alloc (Heap.set (Heap.alloc (Heap.set (Heap.set (Heap.set (Heap.set (Heap.alloc (heapOf [Blk.mk 32 true (gc (toR g0)), Blk.mk 32 true (cellsG (pcs (toR g0) s k))]) (Blk.mk 32 true [Value.slice none 0 0, Value.slice none 0 0, Value.int IntKind.i64 0, Value.int IntKind.i64 0, Value.int IntKind.i64 0, Value.int IntKind.i64 0, Value.int IntKind.i64 0, Value.bool false, Value.bool false, Value.bool false, Value.string (ByteArray.mk #[])])) 2 (some (Blk.mk 32 true [Value.iface 3 (Value.iface (List.length (Gr.fr (toR (toR g0)))) (Value.iface (Gr.fx (toR (toR g0))) (Value.agg (List.toArray (List.map (fun n => Value.int IntKind.i64 n) (Gr.fr (toR (toR g0)))))))), Value.iface 3 (Value.iface (List.length (Gr.to (toR (toR g0)))) (Value.iface (Gr.tx (toR (toR g0))) (Value.agg (List.toArray (List.map (fun n => Value.int IntKind.i64 n) (Gr.to (toR (toR g0)))))))), Value.int IntKind.i64 (Gr.number (toR (toR g0))), Value.int IntKind.i64 (Gr.life (toR (toR g0))), Value.int IntKind.i64 (Gr.at' (toR (toR g0))), Value.int IntKind.i64 (Gr.total (toR (toR g0))), Value.int IntKind.i64 (Gr.report (toR (toR g0))), Value.bool (Gr.more (toR (toR g0))), Value.bool (Gr.may (toR (toR g0))), Value.bool (Gr.wants (toR (toR g0))), Value.string (Gr.data (toR (toR g0)))]))) 2 (some (Blk.mk 32 true [Value.iface 3 (Value.iface (List.length (Gr.fr (toR (toR g0)))) (Value.iface (Gr.fx (toR (toR g0))) (Value.agg (List.toArray (List.map (fun n => Value.int IntKind.i64 n) (Gr.fr (toR (toR g0)))))))), Value.iface 3 (Value.iface (List.length (Gr.to (toR (toR g0)))) (Value.iface (Gr.tx (toR (toR g0))) (Value.agg (List.toArray (List.map (fun n => Value.int IntKind.i64 n) (Gr.to (toR (toR g0)))))))), Value.int IntKind.i64 (Gr.number (toR (toR g0))), Value.int IntKind.i64 (Gr.life (toR (toR g0))), Value.int IntKind.i64 (IntKind.wrap IntKind.i64 (Gr.at' (toR g0) + (↑(k * s) : Int))), Value.int IntKind.i64 (Gr.total (toR (toR g0))), Value.int IntKind.i64 (Gr.report (toR (toR g0))), Value.bool (Gr.more (toR (toR g0))), Value.bool (Gr.may (toR (toR g0))), Value.bool (Gr.wants (toR (toR g0))), Value.string (Gr.data (toR (toR g0)))]))) 2 (some (Blk.mk 32 true [Value.iface 3 (Value.iface (List.length (Gr.fr (toR (toR g0)))) (Value.iface (Gr.fx (toR (toR g0))) (Value.agg (List.toArray (List.map (fun n => Value.int IntKind.i64 n) (Gr.fr (toR (toR g0)))))))), Value.iface 3 (Value.iface (List.length (Gr.to (toR (toR g0)))) (Value.iface (Gr.tx (toR (toR g0))) (Value.agg (List.toArray (List.map (fun n => Value.int IntKind.i64 n) (Gr.to (toR (toR g0)))))))), Value.int IntKind.i64 (Gr.number (toR (toR g0))), Value.int IntKind.i64 (Gr.life (toR (toR g0))), Value.int IntKind.i64 (IntKind.wrap IntKind.i64 (Gr.at' (toR g0) + (↑(k * s) : Int))), Value.int IntKind.i64 (Gr.total (toR (toR g0))), Value.int IntKind.i64 (Gr.report (toR (toR g0))), Value.bool (Gr.more (toR (toR g0))), Value.bool (Gr.may (toR (toR g0))), Value.bool (Gr.wants (toR (toR g0))), Value.string (ByteArray.extract (Gr.data (toR g0)) (Int.toNat (↑(k * s) : Int)) (Int.toNat (if (↑(ByteArray.size (Gr.data (toR g0))) : Int) < IntKind.wrap IntKind.i64 ((↑(k * s) : Int) + (↑s : Int)) then (↑(ByteArray.size (Gr.data (toR g0))) : Int) else IntKind.wrap IntKind.i64 ((↑(k * s) : Int) + (↑s : Int)))))]))) 2 (some (Blk.mk 32 true [Value.iface 3 (Value.iface (List.length (Gr.fr (toR (toR g0)))) (Value.iface (Gr.fx (toR (toR g0))) (Value.agg (List.toArray (List.map (fun n => Value.int IntKind.i64 n) (Gr.fr (toR (toR g0)))))))), Value.iface 3 (Value.iface (List.length (Gr.to (toR (toR g0)))) (Value.iface (Gr.tx (toR (toR g0))) (Value.agg (List.toArray (List.map (fun n => Value.int IntKind.i64 n) (Gr.to (toR (toR g0)))))))), Value.int IntKind.i64 (Gr.number (toR (toR g0))), Value.int IntKind.i64 (Gr.life (toR (toR g0))), Value.int IntKind.i64 (IntKind.wrap IntKind.i64 (Gr.at' (toR g0) + (↑(k * s) : Int))), Value.int IntKind.i64 (Gr.total (toR (toR g0))), Value.int IntKind.i64 (Gr.report (toR (toR g0))), Value.bool (decide (IntKind.wrap IntKind.i64 (IntKind.wrap IntKind.i64 (Gr.at' (toR g0) + (↑(k * s) : Int)) + (↑(ByteArray.size (ByteArray.extract (Gr.data (toR g0)) (Int.toNat (↑(k * s) : Int)) (Int.toNat (if (↑(ByteArray.size (Gr.data (toR g0))) : Int) < IntKind.wrap IntKind.i64 ((↑(k * s) : Int) + (↑s : Int)) then (↑(ByteArray.size (Gr.data (toR g0))) : Int) else IntKind.wrap IntKind.i64 ((↑(k * s) : Int) + (↑s : Int)))))) : Int)) < Gr.total (toR g0))), Value.bool (Gr.may (toR (toR g0))), Value.bool (Gr.wants (toR (toR g0))), Value.string (ByteArray.extract (Gr.data (toR g0)) (Int.toNat (↑(k * s) : Int)) (Int.toNat (if (↑(ByteArray.size (Gr.data (toR g0))) : Int) < IntKind.wrap IntKind.i64 ((↑(k * s) : Int) + (↑s : Int)) then (↑(ByteArray.size (Gr.data (toR g0))) : Int) else IntKind.wrap IntKind.i64 ((↑(k * s) : Int) + (↑s : Int)))))]))) (Blk.mk 32 true [Value.iface 3 (Value.iface (List.length (Gr.fr (toR (toR g0)))) (Value.iface (Gr.fx (toR (toR g0))) (Value.agg (List.toArray (List.map (fun n => Value.int IntKind.i64 n) (Gr.fr (toR (toR g0)))))))), Value.iface 3 (Value.iface (List.length (Gr.to (toR (toR g0)))) (Value.iface (Gr.tx (toR (toR g0))) (Value.agg (List.toArray (List.map (fun n => Value.int IntKind.i64 n) (Gr.to (toR (toR g0)))))))), Value.int IntKind.i64 (Gr.number (toR (toR g0))), Value.int IntKind.i64 (Gr.life (toR (toR g0))), Value.int IntKind.i64 (IntKind.wrap IntKind.i64 (Gr.at' (toR g0) + (↑(k * s) : Int))), Value.int IntKind.i64 (Gr.total (toR (toR g0))), Value.int IntKind.i64 (Gr.report (toR (toR g0))), Value.bool (decide (IntKind.wrap IntKind.i64 (IntKind.wrap IntKind.i64 (Gr.at' (toR g0) + (↑(k * s) : Int)) + (↑(ByteArray.size (ByteArray.extract (Gr.data (toR g0)) (Int.toNat (↑(k * s) : Int)) (Int.toNat (if (↑(ByteArray.size (Gr.data (toR g0))) : Int) < IntKind.wrap IntKind.i64 ((↑(k * s) : Int) + (↑s : Int)) then (↑(ByteArray.size (Gr.data (toR g0))) : Int) else IntKind.wrap IntKind.i64 ((↑(k * s) : Int) + (↑s : Int)))))) : Int)) < Gr.total (toR g0))), Value.bool (Gr.may (toR (toR g0))), Value.bool (Gr.wants (toR (toR g0))), Value.string (ByteArray.extract (Gr.data (toR g0)) (Int.toNat (↑(k * s) : Int)) (Int.toNat (if (↑(ByteArray.size (Gr.data (toR g0))) : Int) < IntKind.wrap IntKind.i64 ((↑(k * s) : Int) + (↑s : Int)) then (↑(ByteArray.size (Gr.data (toR g0))) : Int) else IntKind.wrap IntKind.i64 ((↑(k * s) : Int) + (↑s : Int)))))])) 1 none) (Blk.mk 32 true (cellsG (pcs (toR g0) s k) ++ [Value.iface 3 (Value.iface (List.length (Gr.fr (toR (toR g0)))) (Value.iface (Gr.fx (toR (toR g0))) (Value.agg (List.toArray (List.map (fun n => Value.int IntKind.i64 n) (Gr.fr (toR (toR g0)))))))), Value.iface 3 (Value.iface (List.length (Gr.to (toR (toR g0)))) (Value.iface (Gr.tx (toR (toR g0))) (Value.agg (List.toArray (List.map (fun n => Value.int IntKind.i64 n) (Gr.to (toR (toR g0)))))))), Value.int IntKind.i64 (Gr.number (toR (toR g0))), Value.int IntKind.i64 (Gr.life (toR (toR g0))), Value.int IntKind.i64 (IntKind.wrap IntKind.i64 (Gr.at' (toR g0) + (↑(k * s) : Int))), Value.int IntKind.i64 (Gr.total (toR (toR g0))), Value.int IntKind.i64 (Gr.report (toR (toR g0))), Value.bool (decide (IntKind.wrap IntKind.i64 (IntKind.wrap IntKind.i64 (Gr.at' (toR g0) + (↑(k * s) : Int)) + (↑(ByteArray.size (ByteArray.extract (Gr.data (toR g0)) (Int.toNat (↑(k * s) : Int)) (Int.toNat (if (↑(ByteArray.size (Gr.data (toR g0))) : Int) < IntKind.wrap IntKind.i64 ((↑(k * s) : Int) + (↑s : Int)) then (↑(ByteArray.size (Gr.data (toR g0))) : Int) else IntKind.wrap IntKind.i64 ((↑(k * s) : Int) + (↑s : Int)))))) : Int)) < Gr.total (toR g0))), Value.bool (Gr.may (toR (toR g0))), Value.bool (Gr.wants (toR (toR g0))), Value.string (ByteArray.extract (Gr.data (toR g0)) (Int.toNat (↑(k * s) : Int)) (Int.toNat (if (↑(ByteArray.size (Gr.data (toR g0))) : Int) < IntKind.wrap IntKind.i64 ((↑(k * s) : Int) + (↑s : Int)) then (↑(ByteArray.size (Gr.data (toR g0))) : Int) else IntKind.wrap IntKind.i64 ((↑(k * s) : Int) + (↑s : Int)))))]))) (by kernel_rfl) (by kernel_rfl) (by kernel_rfl) ?_ (fun cf => o_append (e := 32) 1 (0) (k) _ (k) a1 a2 a3 (by kernel_rfl) (by kernel_rfl) (by kernel_rfl) (by kernel_rfl))
    refine WpOps.keep 5 (Value.slice (some (Addr.mk 4 0 none)) (k + 1) (k + 1)) (by kernel_rfl) (by kernel_rfl) (by kernel_rfl) ?_ (fun cf => (by kernel_rfl))
    refine WpOps.nil ?_
    refine blockK_norm ?_
    refine thenK_at ?_
    refine Wp.text ?_
    refine WpOps.keep 32 (Value.int IntKind.i64 (↑(k * s) : Int)) (by kernel_rfl) (by kernel_rfl) (by kernel_rfl) ?_ (fun cf => (by kernel_rfl))
    refine WpOps.keep 33 (Value.int IntKind.i64 (↑s : Int)) (by kernel_rfl) (by kernel_rfl) (by kernel_rfl) ?_ (fun cf => (by kernel_rfl))
    refine WpOps.keep 34 (Value.int IntKind.i64 (IntKind.wrap IntKind.i64 ((↑(k * s) : Int) + (↑s : Int)))) (by kernel_rfl) (by kernel_rfl) (by kernel_rfl) ?_ (fun cf => (by kernel_rfl))
    refine WpOps.keep 6 (Value.int IntKind.i64 (IntKind.wrap IntKind.i64 ((↑(k * s) : Int) + (↑s : Int)))) (by kernel_rfl) (by kernel_rfl) (by kernel_rfl) ?_ (fun cf => (by kernel_rfl))
    refine WpOps.nil ?_
    refine thenK_at ?_
    have hk3 : (k + 1) * s = k * s + s := by rw [Nat.add_mul, Nat.one_mul]
    refine ⟨k + 1, by omega, ⟨by omega, by rw [Nat.add_sub_cancel]; exact hk0⟩, View.of [0, 4] [⟨32, true, gc (toR g0)⟩, ⟨32, true, cellsG (pcs (toR g0) s (k + 1))⟩] _ (by decide) rfl ⟨⟨gc (toR g0), by kernel_rfl, CellsOk.eq rfl (gc_flat (toR g0))⟩, ⟨cellsG (pcs (toR g0) s k) ++ gc (piece (toR g0) s k), by kernel_rfl, CellsOk.eq (cellsG_succ (toR g0) s k).symm (cellsG_flat _)⟩, trivial⟩
      ⟨⟨by kernel_rfl, rfl⟩, ⟨by kernel_rfl, rfl⟩, ⟨by kernel_rfl, rfl⟩, ⟨congrArg (Value.int .i64) (by rw [wr _ (by omega) (by omega)]; omega), rfl⟩, trivial⟩⟩
  · refine Wp.exit ?_
    refine thenK_exit ?_
    refine thenK_exit ?_
    refine blockK_hit ?_
    refine thenK_at ?_
    refine Wp.seq ?_
    refine Wp.text ?_
    refine WpOps.keep 68 (Value.slice (some (Addr.mk 1 0 none)) k k) (by kernel_rfl) (by kernel_rfl) (by kernel_rfl) ?_ (fun cf => (by kernel_rfl))
    refine WpOps.keep 4 (Value.slice (some (Addr.mk 1 0 none)) k k) (by kernel_rfl) (by kernel_rfl) (by kernel_rfl) ?_ (fun cf => (by kernel_rfl))
    refine WpOps.nil ?_
    refine thenK_at ?_
    refine Wp.ret ?_
    refine endK_retn [Value.slice (some (Addr.mk 1 0 none)) k k] (Value.slice (some (Addr.mk 1 0 none)) k k) (by kernel_rfl) (by kernel_rfl) ?_
    have hk0 : ¬ (k * s < (toR g0).data.size) := by have := of_decide_eq_false hc; omega
    have hm : k = many (toR g0) s := by
      have hk3 : (k + 1) * s = k * s + s := by rw [Nat.add_mul, Nat.one_mul]
      exact (Nat.div_eq_of_lt_le (by omega) (by omega)).symm
    have hr := iceC_row (E := E) (hp := heapOf [⟨32, true, gc (toR g0)⟩, ⟨32, true, cellsG (pcs (toR g0) s k)⟩]) (b := 1) (n := k) (c := k) 3 types32 rfl (by rw [cellsG_len, pcs_len]) (cellsG_flat _)
    rw [← hm]
    exact hr

def listV (e : TypeId) : Option (List Gr) → Value
  | some l => grams e l
  | none => .slice none 0 0
theorem r8_eq (size : Int) (h1 : 1 ≤ size) (h2 : size ≤ 4000) : IntKind.i64.wrap (size - size.tmod 8) = (s8 size : Int) := by
  rw [← (s8_eq size h1 h2).1]
  have e1 : size.tdiv 8 = size / 8 := Int.tdiv_eq_ediv_of_nonneg (by omega)
  have e0 : size.tmod 8 = size % 8 := Int.tmod_eq_emod_of_nonneg (by omega)
  have e2 : IntKind.i64.wrap (size.tdiv 8) = size / 8 := by rw [e1, wr] <;> omega
  rw [e2, e0, wr _ (by omega) (by omega), wr _ (by omega) (by omega)]
  omega
theorem ownG_toR (g : Gr) : ownG (toR g) = toR g := rfl

theorem cut47 (g0 : Gr) (ok : OkGr g0) (size : Int) (h1 : 1 ≤ size) (h2 : size ≤ 4000) (hd : (toR g0).data.size ≤ 4000) : Fun E 47 [gv (toR g0), .int .i64 size] (listV 32 (cutL (toR g0) size)) := by
  have hs2 := (s8_eq size h1 h2).2
  have hs := r8_eq size h1 h2
  have c := own77 (toR g0) ⟨by simp [toR], by simp [toR], ok.fl, ok.tl⟩
  cases hlen : decide (((toR g0).data.size : Int) ≤ size) with
  | true =>
    simp only [cutL, if_pos (of_decide_eq_true hlen)]
    refine Fun.of f47 rfl (of_decide_eq_true (by kernel_rfl)) (by kernel_rfl) ?_
    refine Wp.seq ?_
    refine Wp.text ?_
    refine WpOps.made 2 (Value.pointer (some (Addr.mk 0 0 none))) (Blk.mk 32 true [Value.iface 3 (Value.iface (List.length (Gr.fr (toR g0))) (Value.iface (Gr.fx (toR g0)) (Value.agg (List.toArray (List.map (fun n => Value.int IntKind.i64 n) (Gr.fr (toR g0))))))), Value.iface 3 (Value.iface (List.length (Gr.to (toR g0))) (Value.iface (Gr.tx (toR g0)) (Value.agg (List.toArray (List.map (fun n => Value.int IntKind.i64 n) (Gr.to (toR g0))))))), Value.int IntKind.i64 (Gr.number (toR g0)), Value.int IntKind.i64 (Gr.life (toR g0)), Value.int IntKind.i64 (Gr.at' (toR g0)), Value.int IntKind.i64 (Gr.total (toR g0)), Value.int IntKind.i64 (Gr.report (toR g0)), Value.bool (Gr.more (toR g0)), Value.bool (Gr.may (toR g0)), Value.bool (Gr.wants (toR g0)), Value.string (Gr.data (toR g0))]) (by kernel_rfl) (by kernel_rfl) (by kernel_rfl) ?_ (fun cf => (by kernel_rfl))
    refine WpOps.keep 4 (Value.slice none 0 0) (by kernel_rfl) (by kernel_rfl) (by kernel_rfl) ?_ (fun cf => (by kernel_rfl))
    refine WpOps.nil ?_
    refine thenK_at ?_
    refine Wp.seq ?_
    refine Wp.seq ?_
    refine Wp.text ?_
    refine WpOps.keep 8 (Value.pointer (some (Addr.mk 0 10 none))) (by kernel_rfl) (by kernel_rfl) (by kernel_rfl) ?_ (fun cf => (by kernel_rfl))
    refine WpOps.keep 9 (Value.string (Gr.data (toR g0))) (by kernel_rfl) (by kernel_rfl) (by kernel_rfl) ?_ (fun cf => (by kernel_rfl))
    refine WpOps.keep 10 (Value.int IntKind.i64 (↑(ByteArray.size (Gr.data (toR g0))) : Int)) (by kernel_rfl) (by kernel_rfl) (by kernel_rfl) ?_ (fun cf => (by kernel_rfl))
    refine WpOps.keep 11 (Value.int IntKind.i64 size) (by kernel_rfl) (by kernel_rfl) (by kernel_rfl) ?_ (fun cf => (by kernel_rfl))
    refine WpOps.keep 12 (Value.bool true) (by kernel_rfl) (by kernel_rfl) (by kernel_rfl) ?_ (fun cf => by_fact hlen ((by kernel_rfl)))
    refine WpOps.nil ?_
    refine thenK_at ?_
    refine Wp.on (by kernel_rfl) ?_
    refine Wp.seq ?_
    refine Wp.text ?_
    refine WpOps.keep 13 (Value.agg #[Value.iface 3 (Value.iface (List.length (Gr.fr (toR g0))) (Value.iface (Gr.fx (toR g0)) (Value.agg (List.toArray (List.map (fun n => Value.int IntKind.i64 n) (Gr.fr (toR g0))))))), Value.iface 3 (Value.iface (List.length (Gr.to (toR g0))) (Value.iface (Gr.tx (toR g0)) (Value.agg (List.toArray (List.map (fun n => Value.int IntKind.i64 n) (Gr.to (toR g0))))))), Value.int IntKind.i64 (Gr.number (toR g0)), Value.int IntKind.i64 (Gr.life (toR g0)), Value.int IntKind.i64 (Gr.at' (toR g0)), Value.int IntKind.i64 (Gr.total (toR g0)), Value.int IntKind.i64 (Gr.report (toR g0)), Value.bool (Gr.more (toR g0)), Value.bool (Gr.may (toR g0)), Value.bool (Gr.wants (toR g0)), Value.string (Gr.data (toR g0))]) (by kernel_rfl) (by kernel_rfl) (by kernel_rfl) ?_ (fun cf => (by kernel_rfl))
    refine WpOps.framed 14 77 [Value.agg #[Value.iface 3 (Value.iface (List.length (Gr.fr (toR g0))) (Value.iface (Gr.fx (toR g0)) (Value.agg (List.toArray (List.map (fun n => Value.int IntKind.i64 n) (Gr.fr (toR g0))))))), Value.iface 3 (Value.iface (List.length (Gr.to (toR g0))) (Value.iface (Gr.tx (toR g0)) (Value.agg (List.toArray (List.map (fun n => Value.int IntKind.i64 n) (Gr.to (toR g0))))))), Value.int IntKind.i64 (Gr.number (toR g0)), Value.int IntKind.i64 (Gr.life (toR g0)), Value.int IntKind.i64 (Gr.at' (toR g0)), Value.int IntKind.i64 (Gr.total (toR g0)), Value.int IntKind.i64 (Gr.report (toR g0)), Value.bool (Gr.more (toR g0)), Value.bool (Gr.may (toR g0)), Value.bool (Gr.wants (toR g0)), Value.string (Gr.data (toR g0))]] (by kernel_rfl) (by kernel_rfl) (by kernel_rfl) (by kernel_rfl) (by kernel_rfl) (fun cf => (by kernel_rfl)) ?_
    refine WpFun.of (c) ?_
    refine WpOps.made 15 (Value.slice (some (Addr.mk 1 0 none)) 1 1) (Blk.mk 32 true [Value.iface 3 (Value.iface (List.length (Gr.fr (toR (toR g0)))) (Value.iface (Gr.fx (toR (toR g0))) (Value.agg (List.toArray (List.map (fun n => Value.int IntKind.i64 n) (Gr.fr (toR (toR g0)))))))), Value.iface 3 (Value.iface (List.length (Gr.to (toR (toR g0)))) (Value.iface (Gr.tx (toR (toR g0))) (Value.agg (List.toArray (List.map (fun n => Value.int IntKind.i64 n) (Gr.to (toR (toR g0)))))))), Value.int IntKind.i64 (Gr.number (toR (toR g0))), Value.int IntKind.i64 (Gr.life (toR (toR g0))), Value.int IntKind.i64 (Gr.at' (toR (toR g0))), Value.int IntKind.i64 (Gr.total (toR (toR g0))), Value.int IntKind.i64 (Gr.report (toR (toR g0))), Value.bool (Gr.more (toR (toR g0))), Value.bool (Gr.may (toR (toR g0))), Value.bool (Gr.wants (toR (toR g0))), Value.string (Gr.data (toR (toR g0)))]) (by kernel_rfl) (by kernel_rfl) (by kernel_rfl) ?_ (fun cf => (by kernel_rfl))
    refine WpOps.keep 4 (Value.slice (some (Addr.mk 1 0 none)) 1 1) (by kernel_rfl) (by kernel_rfl) (by kernel_rfl) ?_ (fun cf => (by kernel_rfl))
    refine WpOps.nil ?_
    refine thenK_at ?_
    refine Wp.ret ?_
    refine thenK_ret ?_
    refine endK_retn [Value.slice (some (Addr.mk 1 0 none)) 1 1] (Value.slice (some (Addr.mk 1 0 none)) 1 1) (by kernel_rfl) (by kernel_rfl) ?_
    kernel_rfl
  | false =>
    simp only [cutL, if_neg (of_decide_eq_false hlen)]
    cases hmay : (toR g0).may with
    | false =>
      simp only [Bool.false_eq_true, false_and, if_false]
      refine Fun.of f47 rfl (of_decide_eq_true (by kernel_rfl)) (by kernel_rfl) ?_
      have nm : (!(toR g0).may) = true := by rw [hmay]; rfl
      refine Wp.seq ?_
      refine Wp.text ?_
      refine WpOps.made 2 (Value.pointer (some (Addr.mk 0 0 none))) (Blk.mk 32 true [Value.iface 3 (Value.iface (List.length (Gr.fr (toR g0))) (Value.iface (Gr.fx (toR g0)) (Value.agg (List.toArray (List.map (fun n => Value.int IntKind.i64 n) (Gr.fr (toR g0))))))), Value.iface 3 (Value.iface (List.length (Gr.to (toR g0))) (Value.iface (Gr.tx (toR g0)) (Value.agg (List.toArray (List.map (fun n => Value.int IntKind.i64 n) (Gr.to (toR g0))))))), Value.int IntKind.i64 (Gr.number (toR g0)), Value.int IntKind.i64 (Gr.life (toR g0)), Value.int IntKind.i64 (Gr.at' (toR g0)), Value.int IntKind.i64 (Gr.total (toR g0)), Value.int IntKind.i64 (Gr.report (toR g0)), Value.bool (Gr.more (toR g0)), Value.bool (Gr.may (toR g0)), Value.bool (Gr.wants (toR g0)), Value.string (Gr.data (toR g0))]) (by kernel_rfl) (by kernel_rfl) (by kernel_rfl) ?_ (fun cf => (by kernel_rfl))
      refine WpOps.keep 4 (Value.slice none 0 0) (by kernel_rfl) (by kernel_rfl) (by kernel_rfl) ?_ (fun cf => (by kernel_rfl))
      refine WpOps.nil ?_
      refine thenK_at ?_
      refine Wp.seq ?_
      refine Wp.seq ?_
      refine Wp.text ?_
      refine WpOps.keep 8 (Value.pointer (some (Addr.mk 0 10 none))) (by kernel_rfl) (by kernel_rfl) (by kernel_rfl) ?_ (fun cf => (by kernel_rfl))
      refine WpOps.keep 9 (Value.string (Gr.data (toR g0))) (by kernel_rfl) (by kernel_rfl) (by kernel_rfl) ?_ (fun cf => (by kernel_rfl))
      refine WpOps.keep 10 (Value.int IntKind.i64 (↑(ByteArray.size (Gr.data (toR g0))) : Int)) (by kernel_rfl) (by kernel_rfl) (by kernel_rfl) ?_ (fun cf => (by kernel_rfl))
      refine WpOps.keep 11 (Value.int IntKind.i64 size) (by kernel_rfl) (by kernel_rfl) (by kernel_rfl) ?_ (fun cf => (by kernel_rfl))
      refine WpOps.keep 12 (Value.bool false) (by kernel_rfl) (by kernel_rfl) (by kernel_rfl) ?_ (fun cf => by_fact hlen ((by kernel_rfl)))
      refine WpOps.nil ?_
      refine thenK_at ?_
      refine Wp.off (by kernel_rfl) ?_
      refine Wp.skip ?_
      refine thenK_at ?_
      refine Wp.seq ?_
      refine Wp.text ?_
      refine WpOps.keep 16 (Value.int IntKind.i64 size) (by kernel_rfl) (by kernel_rfl) (by kernel_rfl) ?_ (fun cf => (by kernel_rfl))
      refine WpOps.keep 17 (Value.int IntKind.i64 size) (by kernel_rfl) (by kernel_rfl) (by kernel_rfl) ?_ (fun cf => (by kernel_rfl))
      refine WpOps.keep 18 (Value.int IntKind.i64 (Int.tmod size 8)) (by kernel_rfl) (by kernel_rfl) (by kernel_rfl) ?_ (fun cf => (by kernel_rfl))
      refine WpOps.keep 19 (Value.int IntKind.i64 (IntKind.wrap IntKind.i64 (size - Int.tmod size 8))) (by kernel_rfl) (by kernel_rfl) (by kernel_rfl) ?_ (fun cf => (by kernel_rfl))
      refine WpOps.keep 1 (Value.int IntKind.i64 (IntKind.wrap IntKind.i64 (size - Int.tmod size 8))) (by kernel_rfl) (by kernel_rfl) (by kernel_rfl) ?_ (fun cf => (by kernel_rfl))
      refine WpOps.nil ?_
      refine thenK_at ?_
      refine Wp.seq ?_
      refine Wp.seq ?_
      refine Wp.text ?_
      refine WpOps.keep 20 (Value.pointer (some (Addr.mk 0 8 none))) (by kernel_rfl) (by kernel_rfl) (by kernel_rfl) ?_ (fun cf => (by kernel_rfl))
      refine WpOps.keep 21 (Value.bool false) (by kernel_rfl) (by kernel_rfl) (by kernel_rfl) ?_ (fun cf => by_fact hmay ((by kernel_rfl)))
      refine WpOps.keep 22 (Value.bool true) (by kernel_rfl) (by kernel_rfl) (by kernel_rfl) ?_ (fun cf => (by kernel_rfl))
      refine WpOps.keep 23 (Value.bool true) (by kernel_rfl) (by kernel_rfl) (by kernel_rfl) ?_ (fun cf => (by kernel_rfl))
      refine WpOps.unmet 24 (by kernel_rfl) (by kernel_rfl) (by kernel_rfl) ?_
      refine WpOps.unmet 25 (by kernel_rfl) (by kernel_rfl) (by kernel_rfl) ?_
      refine WpOps.keep 26 (Value.bool true) (by kernel_rfl) (by kernel_rfl) (by kernel_rfl) ?_ (fun cf => (by kernel_rfl))
      refine WpOps.nil ?_
      refine thenK_at ?_
      refine Wp.on (by kernel_rfl) ?_
      refine Wp.seq ?_
      refine Wp.text ?_
      refine WpOps.keep 4 (Value.slice none 0 0) (by kernel_rfl) (by kernel_rfl) (by kernel_rfl) ?_ (fun cf => (by kernel_rfl))
      refine WpOps.nil ?_
      refine thenK_at ?_
      refine Wp.ret ?_
      refine thenK_ret ?_
      refine endK_retn [Value.slice none 0 0] (Value.slice none 0 0) (by kernel_rfl) (by kernel_rfl) ?_
      kernel_rfl
    | true =>
      rcases Nat.eq_zero_or_pos (s8 size) with h0 | h0
      · simp only [h0, ne_eq, not_true, and_false, if_false]
        refine Fun.of f47 rfl (of_decide_eq_true (by kernel_rfl)) (by kernel_rfl) ?_
        have nm : (!(toR g0).may) = false := by rw [hmay]; rfl
        have z : (IntKind.i64.wrap (size - size.tmod 8) == 0) = true := by
          rw [hs, h0]; rfl
        refine Wp.seq ?_
        refine Wp.text ?_
        refine WpOps.made 2 (Value.pointer (some (Addr.mk 0 0 none))) (Blk.mk 32 true [Value.iface 3 (Value.iface (List.length (Gr.fr (toR g0))) (Value.iface (Gr.fx (toR g0)) (Value.agg (List.toArray (List.map (fun n => Value.int IntKind.i64 n) (Gr.fr (toR g0))))))), Value.iface 3 (Value.iface (List.length (Gr.to (toR g0))) (Value.iface (Gr.tx (toR g0)) (Value.agg (List.toArray (List.map (fun n => Value.int IntKind.i64 n) (Gr.to (toR g0))))))), Value.int IntKind.i64 (Gr.number (toR g0)), Value.int IntKind.i64 (Gr.life (toR g0)), Value.int IntKind.i64 (Gr.at' (toR g0)), Value.int IntKind.i64 (Gr.total (toR g0)), Value.int IntKind.i64 (Gr.report (toR g0)), Value.bool (Gr.more (toR g0)), Value.bool (Gr.may (toR g0)), Value.bool (Gr.wants (toR g0)), Value.string (Gr.data (toR g0))]) (by kernel_rfl) (by kernel_rfl) (by kernel_rfl) ?_ (fun cf => (by kernel_rfl))
        refine WpOps.keep 4 (Value.slice none 0 0) (by kernel_rfl) (by kernel_rfl) (by kernel_rfl) ?_ (fun cf => (by kernel_rfl))
        refine WpOps.nil ?_
        refine thenK_at ?_
        refine Wp.seq ?_
        refine Wp.seq ?_
        refine Wp.text ?_
        refine WpOps.keep 8 (Value.pointer (some (Addr.mk 0 10 none))) (by kernel_rfl) (by kernel_rfl) (by kernel_rfl) ?_ (fun cf => (by kernel_rfl))
        refine WpOps.keep 9 (Value.string (Gr.data (toR g0))) (by kernel_rfl) (by kernel_rfl) (by kernel_rfl) ?_ (fun cf => (by kernel_rfl))
        refine WpOps.keep 10 (Value.int IntKind.i64 (↑(ByteArray.size (Gr.data (toR g0))) : Int)) (by kernel_rfl) (by kernel_rfl) (by kernel_rfl) ?_ (fun cf => (by kernel_rfl))
        refine WpOps.keep 11 (Value.int IntKind.i64 size) (by kernel_rfl) (by kernel_rfl) (by kernel_rfl) ?_ (fun cf => (by kernel_rfl))
        refine WpOps.keep 12 (Value.bool false) (by kernel_rfl) (by kernel_rfl) (by kernel_rfl) ?_ (fun cf => by_fact hlen ((by kernel_rfl)))
        refine WpOps.nil ?_
        refine thenK_at ?_
        refine Wp.off (by kernel_rfl) ?_
        refine Wp.skip ?_
        refine thenK_at ?_
        refine Wp.seq ?_
        refine Wp.text ?_
        refine WpOps.keep 16 (Value.int IntKind.i64 size) (by kernel_rfl) (by kernel_rfl) (by kernel_rfl) ?_ (fun cf => (by kernel_rfl))
        refine WpOps.keep 17 (Value.int IntKind.i64 size) (by kernel_rfl) (by kernel_rfl) (by kernel_rfl) ?_ (fun cf => (by kernel_rfl))
        refine WpOps.keep 18 (Value.int IntKind.i64 (Int.tmod size 8)) (by kernel_rfl) (by kernel_rfl) (by kernel_rfl) ?_ (fun cf => (by kernel_rfl))
        refine WpOps.keep 19 (Value.int IntKind.i64 (IntKind.wrap IntKind.i64 (size - Int.tmod size 8))) (by kernel_rfl) (by kernel_rfl) (by kernel_rfl) ?_ (fun cf => (by kernel_rfl))
        refine WpOps.keep 1 (Value.int IntKind.i64 (IntKind.wrap IntKind.i64 (size - Int.tmod size 8))) (by kernel_rfl) (by kernel_rfl) (by kernel_rfl) ?_ (fun cf => (by kernel_rfl))
        refine WpOps.nil ?_
        refine thenK_at ?_
        refine Wp.seq ?_
        refine Wp.seq ?_
        refine Wp.text ?_
        refine WpOps.keep 20 (Value.pointer (some (Addr.mk 0 8 none))) (by kernel_rfl) (by kernel_rfl) (by kernel_rfl) ?_ (fun cf => (by kernel_rfl))
        refine WpOps.keep 21 (Value.bool true) (by kernel_rfl) (by kernel_rfl) (by kernel_rfl) ?_ (fun cf => by_fact hmay ((by kernel_rfl)))
        refine WpOps.keep 22 (Value.bool false) (by kernel_rfl) (by kernel_rfl) (by kernel_rfl) ?_ (fun cf => (by kernel_rfl))
        refine WpOps.keep 23 (Value.bool false) (by kernel_rfl) (by kernel_rfl) (by kernel_rfl) ?_ (fun cf => (by kernel_rfl))
        refine WpOps.keep 24 (Value.int IntKind.i64 (IntKind.wrap IntKind.i64 (size - Int.tmod size 8))) (by kernel_rfl) (by kernel_rfl) (by kernel_rfl) ?_ (fun cf => (by kernel_rfl))
        refine WpOps.keep 25 (Value.bool true) (by kernel_rfl) (by kernel_rfl) (by kernel_rfl) ?_ (fun cf => by_fact z ((by kernel_rfl)))
        refine WpOps.keep 26 (Value.bool true) (by kernel_rfl) (by kernel_rfl) (by kernel_rfl) ?_ (fun cf => (by kernel_rfl))
        refine WpOps.nil ?_
        refine thenK_at ?_
        refine Wp.on (by kernel_rfl) ?_
        refine Wp.seq ?_
        refine Wp.text ?_
        refine WpOps.keep 4 (Value.slice none 0 0) (by kernel_rfl) (by kernel_rfl) (by kernel_rfl) ?_ (fun cf => (by kernel_rfl))
        refine WpOps.nil ?_
        refine thenK_at ?_
        refine Wp.ret ?_
        refine thenK_ret ?_
        refine endK_retn [Value.slice none 0 0] (Value.slice none 0 0) (by kernel_rfl) (by kernel_rfl) ?_
        kernel_rfl
      · rw [if_pos ⟨rfl, by omega⟩]
        have := cut47_many g0 ok size h1 h2 hd (s8 size) hs hs2 hlen hmay h0
        simp only [listV, grams, pcs_len]
        exact this

end Go.Proofs.Ytpkkcpglbjbgfaa.D
