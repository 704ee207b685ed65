/- datagram.cut and Cut. -/
import Derived.Test.YtpkkcpglbjbgfaaFwLem
import Derived.Test.YtpkkcpglbjbgfaaF14d
namespace Go.Proofs.Ytpkkcpglbjbgfaa.D
open Go.Fw Go.RowKit

/-- A datagram of its own memory. -/
def ownG (g : Gr) : Gr := { g with fx := nx g.fx, tx := nx g.tx }
/-- Where a piece from a place on ends. -/
def hiI (g : Gr) (s k : Nat) : Int := if (g.data.size : Int) < IntKind.i64.wrap (((k * s : Nat) : Int) + (s : Int)) then (g.data.size : Int) else IntKind.i64.wrap (((k * s : Nat) : Int) + (s : Int))
def dataAt (g : Gr) (s k : Nat) : ByteArray := g.data.extract ((k * s : Nat) : Int).toNat (hiI g s k).toNat
/-- The k-th piece. -/
def piece (g : Gr) (s k : Nat) : Gr :=
  { ownG g with at' := IntKind.i64.wrap (g.at' + ((k * s : Nat) : Int)), data := dataAt g s k, more := decide (IntKind.i64.wrap (IntKind.i64.wrap (g.at' + ((k * s : Nat) : Int)) + ((dataAt g s k).size : Int)) < g.total) }
def pcs (g : Gr) (s k : Nat) : List Gr := (List.range k).map (piece g s)
def cellsG (l : List Gr) : List Value := l.flatMap gc
theorem pcs_succ (g : Gr) (s k : Nat) : pcs g s (k + 1) = pcs g s k ++ [piece g s k] := by simp [pcs, List.range_succ]
theorem cellsG_succ (g : Gr) (s k : Nat) : cellsG (pcs g s (k + 1)) = cellsG (pcs g s k) ++ gc (piece g s k) := by simp [pcs_succ, cellsG]
theorem cellsG_len (l : List Gr) : (cellsG l).length = l.length * 11 := by
  induction l with
  | nil => rfl
  | cons g r ih => simp only [cellsG, List.flatMap_cons, List.length_append, List.length_cons] at ih ⊢; rw [ih]; simp only [gc, List.length_cons, List.length_nil]; omega
theorem gc_flat (g : Gr) : (gc g).all flat = true := rfl
theorem cellsG_flat (l : List Gr) : (cellsG l).all flat = true := by
  rw [List.all_eq_true]
  intro v hv
  obtain ⟨g, _, hg⟩ := List.mem_flatMap.1 hv
  exact List.all_eq_true.1 (gc_flat g) v hg
theorem pcs_len (g : Gr) (s k : Nat) : (pcs g s k).length = k := by simp [pcs]
theorem cells_all (g : Gr) (s k : Nat) : cellsAt (cellsG (pcs g s k)) 0 (k * 11) = some (cellsG (pcs g s k)) := by
  have h := cellsG_len (pcs g s k)
  rw [pcs_len] at h
  simp only [cellsAt, Nat.zero_add, h, Nat.le_refl, if_true, List.drop_zero]
  rw [List.take_of_length_le (by rw [h]; exact Nat.le_refl _)]

theorem types24 : (E.types 24).map TI.size = some 11 := by kernel_rfl
theorem types32 : (E.types 32).map TI.size = some 11 := by kernel_rfl
theorem ice_pair {hp : Heap} {b n c : Nat} {o : Nat} {v u w : Value} (h1 : iceC E hp 4 (.slice (some ⟨b, o, none⟩) n c) = some u) (h2 : iceW E hp v = some w) : iceV E hp (.tuple #[.slice (some ⟨b, o, none⟩) n c, v]) = some (.tuple #[u, w]) := by
  have h3 : iceW E hp (.slice (some ⟨b, o, none⟩) n c) = some u := h1
  simp only [iceV, mapO, h3, h2, Option.map_some]
theorem f45 : E.funcs 45 = some Try.f45 := by kernel_rfl

theorem wr (z : Int) (h0 : 0 ≤ z) (h1 : z ≤ 9223372036854775807) : IntKind.i64.wrap z = z := wrap_i64 z h0 h1
/-- How many pieces. -/
def many (g : Gr) (s : Nat) : Nat := (g.data.size + s - 1) / s
theorem hi_eq (g : Gr) (s k : Nat) (hs2 : s ≤ 4000) (hk : k * s < g.data.size) (hd : g.data.size ≤ 4000) : hiI g s k = ((min (k * s + s) g.data.size : Nat) : Int) := by
  have e : IntKind.i64.wrap (((k * s : Nat) : Int) + (s : Int)) = ((k * s + s : Nat) : Int) := by rw [wr] <;> omega
  simp only [hiI, e]
  split <;> omega

theorem cut45_many (g : Gr) (ok : OkGr g) (size : Int) (h1 : 1 ≤ size) (h2 : size ≤ 4000) (hd : g.data.size ≤ 4000) (s : Nat) (hs : IntKind.i64.wrap (IntKind.i64.wrap (size.tdiv 8) * 8) = (s : Int)) (hs2 : s ≤ 4000) (hlen : decide ((g.data.size : Int) ≤ size) = false) (hmay : g.may = true) (hs0 : 0 < s) : Fun E 45 [gv g, .int .i64 size] (.tuple #[FS 24 (many g s) 0 (cellsG (pcs g s (many g s))).toArray, .bool true]) := by
  refine Fun.of f45 rfl (of_decide_eq_true (by kernel_rfl)) (by kernel_rfl) ?_
  have c := own64 g ok
  have z : (IntKind.i64.wrap (IntKind.i64.wrap (size.tdiv 8) * 8) == 0) = false := by
    rw [hs]
    simp
    omega
  have hm0 : 0 < g.data.size := by
    have := of_decide_eq_false hlen
    omega
  refine Wp.seq ?_
  refine Wp.text ?_
  refine WpOps.made 2 (Value.pointer (some (Addr.mk 0 0 none))) (Blk.mk 24 true [Value.iface 3 (Value.iface (List.length (Gr.fr g)) (Value.iface (Gr.fx g) (Value.agg (List.toArray (List.map (fun n => Value.int IntKind.i64 n) (Gr.fr g)))))), Value.iface 3 (Value.iface (List.length (Gr.to g)) (Value.iface (Gr.tx g) (Value.agg (List.toArray (List.map (fun n => Value.int IntKind.i64 n) (Gr.to g)))))), Value.int IntKind.i64 (Gr.number g), Value.int IntKind.i64 (Gr.life g), Value.int IntKind.i64 (Gr.at' g), Value.int IntKind.i64 (Gr.total g), Value.int IntKind.i64 (Gr.report g), Value.bool (Gr.more g), Value.bool (Gr.may g), Value.bool (Gr.wants g), Value.string (Gr.data g)]) (by kernel_rfl) (by kernel_rfl) (by kernel_rfl) ?_ (fun cf => (by kernel_rfl))
  refine WpOps.keep 4 (Value.slice none 0 0) (by kernel_rfl) (by kernel_rfl) (by kernel_rfl) ?_ (fun cf => (by kernel_rfl))
  refine WpOps.keep 5 (Value.bool false) (by kernel_rfl) (by kernel_rfl) (by kernel_rfl) ?_ (fun cf => (by kernel_rfl))
  refine WpOps.nil ?_
  refine thenK_at ?_
  refine Wp.seq ?_
  refine Wp.seq ?_
  refine Wp.text ?_
  refine WpOps.keep 9 (Value.pointer (some (Addr.mk 0 10 none))) (by kernel_rfl) (by kernel_rfl) (by kernel_rfl) ?_ (fun cf => (by kernel_rfl))
  refine WpOps.keep 10 (Value.string (Gr.data g)) (by kernel_rfl) (by kernel_rfl) (by kernel_rfl) ?_ (fun cf => (by kernel_rfl))
  refine WpOps.keep 11 (Value.int IntKind.i64 (↑(ByteArray.size (Gr.data g)) : Int)) (by kernel_rfl) (by kernel_rfl) (by kernel_rfl) ?_ (fun cf => (by kernel_rfl))
  refine WpOps.keep 12 (Value.int IntKind.i64 size) (by kernel_rfl) (by kernel_rfl) (by kernel_rfl) ?_ (fun cf => (by kernel_rfl))
  refine WpOps.keep 13 (Value.bool false) (by kernel_rfl) (by kernel_rfl) (by kernel_rfl) ?_ (fun cf => by_fact hlen ((by kernel_rfl)))
  refine WpOps.nil ?_
  refine thenK_at ?_
  refine Wp.off (by kernel_rfl) ?_
  refine Wp.skip ?_
  refine thenK_at ?_
  refine Wp.seq ?_
  refine Wp.text ?_
  refine WpOps.keep 17 (Value.int IntKind.i64 size) (by kernel_rfl) (by kernel_rfl) (by kernel_rfl) ?_ (fun cf => (by kernel_rfl))
  refine WpOps.keep 18 (Value.int IntKind.i64 (IntKind.wrap IntKind.i64 (Int.tdiv size 8))) (by kernel_rfl) (by kernel_rfl) (by kernel_rfl) ?_ (fun cf => (by kernel_rfl))
  refine WpOps.keep 19 (Value.int IntKind.i64 (IntKind.wrap IntKind.i64 (IntKind.wrap IntKind.i64 (Int.tdiv size 8) * 8))) (by kernel_rfl) (by kernel_rfl) (by kernel_rfl) ?_ (fun cf => (by kernel_rfl))
  refine WpOps.keep 1 (Value.int IntKind.i64 (IntKind.wrap IntKind.i64 (IntKind.wrap IntKind.i64 (Int.tdiv size 8) * 8))) (by kernel_rfl) (by kernel_rfl) (by kernel_rfl) ?_ (fun cf => (by kernel_rfl))
  refine WpOps.nil ?_
  refine thenK_at ?_
  refine Wp.seq ?_
  refine Wp.seq ?_
  refine Wp.text ?_
  refine WpOps.keep 20 (Value.pointer (some (Addr.mk 0 8 none))) (by kernel_rfl) (by kernel_rfl) (by kernel_rfl) ?_ (fun cf => (by kernel_rfl))
  refine WpOps.keep 21 (Value.bool true) (by kernel_rfl) (by kernel_rfl) (by kernel_rfl) ?_ (fun cf => by_fact hmay ((by kernel_rfl)))
  refine WpOps.keep 22 (Value.bool !true) (by kernel_rfl) (by kernel_rfl) (by kernel_rfl) ?_ (fun cf => (by kernel_rfl))
  refine WpOps.keep 23 (Value.bool !true) (by kernel_rfl) (by kernel_rfl) (by kernel_rfl) ?_ (fun cf => (by kernel_rfl))
  refine WpOps.keep 24 (Value.int IntKind.i64 (IntKind.wrap IntKind.i64 (IntKind.wrap IntKind.i64 (Int.tdiv size 8) * 8))) (by kernel_rfl) (by kernel_rfl) (by kernel_rfl) ?_ (fun cf => (by kernel_rfl))
  refine WpOps.keep 25 (Value.bool false) (by kernel_rfl) (by kernel_rfl) (by kernel_rfl) ?_ (fun cf => by_fact z ((by kernel_rfl)))
  refine WpOps.keep 26 (Value.bool false) (by kernel_rfl) (by kernel_rfl) (by kernel_rfl) ?_ (fun cf => (by kernel_rfl))
  refine WpOps.nil ?_
  refine thenK_at ?_
  refine Wp.off (by kernel_rfl) ?_
  refine Wp.skip ?_
  refine thenK_at ?_
  refine Wp.seq ?_
  refine Wp.text ?_
  refine WpOps.keep 6 (Value.slice none 0 0) (by kernel_rfl) (by kernel_rfl) (by kernel_rfl) ?_ (fun cf => (by kernel_rfl))
  refine WpOps.nil ?_
  refine thenK_at ?_
  refine Wp.seq ?_
  refine Wp.seq ?_
  refine Wp.text ?_
  refine WpOps.keep 7 (Value.int IntKind.i64 0) (by kernel_rfl) (by kernel_rfl) (by kernel_rfl) ?_ (fun cf => (by kernel_rfl))
  refine WpOps.nil ?_
  refine thenK_at ?_
  refine Wp.block ?_
  refine Wp.view (View.of [0] [⟨24, true, gc g⟩] [(1, .int .i64 (s : Int)), (2, .pointer (some ⟨0, 0, none⟩)), (6, .slice none 0 0), (7, .int .i64 ((0 * s : Nat) : Int))] (by decide) rfl ⟨⟨gc g, by kernel_rfl, CellsOk.eq rfl (gc_flat g)⟩, trivial⟩
    ⟨⟨congrArg (Value.int .i64) hs, rfl⟩, ⟨by kernel_rfl, rfl⟩, ⟨by kernel_rfl, rfl⟩, ⟨congrArg (Value.int .i64) (by rw [Nat.zero_mul]; rfl), rfl⟩, trivial⟩) ?_
  refine Wp.unroll (WpL.step ?_)
  have hk0 : 0 * s < g.data.size := by omega
  have e0 := hi_eq g s 0 hs2 hk0 hd
  have hc0 : decide (((0 * s : Nat) : Int) < (g.data.size : Int)) = true := decide_eq_true (by omega)
  have t1 : 0 ≤ hiI g s 0 ∧ hiI g s 0 ≤ (g.data.size : Int) := by omega
  have t2 : 0 ≤ ((0 * s : Nat) : Int) ∧ ((0 * s : Nat) : Int) ≤ ((hiI g s 0).toNat : Int) := by omega
  simp only [hiI] at t1 t2
  refine Wp.seq ?_
  refine Wp.seq ?_
  refine Wp.text ?_
  refine WpOps.keep 27 (Value.int IntKind.i64 (↑(0 * s) : Int)) (by kernel_rfl) (by kernel_rfl) (by kernel_rfl) ?_ (fun cf => (by kernel_rfl))
  refine WpOps.keep 28 (Value.pointer (some (Addr.mk 0 10 none))) (by kernel_rfl) (by kernel_rfl) (by kernel_rfl) ?_ (fun cf => (by kernel_rfl))
  refine WpOps.keep 29 (Value.string (Gr.data g)) (by kernel_rfl) (by kernel_rfl) (by kernel_rfl) ?_ (fun cf => (by kernel_rfl))
  refine WpOps.keep 30 (Value.int IntKind.i64 (↑(ByteArray.size (Gr.data g)) : Int)) (by kernel_rfl) (by kernel_rfl) (by kernel_rfl) ?_ (fun cf => (by kernel_rfl))
  refine WpOps.keep 31 (Value.bool true) (by kernel_rfl) (by kernel_rfl) (by kernel_rfl) ?_ (fun cf => by_fact hc0 ((by kernel_rfl)))
  refine WpOps.nil ?_
  refine thenK_at ?_
  refine Wp.on (by kernel_rfl) ?_
  refine Wp.skip ?_
  refine thenK_at ?_
  refine Wp.seq ?_
  refine Wp.block ?_
  refine Wp.seq ?_
  refine Wp.text ?_
  refine WpOps.keep 35 (Value.agg #[Value.iface 3 (Value.iface (List.length (Gr.fr g)) (Value.iface (Gr.fx g) (Value.agg (List.toArray (List.map (fun n => Value.int IntKind.i64 n) (Gr.fr g)))))), Value.iface 3 (Value.iface (List.length (Gr.to g)) (Value.iface (Gr.tx g) (Value.agg (List.toArray (List.map (fun n => Value.int IntKind.i64 n) (Gr.to g)))))), Value.int IntKind.i64 (Gr.number g), Value.int IntKind.i64 (Gr.life g), Value.int IntKind.i64 (Gr.at' g), Value.int IntKind.i64 (Gr.total g), Value.int IntKind.i64 (Gr.report g), Value.bool (Gr.more g), Value.bool (Gr.may g), Value.bool (Gr.wants g), Value.string (Gr.data g)]) (by kernel_rfl) (by kernel_rfl) (by kernel_rfl) ?_ (fun cf => (by kernel_rfl))
  refine WpOps.framed 36 64 [Value.agg #[Value.iface 3 (Value.iface (List.length (Gr.fr g)) (Value.iface (Gr.fx g) (Value.agg (List.toArray (List.map (fun n => Value.int IntKind.i64 n) (Gr.fr g)))))), Value.iface 3 (Value.iface (List.length (Gr.to g)) (Value.iface (Gr.tx g) (Value.agg (List.toArray (List.map (fun n => Value.int IntKind.i64 n) (Gr.to g)))))), Value.int IntKind.i64 (Gr.number g), Value.int IntKind.i64 (Gr.life g), Value.int IntKind.i64 (Gr.at' g), Value.int IntKind.i64 (Gr.total g), Value.int IntKind.i64 (Gr.report g), Value.bool (Gr.more g), Value.bool (Gr.may g), Value.bool (Gr.wants g), Value.string (Gr.data g)]] (by kernel_rfl) (by kernel_rfl) (by kernel_rfl) (by kernel_rfl) (by kernel_rfl) (fun cf => (by kernel_rfl)) ?_
  refine WpFun.of (c) ?_
  refine WpOps.made 8 (Value.pointer (some (Addr.mk 1 0 none))) (Blk.mk 24 true [Value.slice none 0 0, Value.slice none 0 0, Value.int IntKind.i64 0, Value.int IntKind.i64 0, Value.int IntKind.i64 0, Value.int IntKind.i64 0, Value.int IntKind.i64 0, Value.bool false, Value.bool false, Value.bool false, Value.string (ByteArray.mk #[])]) (by kernel_rfl) (by kernel_rfl) (by kernel_rfl) ?_ (fun cf => (by kernel_rfl))
  refine WpOps.laid (Value.tuple #[]) (1) (Blk.mk 24 true [Value.iface 3 (Value.iface (List.length (Gr.fr (Gr.mk (nx (Gr.fx g)) (Gr.fr g) (nx (Gr.tx g)) (Gr.to g) (Gr.number g) (Gr.life g) (Gr.at' g) (Gr.total g) (Gr.report g) (Gr.more g) (Gr.may g) (Gr.wants g) (Gr.data g)))) (Value.iface (Gr.fx (Gr.mk (nx (Gr.fx g)) (Gr.fr g) (nx (Gr.tx g)) (Gr.to g) (Gr.number g) (Gr.life g) (Gr.at' g) (Gr.total g) (Gr.report g) (Gr.more g) (Gr.may g) (Gr.wants g) (Gr.data g))) (Value.agg (List.toArray (List.map (fun n => Value.int IntKind.i64 n) (Gr.fr (Gr.mk (nx (Gr.fx g)) (Gr.fr g) (nx (Gr.tx g)) (Gr.to g) (Gr.number g) (Gr.life g) (Gr.at' g) (Gr.total g) (Gr.report g) (Gr.more g) (Gr.may g) (Gr.wants g) (Gr.data g)))))))), Value.iface 3 (Value.iface (List.length (Gr.to (Gr.mk (nx (Gr.fx g)) (Gr.fr g) (nx (Gr.tx g)) (Gr.to g) (Gr.number g) (Gr.life g) (Gr.at' g) (Gr.total g) (Gr.report g) (Gr.more g) (Gr.may g) (Gr.wants g) (Gr.data g)))) (Value.iface (Gr.tx (Gr.mk (nx (Gr.fx g)) (Gr.fr g) (nx (Gr.tx g)) (Gr.to g) (Gr.number g) (Gr.life g) (Gr.at' g) (Gr.total g) (Gr.report g) (Gr.more g) (Gr.may g) (Gr.wants g) (Gr.data g))) (Value.agg (List.toArray (List.map (fun n => Value.int IntKind.i64 n) (Gr.to (Gr.mk (nx (Gr.fx g)) (Gr.fr g) (nx (Gr.tx g)) (Gr.to g) (Gr.number g) (Gr.life g) (Gr.at' g) (Gr.total g) (Gr.report g) (Gr.more g) (Gr.may g) (Gr.wants g) (Gr.data g)))))))), Value.int IntKind.i64 (Gr.number (Gr.mk (nx (Gr.fx g)) (Gr.fr g) (nx (Gr.tx g)) (Gr.to g) (Gr.number g) (Gr.life g) (Gr.at' g) (Gr.total g) (Gr.report g) (Gr.more g) (Gr.may g) (Gr.wants g) (Gr.data g))), Value.int IntKind.i64 (Gr.life (Gr.mk (nx (Gr.fx g)) (Gr.fr g) (nx (Gr.tx g)) (Gr.to g) (Gr.number g) (Gr.life g) (Gr.at' g) (Gr.total g) (Gr.report g) (Gr.more g) (Gr.may g) (Gr.wants g) (Gr.data g))), Value.int IntKind.i64 (Gr.at' (Gr.mk (nx (Gr.fx g)) (Gr.fr g) (nx (Gr.tx g)) (Gr.to g) (Gr.number g) (Gr.life g) (Gr.at' g) (Gr.total g) (Gr.report g) (Gr.more g) (Gr.may g) (Gr.wants g) (Gr.data g))), Value.int IntKind.i64 (Gr.total (Gr.mk (nx (Gr.fx g)) (Gr.fr g) (nx (Gr.tx g)) (Gr.to g) (Gr.number g) (Gr.life g) (Gr.at' g) (Gr.total g) (Gr.report g) (Gr.more g) (Gr.may g) (Gr.wants g) (Gr.data g))), Value.int IntKind.i64 (Gr.report (Gr.mk (nx (Gr.fx g)) (Gr.fr g) (nx (Gr.tx g)) (Gr.to g) (Gr.number g) (Gr.life g) (Gr.at' g) (Gr.total g) (Gr.report g) (Gr.more g) (Gr.may g) (Gr.wants g) (Gr.data g))), Value.bool (Gr.more (Gr.mk (nx (Gr.fx g)) (Gr.fr g) (nx (Gr.tx g)) (Gr.to g) (Gr.number g) (Gr.life g) (Gr.at' g) (Gr.total g) (Gr.report g) (Gr.more g) (Gr.may g) (Gr.wants g) (Gr.data g))), Value.bool (Gr.may (Gr.mk (nx (Gr.fx g)) (Gr.fr g) (nx (Gr.tx g)) (Gr.to g) (Gr.number g) (Gr.life g) (Gr.at' g) (Gr.total g) (Gr.report g) (Gr.more g) (Gr.may g) (Gr.wants g) (Gr.data g))), Value.bool (Gr.wants (Gr.mk (nx (Gr.fx g)) (Gr.fr g) (nx (Gr.tx g)) (Gr.to g) (Gr.number g) (Gr.life g) (Gr.at' g) (Gr.total g) (Gr.report g) (Gr.more g) (Gr.may g) (Gr.wants g) (Gr.data g))), Value.string (Gr.data (Gr.mk (nx (Gr.fx g)) (Gr.fr g) (nx (Gr.tx g)) (Gr.to g) (Gr.number g) (Gr.life g) (Gr.at' g) (Gr.total g) (Gr.report g) (Gr.more g) (Gr.may g) (Gr.wants g) (Gr.data g)))]) (by kernel_rfl) (by kernel_rfl) (by kernel_rfl) ?_ (fun cf => (by kernel_rfl))
  refine WpOps.nil ?_
  refine thenK_at ?_
  refine Wp.seq ?_
  refine Wp.text ?_
  refine WpOps.keep 37 (Value.pointer (some (Addr.mk 0 4 none))) (by kernel_rfl) (by kernel_rfl) (by kernel_rfl) ?_ (fun cf => (by kernel_rfl))
  refine WpOps.keep 38 (Value.int IntKind.i64 (Gr.at' g)) (by kernel_rfl) (by kernel_rfl) (by kernel_rfl) ?_ (fun cf => (by kernel_rfl))
  refine WpOps.keep 39 (Value.int IntKind.i64 (↑(0 * s) : Int)) (by kernel_rfl) (by kernel_rfl) (by kernel_rfl) ?_ (fun cf => (by kernel_rfl))
  refine WpOps.keep 40 (Value.int IntKind.i64 (IntKind.wrap IntKind.i64 (Gr.at' g + (↑(0 * s) : Int)))) (by kernel_rfl) (by kernel_rfl) (by kernel_rfl) ?_ (fun cf => (by kernel_rfl))
  refine WpOps.keep 41 (Value.pointer (some (Addr.mk 1 4 none))) (by kernel_rfl) (by kernel_rfl) (by kernel_rfl) ?_ (fun cf => (by kernel_rfl))
  refine WpOps.laid (Value.tuple #[]) (1) (Blk.mk 24 true [Value.iface 3 (Value.iface (List.length (Gr.fr (Gr.mk (nx (Gr.fx g)) (Gr.fr g) (nx (Gr.tx g)) (Gr.to g) (Gr.number g) (Gr.life g) (Gr.at' g) (Gr.total g) (Gr.report g) (Gr.more g) (Gr.may g) (Gr.wants g) (Gr.data g)))) (Value.iface (Gr.fx (Gr.mk (nx (Gr.fx g)) (Gr.fr g) (nx (Gr.tx g)) (Gr.to g) (Gr.number g) (Gr.life g) (Gr.at' g) (Gr.total g) (Gr.report g) (Gr.more g) (Gr.may g) (Gr.wants g) (Gr.data g))) (Value.agg (List.toArray (List.map (fun n => Value.int IntKind.i64 n) (Gr.fr (Gr.mk (nx (Gr.fx g)) (Gr.fr g) (nx (Gr.tx g)) (Gr.to g) (Gr.number g) (Gr.life g) (Gr.at' g) (Gr.total g) (Gr.report g) (Gr.more g) (Gr.may g) (Gr.wants g) (Gr.data g)))))))), Value.iface 3 (Value.iface (List.length (Gr.to (Gr.mk (nx (Gr.fx g)) (Gr.fr g) (nx (Gr.tx g)) (Gr.to g) (Gr.number g) (Gr.life g) (Gr.at' g) (Gr.total g) (Gr.report g) (Gr.more g) (Gr.may g) (Gr.wants g) (Gr.data g)))) (Value.iface (Gr.tx (Gr.mk (nx (Gr.fx g)) (Gr.fr g) (nx (Gr.tx g)) (Gr.to g) (Gr.number g) (Gr.life g) (Gr.at' g) (Gr.total g) (Gr.report g) (Gr.more g) (Gr.may g) (Gr.wants g) (Gr.data g))) (Value.agg (List.toArray (List.map (fun n => Value.int IntKind.i64 n) (Gr.to (Gr.mk (nx (Gr.fx g)) (Gr.fr g) (nx (Gr.tx g)) (Gr.to g) (Gr.number g) (Gr.life g) (Gr.at' g) (Gr.total g) (Gr.report g) (Gr.more g) (Gr.may g) (Gr.wants g) (Gr.data g)))))))), Value.int IntKind.i64 (Gr.number (Gr.mk (nx (Gr.fx g)) (Gr.fr g) (nx (Gr.tx g)) (Gr.to g) (Gr.number g) (Gr.life g) (Gr.at' g) (Gr.total g) (Gr.report g) (Gr.more g) (Gr.may g) (Gr.wants g) (Gr.data g))), Value.int IntKind.i64 (Gr.life (Gr.mk (nx (Gr.fx g)) (Gr.fr g) (nx (Gr.tx g)) (Gr.to g) (Gr.number g) (Gr.life g) (Gr.at' g) (Gr.total g) (Gr.report g) (Gr.more g) (Gr.may g) (Gr.wants g) (Gr.data g))), Value.int IntKind.i64 (IntKind.wrap IntKind.i64 (Gr.at' g + (↑(0 * s) : Int))), Value.int IntKind.i64 (Gr.total (Gr.mk (nx (Gr.fx g)) (Gr.fr g) (nx (Gr.tx g)) (Gr.to g) (Gr.number g) (Gr.life g) (Gr.at' g) (Gr.total g) (Gr.report g) (Gr.more g) (Gr.may g) (Gr.wants g) (Gr.data g))), Value.int IntKind.i64 (Gr.report (Gr.mk (nx (Gr.fx g)) (Gr.fr g) (nx (Gr.tx g)) (Gr.to g) (Gr.number g) (Gr.life g) (Gr.at' g) (Gr.total g) (Gr.report g) (Gr.more g) (Gr.may g) (Gr.wants g) (Gr.data g))), Value.bool (Gr.more (Gr.mk (nx (Gr.fx g)) (Gr.fr g) (nx (Gr.tx g)) (Gr.to g) (Gr.number g) (Gr.life g) (Gr.at' g) (Gr.total g) (Gr.report g) (Gr.more g) (Gr.may g) (Gr.wants g) (Gr.data g))), Value.bool (Gr.may (Gr.mk (nx (Gr.fx g)) (Gr.fr g) (nx (Gr.tx g)) (Gr.to g) (Gr.number g) (Gr.life g) (Gr.at' g) (Gr.total g) (Gr.report g) (Gr.more g) (Gr.may g) (Gr.wants g) (Gr.data g))), Value.bool (Gr.wants (Gr.mk (nx (Gr.fx g)) (Gr.fr g) (nx (Gr.tx g)) (Gr.to g) (Gr.number g) (Gr.life g) (Gr.at' g) (Gr.total g) (Gr.report g) (Gr.more g) (Gr.may g) (Gr.wants g) (Gr.data g))), Value.string (Gr.data (Gr.mk (nx (Gr.fx g)) (Gr.fr g) (nx (Gr.tx g)) (Gr.to g) (Gr.number g) (Gr.life g) (Gr.at' g) (Gr.total g) (Gr.report g) (Gr.more g) (Gr.may g) (Gr.wants g) (Gr.data g)))]) (by kernel_rfl) (by kernel_rfl) (by kernel_rfl) ?_ (fun cf => (by kernel_rfl))
  refine WpOps.nil ?_
  refine thenK_at ?_
  refine Wp.seq ?_
  refine Wp.text ?_
  refine WpOps.keep 42 (Value.pointer (some (Addr.mk 0 10 none))) (by kernel_rfl) (by kernel_rfl) (by kernel_rfl) ?_ (fun cf => (by kernel_rfl))
  refine WpOps.keep 43 (Value.string (Gr.data g)) (by kernel_rfl) (by kernel_rfl) (by kernel_rfl) ?_ (fun cf => (by kernel_rfl))
  refine WpOps.keep 44 (Value.int IntKind.i64 (↑(0 * s) : Int)) (by kernel_rfl) (by kernel_rfl) (by kernel_rfl) ?_ (fun cf => (by kernel_rfl))
  refine WpOps.keep 45 (Value.int IntKind.i64 (↑(0 * s) : Int)) (by kernel_rfl) (by kernel_rfl) (by kernel_rfl) ?_ (fun cf => (by kernel_rfl))
  refine WpOps.keep 46 (Value.int IntKind.i64 (↑s : Int)) (by kernel_rfl) (by kernel_rfl) (by kernel_rfl) ?_ (fun cf => (by kernel_rfl))
  refine WpOps.keep 47 (Value.int IntKind.i64 (IntKind.wrap IntKind.i64 ((↑(0 * s) : Int) + (↑s : Int)))) (by kernel_rfl) (by kernel_rfl) (by kernel_rfl) ?_ (fun cf => (by kernel_rfl))
  refine WpOps.keep 48 (Value.pointer (some (Addr.mk 0 10 none))) (by kernel_rfl) (by kernel_rfl) (by kernel_rfl) ?_ (fun cf => (by kernel_rfl))
  refine WpOps.keep 49 (Value.string (Gr.data g)) (by kernel_rfl) (by kernel_rfl) (by kernel_rfl) ?_ (fun cf => (by kernel_rfl))
  refine WpOps.keep 50 (Value.int IntKind.i64 (↑(ByteArray.size (Gr.data g)) : Int)) (by kernel_rfl) (by kernel_rfl) (by kernel_rfl) ?_ (fun cf => (by kernel_rfl))
  refine WpOps.keep 51 (Value.int IntKind.i64 (if (↑(ByteArray.size (Gr.data g)) : Int) < IntKind.wrap IntKind.i64 ((↑(0 * s) : Int) + (↑s : Int)) then (↑(ByteArray.size (Gr.data g)) : Int) else IntKind.wrap IntKind.i64 ((↑(0 * s) : Int) + (↑s : Int)))) (by kernel_rfl) (by kernel_rfl) (by kernel_rfl) ?_ (fun cf => (by kernel_rfl))
  refine WpOps.keep 52 (Value.string (ByteArray.extract (Gr.data g) (Int.toNat (↑(0 * s) : Int)) (Int.toNat (if (↑(ByteArray.size (Gr.data g)) : Int) < IntKind.wrap IntKind.i64 ((↑(0 * s) : Int) + (↑s : Int)) then (↑(ByteArray.size (Gr.data g)) : Int) else IntKind.wrap IntKind.i64 ((↑(0 * s) : Int) + (↑s : Int)))))) (by kernel_rfl) (by kernel_rfl) (by kernel_rfl) ?_ (fun cf => o_cutLH t1 t2 (by kernel_rfl) (by kernel_rfl) (by kernel_rfl) (by kernel_rfl))
  refine WpOps.keep 53 (Value.pointer (some (Addr.mk 1 10 none))) (by kernel_rfl) (by kernel_rfl) (by kernel_rfl) ?_ (fun cf => (by kernel_rfl))
  refine WpOps.laid (Value.tuple #[]) (1) (Blk.mk 24 true [Value.iface 3 (Value.iface (List.length (Gr.fr (Gr.mk (nx (Gr.fx g)) (Gr.fr g) (nx (Gr.tx g)) (Gr.to g) (Gr.number g) (Gr.life g) (Gr.at' g) (Gr.total g) (Gr.report g) (Gr.more g) (Gr.may g) (Gr.wants g) (Gr.data g)))) (Value.iface (Gr.fx (Gr.mk (nx (Gr.fx g)) (Gr.fr g) (nx (Gr.tx g)) (Gr.to g) (Gr.number g) (Gr.life g) (Gr.at' g) (Gr.total g) (Gr.report g) (Gr.more g) (Gr.may g) (Gr.wants g) (Gr.data g))) (Value.agg (List.toArray (List.map (fun n => Value.int IntKind.i64 n) (Gr.fr (Gr.mk (nx (Gr.fx g)) (Gr.fr g) (nx (Gr.tx g)) (Gr.to g) (Gr.number g) (Gr.life g) (Gr.at' g) (Gr.total g) (Gr.report g) (Gr.more g) (Gr.may g) (Gr.wants g) (Gr.data g)))))))), Value.iface 3 (Value.iface (List.length (Gr.to (Gr.mk (nx (Gr.fx g)) (Gr.fr g) (nx (Gr.tx g)) (Gr.to g) (Gr.number g) (Gr.life g) (Gr.at' g) (Gr.total g) (Gr.report g) (Gr.more g) (Gr.may g) (Gr.wants g) (Gr.data g)))) (Value.iface (Gr.tx (Gr.mk (nx (Gr.fx g)) (Gr.fr g) (nx (Gr.tx g)) (Gr.to g) (Gr.number g) (Gr.life g) (Gr.at' g) (Gr.total g) (Gr.report g) (Gr.more g) (Gr.may g) (Gr.wants g) (Gr.data g))) (Value.agg (List.toArray (List.map (fun n => Value.int IntKind.i64 n) (Gr.to (Gr.mk (nx (Gr.fx g)) (Gr.fr g) (nx (Gr.tx g)) (Gr.to g) (Gr.number g) (Gr.life g) (Gr.at' g) (Gr.total g) (Gr.report g) (Gr.more g) (Gr.may g) (Gr.wants g) (Gr.data g)))))))), Value.int IntKind.i64 (Gr.number (Gr.mk (nx (Gr.fx g)) (Gr.fr g) (nx (Gr.tx g)) (Gr.to g) (Gr.number g) (Gr.life g) (Gr.at' g) (Gr.total g) (Gr.report g) (Gr.more g) (Gr.may g) (Gr.wants g) (Gr.data g))), Value.int IntKind.i64 (Gr.life (Gr.mk (nx (Gr.fx g)) (Gr.fr g) (nx (Gr.tx g)) (Gr.to g) (Gr.number g) (Gr.life g) (Gr.at' g) (Gr.total g) (Gr.report g) (Gr.more g) (Gr.may g) (Gr.wants g) (Gr.data g))), Value.int IntKind.i64 (IntKind.wrap IntKind.i64 (Gr.at' g + (↑(0 * s) : Int))), Value.int IntKind.i64 (Gr.total (Gr.mk (nx (Gr.fx g)) (Gr.fr g) (nx (Gr.tx g)) (Gr.to g) (Gr.number g) (Gr.life g) (Gr.at' g) (Gr.total g) (Gr.report g) (Gr.more g) (Gr.may g) (Gr.wants g) (Gr.data g))), Value.int IntKind.i64 (Gr.report (Gr.mk (nx (Gr.fx g)) (Gr.fr g) (nx (Gr.tx g)) (Gr.to g) (Gr.number g) (Gr.life g) (Gr.at' g) (Gr.total g) (Gr.report g) (Gr.more g) (Gr.may g) (Gr.wants g) (Gr.data g))), Value.bool (Gr.more (Gr.mk (nx (Gr.fx g)) (Gr.fr g) (nx (Gr.tx g)) (Gr.to g) (Gr.number g) (Gr.life g) (Gr.at' g) (Gr.total g) (Gr.report g) (Gr.more g) (Gr.may g) (Gr.wants g) (Gr.data g))), Value.bool (Gr.may (Gr.mk (nx (Gr.fx g)) (Gr.fr g) (nx (Gr.tx g)) (Gr.to g) (Gr.number g) (Gr.life g) (Gr.at' g) (Gr.total g) (Gr.report g) (Gr.more g) (Gr.may g) (Gr.wants g) (Gr.data g))), Value.bool (Gr.wants (Gr.mk (nx (Gr.fx g)) (Gr.fr g) (nx (Gr.tx g)) (Gr.to g) (Gr.number g) (Gr.life g) (Gr.at' g) (Gr.total g) (Gr.report g) (Gr.more g) (Gr.may g) (Gr.wants g) (Gr.data g))), Value.string (ByteArray.extract (Gr.data g) (Int.toNat (↑(0 * s) : Int)) (Int.toNat (if (↑(ByteArray.size (Gr.data g)) : Int) < IntKind.wrap IntKind.i64 ((↑(0 * s) : Int) + (↑s : Int)) then (↑(ByteArray.size (Gr.data g)) : Int) else IntKind.wrap IntKind.i64 ((↑(0 * s) : Int) + (↑s : Int)))))]) (by kernel_rfl) (by kernel_rfl) (by kernel_rfl) ?_ (fun cf => (by kernel_rfl))
  refine WpOps.nil ?_
  refine thenK_at ?_
  refine Wp.seq ?_
  refine Wp.text ?_
  refine WpOps.keep 54 (Value.pointer (some (Addr.mk 1 4 none))) (by kernel_rfl) (by kernel_rfl) (by kernel_rfl) ?_ (fun cf => (by kernel_rfl))
  refine WpOps.keep 55 (Value.int IntKind.i64 (IntKind.wrap IntKind.i64 (Gr.at' g + (↑(0 * s) : Int)))) (by kernel_rfl) (by kernel_rfl) (by kernel_rfl) ?_ (fun cf => (by kernel_rfl))
  refine WpOps.keep 56 (Value.pointer (some (Addr.mk 1 10 none))) (by kernel_rfl) (by kernel_rfl) (by kernel_rfl) ?_ (fun cf => (by kernel_rfl))
  refine WpOps.keep 57 (Value.string (ByteArray.extract (Gr.data g) (Int.toNat (↑(0 * s) : Int)) (Int.toNat (if (↑(ByteArray.size (Gr.data g)) : Int) < IntKind.wrap IntKind.i64 ((↑(0 * s) : Int) + (↑s : Int)) then (↑(ByteArray.size (Gr.data g)) : Int) else IntKind.wrap IntKind.i64 ((↑(0 * s) : Int) + (↑s : Int)))))) (by kernel_rfl) (by kernel_rfl) (by kernel_rfl) ?_ (fun cf => (by kernel_rfl))
  refine WpOps.keep 58 (Value.int IntKind.i64 (↑(ByteArray.size (ByteArray.extract (Gr.data g) (Int.toNat (↑(0 * s) : Int)) (Int.toNat (if (↑(ByteArray.size (Gr.data g)) : Int) < IntKind.wrap IntKind.i64 ((↑(0 * s) : Int) + (↑s : Int)) then (↑(ByteArray.size (Gr.data g)) : Int) else IntKind.wrap IntKind.i64 ((↑(0 * s) : Int) + (↑s : Int)))))) : Int)) (by kernel_rfl) (by kernel_rfl) (by kernel_rfl) ?_ (fun cf => (by kernel_rfl))
  refine WpOps.keep 59 (Value.int IntKind.i64 (IntKind.wrap IntKind.i64 (IntKind.wrap IntKind.i64 (Gr.at' g + (↑(0 * s) : Int)) + (↑(ByteArray.size (ByteArray.extract (Gr.data g) (Int.toNat (↑(0 * s) : Int)) (Int.toNat (if (↑(ByteArray.size (Gr.data g)) : Int) < IntKind.wrap IntKind.i64 ((↑(0 * s) : Int) + (↑s : Int)) then (↑(ByteArray.size (Gr.data g)) : Int) else IntKind.wrap IntKind.i64 ((↑(0 * s) : Int) + (↑s : Int)))))) : Int)))) (by kernel_rfl) (by kernel_rfl) (by kernel_rfl) ?_ (fun cf => (by kernel_rfl))
  refine WpOps.keep 60 (Value.pointer (some (Addr.mk 1 5 none))) (by kernel_rfl) (by kernel_rfl) (by kernel_rfl) ?_ (fun cf => (by kernel_rfl))
  refine WpOps.keep 61 (Value.int IntKind.i64 (Gr.total (Gr.mk (nx (Gr.fx g)) (Gr.fr g) (nx (Gr.tx g)) (Gr.to g) (Gr.number g) (Gr.life g) (Gr.at' g) (Gr.total g) (Gr.report g) (Gr.more g) (Gr.may g) (Gr.wants g) (Gr.data g)))) (by kernel_rfl) (by kernel_rfl) (by kernel_rfl) ?_ (fun cf => (by kernel_rfl))
  refine WpOps.keep 62 (Value.bool (decide (IntKind.wrap IntKind.i64 (IntKind.wrap IntKind.i64 (Gr.at' g + (↑(0 * s) : Int)) + (↑(ByteArray.size (ByteArray.extract (Gr.data g) (Int.toNat (↑(0 * s) : Int)) (Int.toNat (if (↑(ByteArray.size (Gr.data g)) : Int) < IntKind.wrap IntKind.i64 ((↑(0 * s) : Int) + (↑s : Int)) then (↑(ByteArray.size (Gr.data g)) : Int) else IntKind.wrap IntKind.i64 ((↑(0 * s) : Int) + (↑s : Int)))))) : Int)) < Gr.total (Gr.mk (nx (Gr.fx g)) (Gr.fr g) (nx (Gr.tx g)) (Gr.to g) (Gr.number g) (Gr.life g) (Gr.at' g) (Gr.total g) (Gr.report g) (Gr.more g) (Gr.may g) (Gr.wants g) (Gr.data g))))) (by kernel_rfl) (by kernel_rfl) (by kernel_rfl) ?_ (fun cf => (by kernel_rfl))
  refine WpOps.keep 63 (Value.pointer (some (Addr.mk 1 7 none))) (by kernel_rfl) (by kernel_rfl) (by kernel_rfl) ?_ (fun cf => (by kernel_rfl))
  refine WpOps.laid (Value.tuple #[]) (1) (Blk.mk 24 true [Value.iface 3 (Value.iface (List.length (Gr.fr (Gr.mk (nx (Gr.fx g)) (Gr.fr g) (nx (Gr.tx g)) (Gr.to g) (Gr.number g) (Gr.life g) (Gr.at' g) (Gr.total g) (Gr.report g) (Gr.more g) (Gr.may g) (Gr.wants g) (Gr.data g)))) (Value.iface (Gr.fx (Gr.mk (nx (Gr.fx g)) (Gr.fr g) (nx (Gr.tx g)) (Gr.to g) (Gr.number g) (Gr.life g) (Gr.at' g) (Gr.total g) (Gr.report g) (Gr.more g) (Gr.may g) (Gr.wants g) (Gr.data g))) (Value.agg (List.toArray (List.map (fun n => Value.int IntKind.i64 n) (Gr.fr (Gr.mk (nx (Gr.fx g)) (Gr.fr g) (nx (Gr.tx g)) (Gr.to g) (Gr.number g) (Gr.life g) (Gr.at' g) (Gr.total g) (Gr.report g) (Gr.more g) (Gr.may g) (Gr.wants g) (Gr.data g)))))))), Value.iface 3 (Value.iface (List.length (Gr.to (Gr.mk (nx (Gr.fx g)) (Gr.fr g) (nx (Gr.tx g)) (Gr.to g) (Gr.number g) (Gr.life g) (Gr.at' g) (Gr.total g) (Gr.report g) (Gr.more g) (Gr.may g) (Gr.wants g) (Gr.data g)))) (Value.iface (Gr.tx (Gr.mk (nx (Gr.fx g)) (Gr.fr g) (nx (Gr.tx g)) (Gr.to g) (Gr.number g) (Gr.life g) (Gr.at' g) (Gr.total g) (Gr.report g) (Gr.more g) (Gr.may g) (Gr.wants g) (Gr.data g))) (Value.agg (List.toArray (List.map (fun n => Value.int IntKind.i64 n) (Gr.to (Gr.mk (nx (Gr.fx g)) (Gr.fr g) (nx (Gr.tx g)) (Gr.to g) (Gr.number g) (Gr.life g) (Gr.at' g) (Gr.total g) (Gr.report g) (Gr.more g) (Gr.may g) (Gr.wants g) (Gr.data g)))))))), Value.int IntKind.i64 (Gr.number (Gr.mk (nx (Gr.fx g)) (Gr.fr g) (nx (Gr.tx g)) (Gr.to g) (Gr.number g) (Gr.life g) (Gr.at' g) (Gr.total g) (Gr.report g) (Gr.more g) (Gr.may g) (Gr.wants g) (Gr.data g))), Value.int IntKind.i64 (Gr.life (Gr.mk (nx (Gr.fx g)) (Gr.fr g) (nx (Gr.tx g)) (Gr.to g) (Gr.number g) (Gr.life g) (Gr.at' g) (Gr.total g) (Gr.report g) (Gr.more g) (Gr.may g) (Gr.wants g) (Gr.data g))), Value.int IntKind.i64 (IntKind.wrap IntKind.i64 (Gr.at' g + (↑(0 * s) : Int))), Value.int IntKind.i64 (Gr.total (Gr.mk (nx (Gr.fx g)) (Gr.fr g) (nx (Gr.tx g)) (Gr.to g) (Gr.number g) (Gr.life g) (Gr.at' g) (Gr.total g) (Gr.report g) (Gr.more g) (Gr.may g) (Gr.wants g) (Gr.data g))), Value.int IntKind.i64 (Gr.report (Gr.mk (nx (Gr.fx g)) (Gr.fr g) (nx (Gr.tx g)) (Gr.to g) (Gr.number g) (Gr.life g) (Gr.at' g) (Gr.total g) (Gr.report g) (Gr.more g) (Gr.may g) (Gr.wants g) (Gr.data g))), Value.bool (decide (IntKind.wrap IntKind.i64 (IntKind.wrap IntKind.i64 (Gr.at' g + (↑(0 * s) : Int)) + (↑(ByteArray.size (ByteArray.extract (Gr.data g) (Int.toNat (↑(0 * s) : Int)) (Int.toNat (if (↑(ByteArray.size (Gr.data g)) : Int) < IntKind.wrap IntKind.i64 ((↑(0 * s) : Int) + (↑s : Int)) then (↑(ByteArray.size (Gr.data g)) : Int) else IntKind.wrap IntKind.i64 ((↑(0 * s) : Int) + (↑s : Int)))))) : Int)) < Gr.total (Gr.mk (nx (Gr.fx g)) (Gr.fr g) (nx (Gr.tx g)) (Gr.to g) (Gr.number g) (Gr.life g) (Gr.at' g) (Gr.total g) (Gr.report g) (Gr.more g) (Gr.may g) (Gr.wants g) (Gr.data g)))), Value.bool (Gr.may (Gr.mk (nx (Gr.fx g)) (Gr.fr g) (nx (Gr.tx g)) (Gr.to g) (Gr.number g) (Gr.life g) (Gr.at' g) (Gr.total g) (Gr.report g) (Gr.more g) (Gr.may g) (Gr.wants g) (Gr.data g))), Value.bool (Gr.wants (Gr.mk (nx (Gr.fx g)) (Gr.fr g) (nx (Gr.tx g)) (Gr.to g) (Gr.number g) (Gr.life g) (Gr.at' g) (Gr.total g) (Gr.report g) (Gr.more g) (Gr.may g) (Gr.wants g) (Gr.data g))), Value.string (ByteArray.extract (Gr.data g) (Int.toNat (↑(0 * s) : Int)) (Int.toNat (if (↑(ByteArray.size (Gr.data g)) : Int) < IntKind.wrap IntKind.i64 ((↑(0 * s) : Int) + (↑s : Int)) then (↑(ByteArray.size (Gr.data g)) : Int) else IntKind.wrap IntKind.i64 ((↑(0 * s) : Int) + (↑s : Int)))))]) (by kernel_rfl) (by kernel_rfl) (by kernel_rfl) ?_ (fun cf => (by kernel_rfl))
  refine WpOps.nil ?_
  refine thenK_at ?_
  refine Wp.text ?_
  refine WpOps.keep 64 (Value.slice none 0 0) (by kernel_rfl) (by kernel_rfl) (by kernel_rfl) ?_ (fun cf => (by kernel_rfl))
  refine WpOps.keep 65 (Value.agg #[Value.iface 3 (Value.iface (List.length (Gr.fr (Gr.mk (nx (Gr.fx g)) (Gr.fr g) (nx (Gr.tx g)) (Gr.to g) (Gr.number g) (Gr.life g) (Gr.at' g) (Gr.total g) (Gr.report g) (Gr.more g) (Gr.may g) (Gr.wants g) (Gr.data g)))) (Value.iface (Gr.fx (Gr.mk (nx (Gr.fx g)) (Gr.fr g) (nx (Gr.tx g)) (Gr.to g) (Gr.number g) (Gr.life g) (Gr.at' g) (Gr.total g) (Gr.report g) (Gr.more g) (Gr.may g) (Gr.wants g) (Gr.data g))) (Value.agg (List.toArray (List.map (fun n => Value.int IntKind.i64 n) (Gr.fr (Gr.mk (nx (Gr.fx g)) (Gr.fr g) (nx (Gr.tx g)) (Gr.to g) (Gr.number g) (Gr.life g) (Gr.at' g) (Gr.total g) (Gr.report g) (Gr.more g) (Gr.may g) (Gr.wants g) (Gr.data g)))))))), Value.iface 3 (Value.iface (List.length (Gr.to (Gr.mk (nx (Gr.fx g)) (Gr.fr g) (nx (Gr.tx g)) (Gr.to g) (Gr.number g) (Gr.life g) (Gr.at' g) (Gr.total g) (Gr.report g) (Gr.more g) (Gr.may g) (Gr.wants g) (Gr.data g)))) (Value.iface (Gr.tx (Gr.mk (nx (Gr.fx g)) (Gr.fr g) (nx (Gr.tx g)) (Gr.to g) (Gr.number g) (Gr.life g) (Gr.at' g) (Gr.total g) (Gr.report g) (Gr.more g) (Gr.may g) (Gr.wants g) (Gr.data g))) (Value.agg (List.toArray (List.map (fun n => Value.int IntKind.i64 n) (Gr.to (Gr.mk (nx (Gr.fx g)) (Gr.fr g) (nx (Gr.tx g)) (Gr.to g) (Gr.number g) (Gr.life g) (Gr.at' g) (Gr.total g) (Gr.report g) (Gr.more g) (Gr.may g) (Gr.wants g) (Gr.data g)))))))), Value.int IntKind.i64 (Gr.number (Gr.mk (nx (Gr.fx g)) (Gr.fr g) (nx (Gr.tx g)) (Gr.to g) (Gr.number g) (Gr.life g) (Gr.at' g) (Gr.total g) (Gr.report g) (Gr.more g) (Gr.may g) (Gr.wants g) (Gr.data g))), Value.int IntKind.i64 (Gr.life (Gr.mk (nx (Gr.fx g)) (Gr.fr g) (nx (Gr.tx g)) (Gr.to g) (Gr.number g) (Gr.life g) (Gr.at' g) (Gr.total g) (Gr.report g) (Gr.more g) (Gr.may g) (Gr.wants g) (Gr.data g))), Value.int IntKind.i64 (IntKind.wrap IntKind.i64 (Gr.at' g + (↑(0 * s) : Int))), Value.int IntKind.i64 (Gr.total (Gr.mk (nx (Gr.fx g)) (Gr.fr g) (nx (Gr.tx g)) (Gr.to g) (Gr.number g) (Gr.life g) (Gr.at' g) (Gr.total g) (Gr.report g) (Gr.more g) (Gr.may g) (Gr.wants g) (Gr.data g))), Value.int IntKind.i64 (Gr.report (Gr.mk (nx (Gr.fx g)) (Gr.fr g) (nx (Gr.tx g)) (Gr.to g) (Gr.number g) (Gr.life g) (Gr.at' g) (Gr.total g) (Gr.report g) (Gr.more g) (Gr.may g) (Gr.wants g) (Gr.data g))), Value.bool (decide (IntKind.wrap IntKind.i64 (IntKind.wrap IntKind.i64 (Gr.at' g + (↑(0 * s) : Int)) + (↑(ByteArray.size (ByteArray.extract (Gr.data g) (Int.toNat (↑(0 * s) : Int)) (Int.toNat (if (↑(ByteArray.size (Gr.data g)) : Int) < IntKind.wrap IntKind.i64 ((↑(0 * s) : Int) + (↑s : Int)) then (↑(ByteArray.size (Gr.data g)) : Int) else IntKind.wrap IntKind.i64 ((↑(0 * s) : Int) + (↑s : Int)))))) : Int)) < Gr.total (Gr.mk (nx (Gr.fx g)) (Gr.fr g) (nx (Gr.tx g)) (Gr.to g) (Gr.number g) (Gr.life g) (Gr.at' g) (Gr.total g) (Gr.report g) (Gr.more g) (Gr.may g) (Gr.wants g) (Gr.data g)))), Value.bool (Gr.may (Gr.mk (nx (Gr.fx g)) (Gr.fr g) (nx (Gr.tx g)) (Gr.to g) (Gr.number g) (Gr.life g) (Gr.at' g) (Gr.total g) (Gr.report g) (Gr.more g) (Gr.may g) (Gr.wants g) (Gr.data g))), Value.bool (Gr.wants (Gr.mk (nx (Gr.fx g)) (Gr.fr g) (nx (Gr.tx g)) (Gr.to g) (Gr.number g) (Gr.life g) (Gr.at' g) (Gr.total g) (Gr.report g) (Gr.more g) (Gr.may g) (Gr.wants g) (Gr.data g))), Value.string (ByteArray.extract (Gr.data g) (Int.toNat (↑(0 * s) : Int)) (Int.toNat (if (↑(ByteArray.size (Gr.data g)) : Int) < IntKind.wrap IntKind.i64 ((↑(0 * s) : Int) + (↑s : Int)) then (↑(ByteArray.size (Gr.data g)) : Int) else IntKind.wrap IntKind.i64 ((↑(0 * s) : Int) + (↑s : Int)))))]) (by kernel_rfl) (by kernel_rfl) (by kernel_rfl) ?_ (fun cf => (by kernel_rfl))
  refine WpOps.made 66 (Value.slice (some (Addr.mk 2 0 none)) 1 1) (Blk.mk 24 true [Value.iface 3 (Value.iface (List.length (Gr.fr (Gr.mk (nx (Gr.fx g)) (Gr.fr g) (nx (Gr.tx g)) (Gr.to g) (Gr.number g) (Gr.life g) (Gr.at' g) (Gr.total g) (Gr.report g) (Gr.more g) (Gr.may g) (Gr.wants g) (Gr.data g)))) (Value.iface (Gr.fx (Gr.mk (nx (Gr.fx g)) (Gr.fr g) (nx (Gr.tx g)) (Gr.to g) (Gr.number g) (Gr.life g) (Gr.at' g) (Gr.total g) (Gr.report g) (Gr.more g) (Gr.may g) (Gr.wants g) (Gr.data g))) (Value.agg (List.toArray (List.map (fun n => Value.int IntKind.i64 n) (Gr.fr (Gr.mk (nx (Gr.fx g)) (Gr.fr g) (nx (Gr.tx g)) (Gr.to g) (Gr.number g) (Gr.life g) (Gr.at' g) (Gr.total g) (Gr.report g) (Gr.more g) (Gr.may g) (Gr.wants g) (Gr.data g)))))))), Value.iface 3 (Value.iface (List.length (Gr.to (Gr.mk (nx (Gr.fx g)) (Gr.fr g) (nx (Gr.tx g)) (Gr.to g) (Gr.number g) (Gr.life g) (Gr.at' g) (Gr.total g) (Gr.report g) (Gr.more g) (Gr.may g) (Gr.wants g) (Gr.data g)))) (Value.iface (Gr.tx (Gr.mk (nx (Gr.fx g)) (Gr.fr g) (nx (Gr.tx g)) (Gr.to g) (Gr.number g) (Gr.life g) (Gr.at' g) (Gr.total g) (Gr.report g) (Gr.more g) (Gr.may g) (Gr.wants g) (Gr.data g))) (Value.agg (List.toArray (List.map (fun n => Value.int IntKind.i64 n) (Gr.to (Gr.mk (nx (Gr.fx g)) (Gr.fr g) (nx (Gr.tx g)) (Gr.to g) (Gr.number g) (Gr.life g) (Gr.at' g) (Gr.total g) (Gr.report g) (Gr.more g) (Gr.may g) (Gr.wants g) (Gr.data g)))))))), Value.int IntKind.i64 (Gr.number (Gr.mk (nx (Gr.fx g)) (Gr.fr g) (nx (Gr.tx g)) (Gr.to g) (Gr.number g) (Gr.life g) (Gr.at' g) (Gr.total g) (Gr.report g) (Gr.more g) (Gr.may g) (Gr.wants g) (Gr.data g))), Value.int IntKind.i64 (Gr.life (Gr.mk (nx (Gr.fx g)) (Gr.fr g) (nx (Gr.tx g)) (Gr.to g) (Gr.number g) (Gr.life g) (Gr.at' g) (Gr.total g) (Gr.report g) (Gr.more g) (Gr.may g) (Gr.wants g) (Gr.data g))), Value.int IntKind.i64 (IntKind.wrap IntKind.i64 (Gr.at' g + (↑(0 * s) : Int))), Value.int IntKind.i64 (Gr.total (Gr.mk (nx (Gr.fx g)) (Gr.fr g) (nx (Gr.tx g)) (Gr.to g) (Gr.number g) (Gr.life g) (Gr.at' g) (Gr.total g) (Gr.report g) (Gr.more g) (Gr.may g) (Gr.wants g) (Gr.data g))), Value.int IntKind.i64 (Gr.report (Gr.mk (nx (Gr.fx g)) (Gr.fr g) (nx (Gr.tx g)) (Gr.to g) (Gr.number g) (Gr.life g) (Gr.at' g) (Gr.total g) (Gr.report g) (Gr.more g) (Gr.may g) (Gr.wants g) (Gr.data g))), Value.bool (decide (IntKind.wrap IntKind.i64 (IntKind.wrap IntKind.i64 (Gr.at' g + (↑(0 * s) : Int)) + (↑(ByteArray.size (ByteArray.extract (Gr.data g) (Int.toNat (↑(0 * s) : Int)) (Int.toNat (if (↑(ByteArray.size (Gr.data g)) : Int) < IntKind.wrap IntKind.i64 ((↑(0 * s) : Int) + (↑s : Int)) then (↑(ByteArray.size (Gr.data g)) : Int) else IntKind.wrap IntKind.i64 ((↑(0 * s) : Int) + (↑s : Int)))))) : Int)) < Gr.total (Gr.mk (nx (Gr.fx g)) (Gr.fr g) (nx (Gr.tx g)) (Gr.to g) (Gr.number g) (Gr.life g) (Gr.at' g) (Gr.total g) (Gr.report g) (Gr.more g) (Gr.may g) (Gr.wants g) (Gr.data g)))), Value.bool (Gr.may (Gr.mk (nx (Gr.fx g)) (Gr.fr g) (nx (Gr.tx g)) (Gr.to g) (Gr.number g) (Gr.life g) (Gr.at' g) (Gr.total g) (Gr.report g) (Gr.more g) (Gr.may g) (Gr.wants g) (Gr.data g))), Value.bool (Gr.wants (Gr.mk (nx (Gr.fx g)) (Gr.fr g) (nx (Gr.tx g)) (Gr.to g) (Gr.number g) (Gr.life g) (Gr.at' g) (Gr.total g) (Gr.report g) (Gr.more g) (Gr.may g) (Gr.wants g) (Gr.data g))), Value.string (ByteArray.extract (Gr.data g) (Int.toNat (↑(0 * s) : Int)) (Int.toNat (if (↑(ByteArray.size (Gr.data g)) : Int) < IntKind.wrap IntKind.i64 ((↑(0 * s) : Int) + (↑s : Int)) then (↑(ByteArray.size (Gr.data g)) : Int) else IntKind.wrap IntKind.i64 ((↑(0 * s) : Int) + (↑s : Int)))))]) (by kernel_rfl) (by kernel_rfl) (by kernel_rfl) ?_ (fun cf => (by kernel_rfl))
  refine WpOps.made 67 (Value.slice (some (Addr.mk 3 0 none)) 1 1) (Blk.mk 24 true [Value.iface 3 (Value.iface (List.length (Gr.fr (Gr.mk (nx (Gr.fx g)) (Gr.fr g) (nx (Gr.tx g)) (Gr.to g) (Gr.number g) (Gr.life g) (Gr.at' g) (Gr.total g) (Gr.report g) (Gr.more g) (Gr.may g) (Gr.wants g) (Gr.data g)))) (Value.iface (Gr.fx (Gr.mk (nx (Gr.fx g)) (Gr.fr g) (nx (Gr.tx g)) (Gr.to g) (Gr.number g) (Gr.life g) (Gr.at' g) (Gr.total g) (Gr.report g) (Gr.more g) (Gr.may g) (Gr.wants g) (Gr.data g))) (Value.agg (List.toArray (List.map (fun n => Value.int IntKind.i64 n) (Gr.fr (Gr.mk (nx (Gr.fx g)) (Gr.fr g) (nx (Gr.tx g)) (Gr.to g) (Gr.number g) (Gr.life g) (Gr.at' g) (Gr.total g) (Gr.report g) (Gr.more g) (Gr.may g) (Gr.wants g) (Gr.data g)))))))), Value.iface 3 (Value.iface (List.length (Gr.to (Gr.mk (nx (Gr.fx g)) (Gr.fr g) (nx (Gr.tx g)) (Gr.to g) (Gr.number g) (Gr.life g) (Gr.at' g) (Gr.total g) (Gr.report g) (Gr.more g) (Gr.may g) (Gr.wants g) (Gr.data g)))) (Value.iface (Gr.tx (Gr.mk (nx (Gr.fx g)) (Gr.fr g) (nx (Gr.tx g)) (Gr.to g) (Gr.number g) (Gr.life g) (Gr.at' g) (Gr.total g) (Gr.report g) (Gr.more g) (Gr.may g) (Gr.wants g) (Gr.data g))) (Value.agg (List.toArray (List.map (fun n => Value.int IntKind.i64 n) (Gr.to (Gr.mk (nx (Gr.fx g)) (Gr.fr g) (nx (Gr.tx g)) (Gr.to g) (Gr.number g) (Gr.life g) (Gr.at' g) (Gr.total g) (Gr.report g) (Gr.more g) (Gr.may g) (Gr.wants g) (Gr.data g)))))))), Value.int IntKind.i64 (Gr.number (Gr.mk (nx (Gr.fx g)) (Gr.fr g) (nx (Gr.tx g)) (Gr.to g) (Gr.number g) (Gr.life g) (Gr.at' g) (Gr.total g) (Gr.report g) (Gr.more g) (Gr.may g) (Gr.wants g) (Gr.data g))), Value.int IntKind.i64 (Gr.life (Gr.mk (nx (Gr.fx g)) (Gr.fr g) (nx (Gr.tx g)) (Gr.to g) (Gr.number g) (Gr.life g) (Gr.at' g) (Gr.total g) (Gr.report g) (Gr.more g) (Gr.may g) (Gr.wants g) (Gr.data g))), Value.int IntKind.i64 (IntKind.wrap IntKind.i64 (Gr.at' g + (↑(0 * s) : Int))), Value.int IntKind.i64 (Gr.total (Gr.mk (nx (Gr.fx g)) (Gr.fr g) (nx (Gr.tx g)) (Gr.to g) (Gr.number g) (Gr.life g) (Gr.at' g) (Gr.total g) (Gr.report g) (Gr.more g) (Gr.may g) (Gr.wants g) (Gr.data g))), Value.int IntKind.i64 (Gr.report (Gr.mk (nx (Gr.fx g)) (Gr.fr g) (nx (Gr.tx g)) (Gr.to g) (Gr.number g) (Gr.life g) (Gr.at' g) (Gr.total g) (Gr.report g) (Gr.more g) (Gr.may g) (Gr.wants g) (Gr.data g))), Value.bool (decide (IntKind.wrap IntKind.i64 (IntKind.wrap IntKind.i64 (Gr.at' g + (↑(0 * s) : Int)) + (↑(ByteArray.size (ByteArray.extract (Gr.data g) (Int.toNat (↑(0 * s) : Int)) (Int.toNat (if (↑(ByteArray.size (Gr.data g)) : Int) < IntKind.wrap IntKind.i64 ((↑(0 * s) : Int) + (↑s : Int)) then (↑(ByteArray.size (Gr.data g)) : Int) else IntKind.wrap IntKind.i64 ((↑(0 * s) : Int) + (↑s : Int)))))) : Int)) < Gr.total (Gr.mk (nx (Gr.fx g)) (Gr.fr g) (nx (Gr.tx g)) (Gr.to g) (Gr.number g) (Gr.life g) (Gr.at' g) (Gr.total g) (Gr.report g) (Gr.more g) (Gr.may g) (Gr.wants g) (Gr.data g)))), Value.bool (Gr.may (Gr.mk (nx (Gr.fx g)) (Gr.fr g) (nx (Gr.tx g)) (Gr.to g) (Gr.number g) (Gr.life g) (Gr.at' g) (Gr.total g) (Gr.report g) (Gr.more g) (Gr.may g) (Gr.wants g) (Gr.data g))), Value.bool (Gr.wants (Gr.mk (nx (Gr.fx g)) (Gr.fr g) (nx (Gr.tx g)) (Gr.to g) (Gr.number g) (Gr.life g) (Gr.at' g) (Gr.total g) (Gr.report g) (Gr.more g) (Gr.may g) (Gr.wants g) (Gr.data g))), Value.string (ByteArray.extract (Gr.data g) (Int.toNat (↑(0 * s) : Int)) (Int.toNat (if (↑(ByteArray.size (Gr.data g)) : Int) < IntKind.wrap IntKind.i64 ((↑(0 * s) : Int) + (↑s : Int)) then (↑(ByteArray.size (Gr.data g)) : Int) else IntKind.wrap IntKind.i64 ((↑(0 * s) : Int) + (↑s : Int)))))]) (by kernel_rfl) (by kernel_rfl) (by kernel_rfl) ?_ (fun cf => (by kernel_rfl))
  refine WpOps.keep 6 (Value.slice (some (Addr.mk 3 0 none)) 1 1) (by kernel_rfl) (by kernel_rfl) (by kernel_rfl) ?_ (fun cf => (by kernel_rfl))
  refine WpOps.nil ?_
  refine blockK_norm ?_
  refine thenK_at ?_
  refine Wp.text ?_
  refine WpOps.keep 32 (Value.int IntKind.i64 (↑(0 * s) : Int)) (by kernel_rfl) (by kernel_rfl) (by kernel_rfl) ?_ (fun cf => (by kernel_rfl))
  refine WpOps.keep 33 (Value.int IntKind.i64 (↑s : Int)) (by kernel_rfl) (by kernel_rfl) (by kernel_rfl) ?_ (fun cf => (by kernel_rfl))
  refine WpOps.keep 34 (Value.int IntKind.i64 (IntKind.wrap IntKind.i64 ((↑(0 * s) : Int) + (↑s : Int)))) (by kernel_rfl) (by kernel_rfl) (by kernel_rfl) ?_ (fun cf => (by kernel_rfl))
  refine WpOps.keep 7 (Value.int IntKind.i64 (IntKind.wrap IntKind.i64 ((↑(0 * s) : Int) + (↑s : Int)))) (by kernel_rfl) (by kernel_rfl) (by kernel_rfl) ?_ (fun cf => (by kernel_rfl))
  refine WpOps.nil ?_
  refine thenK_at ?_
  refine WpL.loop (G := Nat) (fun k => layj [(1, .int .i64 (s : Int)), (2, .pointer (some ⟨0, 0, none⟩)), (6, .slice (some ⟨1, 0, none⟩) k k), (7, .int .i64 ((k * s : Nat) : Int))]) (fun k => heapOf [⟨24, true, gc g⟩, ⟨24, true, cellsG (pcs g s k)⟩]) (fun k => g.data.size - k * s) (fun k => 1 ≤ k ∧ (k - 1) * s < g.data.size) 1
    (View.of [0, 3] [⟨24, true, gc g⟩, ⟨24, true, cellsG (pcs g s 1)⟩] _ (by decide) rfl ⟨⟨gc g, by kernel_rfl, CellsOk.eq rfl (gc_flat g)⟩, ⟨cellsG (pcs g s 1), by kernel_rfl, CellsOk.eq rfl (cellsG_flat _)⟩, trivial⟩
      ⟨⟨by kernel_rfl, rfl⟩, ⟨by kernel_rfl, rfl⟩, ⟨by kernel_rfl, rfl⟩, ⟨congrArg (Value.int .i64) (by rw [wr _ (by omega) (by omega), Nat.zero_mul, Nat.one_mul]; omega), rfl⟩, trivial⟩) ⟨Nat.le_refl _, by omega⟩ ?_
  rintro k ⟨hk1, hkm⟩
  have hks : k ≤ 4000 := by
    rcases Nat.lt_or_ge 4000 k with h | h
    · have : (k - 1) * 1 ≤ (k - 1) * s := Nat.mul_le_mul_left _ hs0
      omega
    · exact h
  have hks2 : k * s = (k - 1) * s + s := by
    obtain ⟨j, rfl⟩ : ∃ j, k = j + 1 := ⟨k - 1, by omega⟩
    rw [Nat.add_mul, Nat.one_mul]
    rfl
  refine Wp.seq ?_
  refine Wp.seq ?_
  refine Wp.text ?_
  refine WpOps.keep 27 (Value.int IntKind.i64 (↑(k * s) : Int)) (by kernel_rfl) (by kernel_rfl) (by kernel_rfl) ?_ (fun cf => (by kernel_rfl))
  refine WpOps.keep 28 (Value.pointer (some (Addr.mk 0 10 none))) (by kernel_rfl) (by kernel_rfl) (by kernel_rfl) ?_ (fun cf => (by kernel_rfl))
  refine WpOps.keep 29 (Value.string (Gr.data g)) (by kernel_rfl) (by kernel_rfl) (by kernel_rfl) ?_ (fun cf => (by kernel_rfl))
  refine WpOps.keep 30 (Value.int IntKind.i64 (↑(ByteArray.size (Gr.data g)) : Int)) (by kernel_rfl) (by kernel_rfl) (by kernel_rfl) ?_ (fun cf => (by kernel_rfl))
  refine WpOps.keep 31 (Value.bool (decide ((↑(k * s) : Int) < (↑(ByteArray.size (Gr.data g)) : Int)))) (by kernel_rfl) (by kernel_rfl) (by kernel_rfl) ?_ (fun cf => (by kernel_rfl))
  refine WpOps.nil ?_
  refine thenK_at ?_
  refine Wp.split (decide ((↑(k * s) : Int) < (↑(ByteArray.size (Gr.data g)) : Int))) (by kernel_rfl) (fun hc => ?_) (fun hc => ?_)
  · have hk0 : k * s < g.data.size := by have := of_decide_eq_true hc; omega
    have e1 := hi_eq g s k hs2 hk0 hd
    have t1 : 0 ≤ hiI g s k ∧ hiI g s k ≤ (g.data.size : Int) := by omega
    have t2 : 0 ≤ ((k * s : Nat) : Int) ∧ ((k * s : Nat) : Int) ≤ ((hiI g s k).toNat : Int) := by omega
    simp only [hiI] at t1 t2
    have a1 : ¬ (k + 1 ≤ k) := by omega
    have a2 : 1 ≤ 112 ∧ (k + 1) * 112 ≤ 140737488355328 ∧ 11 = 11 ∧ k + 1 ≤ 9223372036854775807 := by omega
    have a3 := cells_all g s k
    refine Wp.skip ?_
    refine thenK_at ?_
    refine Wp.seq ?_
    refine Wp.block ?_
    refine Wp.seq ?_
    refine Wp.text ?_
    refine WpOps.keep 35 (Value.agg #[Value.iface 3 (Value.iface (List.length (Gr.fr g)) (Value.iface (Gr.fx g) (Value.agg (List.toArray (List.map (fun n => Value.int IntKind.i64 n) (Gr.fr g)))))), Value.iface 3 (Value.iface (List.length (Gr.to g)) (Value.iface (Gr.tx g) (Value.agg (List.toArray (List.map (fun n => Value.int IntKind.i64 n) (Gr.to g)))))), Value.int IntKind.i64 (Gr.number g), Value.int IntKind.i64 (Gr.life g), Value.int IntKind.i64 (Gr.at' g), Value.int IntKind.i64 (Gr.total g), Value.int IntKind.i64 (Gr.report g), Value.bool (Gr.more g), Value.bool (Gr.may g), Value.bool (Gr.wants g), Value.string (Gr.data g)]) (by kernel_rfl) (by kernel_rfl) (by kernel_rfl) ?_ (fun cf => (by kernel_rfl))
    refine WpOps.framed 36 64 [Value.agg #[Value.iface 3 (Value.iface (List.length (Gr.fr g)) (Value.iface (Gr.fx g) (Value.agg (List.toArray (List.map (fun n => Value.int IntKind.i64 n) (Gr.fr g)))))), Value.iface 3 (Value.iface (List.length (Gr.to g)) (Value.iface (Gr.tx g) (Value.agg (List.toArray (List.map (fun n => Value.int IntKind.i64 n) (Gr.to g)))))), Value.int IntKind.i64 (Gr.number g), Value.int IntKind.i64 (Gr.life g), Value.int IntKind.i64 (Gr.at' g), Value.int IntKind.i64 (Gr.total g), Value.int IntKind.i64 (Gr.report g), Value.bool (Gr.more g), Value.bool (Gr.may g), Value.bool (Gr.wants g), Value.string (Gr.data g)]] (by kernel_rfl) (by kernel_rfl) (by kernel_rfl) (by kernel_rfl) (by kernel_rfl) (fun cf => (by kernel_rfl)) ?_
    refine WpFun.of (c) ?_
    refine WpOps.made 8 (Value.pointer (some (Addr.mk 2 0 none))) (Blk.mk 24 true [Value.slice none 0 0, Value.slice none 0 0, Value.int IntKind.i64 0, Value.int IntKind.i64 0, Value.int IntKind.i64 0, Value.int IntKind.i64 0, Value.int IntKind.i64 0, Value.bool false, Value.bool false, Value.bool false, Value.string (ByteArray.mk #[])]) (by kernel_rfl) (by kernel_rfl) (by kernel_rfl) ?_ (fun cf => (by kernel_rfl))
    refine WpOps.laid (Value.tuple #[]) (2) (Blk.mk 24 true [Value.iface 3 (Value.iface (List.length (Gr.fr (Gr.mk (nx (Gr.fx g)) (Gr.fr g) (nx (Gr.tx g)) (Gr.to g) (Gr.number g) (Gr.life g) (Gr.at' g) (Gr.total g) (Gr.report g) (Gr.more g) (Gr.may g) (Gr.wants g) (Gr.data g)))) (Value.iface (Gr.fx (Gr.mk (nx (Gr.fx g)) (Gr.fr g) (nx (Gr.tx g)) (Gr.to g) (Gr.number g) (Gr.life g) (Gr.at' g) (Gr.total g) (Gr.report g) (Gr.more g) (Gr.may g) (Gr.wants g) (Gr.data g))) (Value.agg (List.toArray (List.map (fun n => Value.int IntKind.i64 n) (Gr.fr (Gr.mk (nx (Gr.fx g)) (Gr.fr g) (nx (Gr.tx g)) (Gr.to g) (Gr.number g) (Gr.life g) (Gr.at' g) (Gr.total g) (Gr.report g) (Gr.more g) (Gr.may g) (Gr.wants g) (Gr.data g)))))))), Value.iface 3 (Value.iface (List.length (Gr.to (Gr.mk (nx (Gr.fx g)) (Gr.fr g) (nx (Gr.tx g)) (Gr.to g) (Gr.number g) (Gr.life g) (Gr.at' g) (Gr.total g) (Gr.report g) (Gr.more g) (Gr.may g) (Gr.wants g) (Gr.data g)))) (Value.iface (Gr.tx (Gr.mk (nx (Gr.fx g)) (Gr.fr g) (nx (Gr.tx g)) (Gr.to g) (Gr.number g) (Gr.life g) (Gr.at' g) (Gr.total g) (Gr.report g) (Gr.more g) (Gr.may g) (Gr.wants g) (Gr.data g))) (Value.agg (List.toArray (List.map (fun n => Value.int IntKind.i64 n) (Gr.to (Gr.mk (nx (Gr.fx g)) (Gr.fr g) (nx (Gr.tx g)) (Gr.to g) (Gr.number g) (Gr.life g) (Gr.at' g) (Gr.total g) (Gr.report g) (Gr.more g) (Gr.may g) (Gr.wants g) (Gr.data g)))))))), Value.int IntKind.i64 (Gr.number (Gr.mk (nx (Gr.fx g)) (Gr.fr g) (nx (Gr.tx g)) (Gr.to g) (Gr.number g) (Gr.life g) (Gr.at' g) (Gr.total g) (Gr.report g) (Gr.more g) (Gr.may g) (Gr.wants g) (Gr.data g))), Value.int IntKind.i64 (Gr.life (Gr.mk (nx (Gr.fx g)) (Gr.fr g) (nx (Gr.tx g)) (Gr.to g) (Gr.number g) (Gr.life g) (Gr.at' g) (Gr.total g) (Gr.report g) (Gr.more g) (Gr.may g) (Gr.wants g) (Gr.data g))), Value.int IntKind.i64 (Gr.at' (Gr.mk (nx (Gr.fx g)) (Gr.fr g) (nx (Gr.tx g)) (Gr.to g) (Gr.number g) (Gr.life g) (Gr.at' g) (Gr.total g) (Gr.report g) (Gr.more g) (Gr.may g) (Gr.wants g) (Gr.data g))), Value.int IntKind.i64 (Gr.total (Gr.mk (nx (Gr.fx g)) (Gr.fr g) (nx (Gr.tx g)) (Gr.to g) (Gr.number g) (Gr.life g) (Gr.at' g) (Gr.total g) (Gr.report g) (Gr.more g) (Gr.may g) (Gr.wants g) (Gr.data g))), Value.int IntKind.i64 (Gr.report (Gr.mk (nx (Gr.fx g)) (Gr.fr g) (nx (Gr.tx g)) (Gr.to g) (Gr.number g) (Gr.life g) (Gr.at' g) (Gr.total g) (Gr.report g) (Gr.more g) (Gr.may g) (Gr.wants g) (Gr.data g))), Value.bool (Gr.more (Gr.mk (nx (Gr.fx g)) (Gr.fr g) (nx (Gr.tx g)) (Gr.to g) (Gr.number g) (Gr.life g) (Gr.at' g) (Gr.total g) (Gr.report g) (Gr.more g) (Gr.may g) (Gr.wants g) (Gr.data g))), Value.bool (Gr.may (Gr.mk (nx (Gr.fx g)) (Gr.fr g) (nx (Gr.tx g)) (Gr.to g) (Gr.number g) (Gr.life g) (Gr.at' g) (Gr.total g) (Gr.report g) (Gr.more g) (Gr.may g) (Gr.wants g) (Gr.data g))), Value.bool (Gr.wants (Gr.mk (nx (Gr.fx g)) (Gr.fr g) (nx (Gr.tx g)) (Gr.to g) (Gr.number g) (Gr.life g) (Gr.at' g) (Gr.total g) (Gr.report g) (Gr.more g) (Gr.may g) (Gr.wants g) (Gr.data g))), Value.string (Gr.data (Gr.mk (nx (Gr.fx g)) (Gr.fr g) (nx (Gr.tx g)) (Gr.to g) (Gr.number g) (Gr.life g) (Gr.at' g) (Gr.total g) (Gr.report g) (Gr.more g) (Gr.may g) (Gr.wants g) (Gr.data g)))]) (by kernel_rfl) (by kernel_rfl) (by kernel_rfl) ?_ (fun cf => (by kernel_rfl))
    refine WpOps.nil ?_
    refine thenK_at ?_
    refine Wp.seq ?_
    refine Wp.text ?_
    refine WpOps.keep 37 (Value.pointer (some (Addr.mk 0 4 none))) (by kernel_rfl) (by kernel_rfl) (by kernel_rfl) ?_ (fun cf => (by kernel_rfl))
    refine WpOps.keep 38 (Value.int IntKind.i64 (Gr.at' g)) (by kernel_rfl) (by kernel_rfl) (by kernel_rfl) ?_ (fun cf => (by kernel_rfl))
    refine WpOps.keep 39 (Value.int IntKind.i64 (↑(k * s) : Int)) (by kernel_rfl) (by kernel_rfl) (by kernel_rfl) ?_ (fun cf => (by kernel_rfl))
    refine WpOps.keep 40 (Value.int IntKind.i64 (IntKind.wrap IntKind.i64 (Gr.at' g + (↑(k * s) : Int)))) (by kernel_rfl) (by kernel_rfl) (by kernel_rfl) ?_ (fun cf => (by kernel_rfl))
    refine WpOps.keep 41 (Value.pointer (some (Addr.mk 2 4 none))) (by kernel_rfl) (by kernel_rfl) (by kernel_rfl) ?_ (fun cf => (by kernel_rfl))
    refine WpOps.laid (Value.tuple #[]) (2) (Blk.mk 24 true [Value.iface 3 (Value.iface (List.length (Gr.fr (Gr.mk (nx (Gr.fx g)) (Gr.fr g) (nx (Gr.tx g)) (Gr.to g) (Gr.number g) (Gr.life g) (Gr.at' g) (Gr.total g) (Gr.report g) (Gr.more g) (Gr.may g) (Gr.wants g) (Gr.data g)))) (Value.iface (Gr.fx (Gr.mk (nx (Gr.fx g)) (Gr.fr g) (nx (Gr.tx g)) (Gr.to g) (Gr.number g) (Gr.life g) (Gr.at' g) (Gr.total g) (Gr.report g) (Gr.more g) (Gr.may g) (Gr.wants g) (Gr.data g))) (Value.agg (List.toArray (List.map (fun n => Value.int IntKind.i64 n) (Gr.fr (Gr.mk (nx (Gr.fx g)) (Gr.fr g) (nx (Gr.tx g)) (Gr.to g) (Gr.number g) (Gr.life g) (Gr.at' g) (Gr.total g) (Gr.report g) (Gr.more g) (Gr.may g) (Gr.wants g) (Gr.data g)))))))), Value.iface 3 (Value.iface (List.length (Gr.to (Gr.mk (nx (Gr.fx g)) (Gr.fr g) (nx (Gr.tx g)) (Gr.to g) (Gr.number g) (Gr.life g) (Gr.at' g) (Gr.total g) (Gr.report g) (Gr.more g) (Gr.may g) (Gr.wants g) (Gr.data g)))) (Value.iface (Gr.tx (Gr.mk (nx (Gr.fx g)) (Gr.fr g) (nx (Gr.tx g)) (Gr.to g) (Gr.number g) (Gr.life g) (Gr.at' g) (Gr.total g) (Gr.report g) (Gr.more g) (Gr.may g) (Gr.wants g) (Gr.data g))) (Value.agg (List.toArray (List.map (fun n => Value.int IntKind.i64 n) (Gr.to (Gr.mk (nx (Gr.fx g)) (Gr.fr g) (nx (Gr.tx g)) (Gr.to g) (Gr.number g) (Gr.life g) (Gr.at' g) (Gr.total g) (Gr.report g) (Gr.more g) (Gr.may g) (Gr.wants g) (Gr.data g)))))))), Value.int IntKind.i64 (Gr.number (Gr.mk (nx (Gr.fx g)) (Gr.fr g) (nx (Gr.tx g)) (Gr.to g) (Gr.number g) (Gr.life g) (Gr.at' g) (Gr.total g) (Gr.report g) (Gr.more g) (Gr.may g) (Gr.wants g) (Gr.data g))), Value.int IntKind.i64 (Gr.life (Gr.mk (nx (Gr.fx g)) (Gr.fr g) (nx (Gr.tx g)) (Gr.to g) (Gr.number g) (Gr.life g) (Gr.at' g) (Gr.total g) (Gr.report g) (Gr.more g) (Gr.may g) (Gr.wants g) (Gr.data g))), Value.int IntKind.i64 (IntKind.wrap IntKind.i64 (Gr.at' g + (↑(k * s) : Int))), Value.int IntKind.i64 (Gr.total (Gr.mk (nx (Gr.fx g)) (Gr.fr g) (nx (Gr.tx g)) (Gr.to g) (Gr.number g) (Gr.life g) (Gr.at' g) (Gr.total g) (Gr.report g) (Gr.more g) (Gr.may g) (Gr.wants g) (Gr.data g))), Value.int IntKind.i64 (Gr.report (Gr.mk (nx (Gr.fx g)) (Gr.fr g) (nx (Gr.tx g)) (Gr.to g) (Gr.number g) (Gr.life g) (Gr.at' g) (Gr.total g) (Gr.report g) (Gr.more g) (Gr.may g) (Gr.wants g) (Gr.data g))), Value.bool (Gr.more (Gr.mk (nx (Gr.fx g)) (Gr.fr g) (nx (Gr.tx g)) (Gr.to g) (Gr.number g) (Gr.life g) (Gr.at' g) (Gr.total g) (Gr.report g) (Gr.more g) (Gr.may g) (Gr.wants g) (Gr.data g))), Value.bool (Gr.may (Gr.mk (nx (Gr.fx g)) (Gr.fr g) (nx (Gr.tx g)) (Gr.to g) (Gr.number g) (Gr.life g) (Gr.at' g) (Gr.total g) (Gr.report g) (Gr.more g) (Gr.may g) (Gr.wants g) (Gr.data g))), Value.bool (Gr.wants (Gr.mk (nx (Gr.fx g)) (Gr.fr g) (nx (Gr.tx g)) (Gr.to g) (Gr.number g) (Gr.life g) (Gr.at' g) (Gr.total g) (Gr.report g) (Gr.more g) (Gr.may g) (Gr.wants g) (Gr.data g))), Value.string (Gr.data (Gr.mk (nx (Gr.fx g)) (Gr.fr g) (nx (Gr.tx g)) (Gr.to g) (Gr.number g) (Gr.life g) (Gr.at' g) (Gr.total g) (Gr.report g) (Gr.more g) (Gr.may g) (Gr.wants g) (Gr.data g)))]) (by kernel_rfl) (by kernel_rfl) (by kernel_rfl) ?_ (fun cf => (by kernel_rfl))
    refine WpOps.nil ?_
    refine thenK_at ?_
    refine Wp.seq ?_
    refine Wp.text ?_
    refine WpOps.keep 42 (Value.pointer (some (Addr.mk 0 10 none))) (by kernel_rfl) (by kernel_rfl) (by kernel_rfl) ?_ (fun cf => (by kernel_rfl))
    refine WpOps.keep 43 (Value.string (Gr.data g)) (by kernel_rfl) (by kernel_rfl) (by kernel_rfl) ?_ (fun cf => (by kernel_rfl))
    refine WpOps.keep 44 (Value.int IntKind.i64 (↑(k * s) : Int)) (by kernel_rfl) (by kernel_rfl) (by kernel_rfl) ?_ (fun cf => (by kernel_rfl))
    refine WpOps.keep 45 (Value.int IntKind.i64 (↑(k * s) : Int)) (by kernel_rfl) (by kernel_rfl) (by kernel_rfl) ?_ (fun cf => (by kernel_rfl))
    refine WpOps.keep 46 (Value.int IntKind.i64 (↑s : Int)) (by kernel_rfl) (by kernel_rfl) (by kernel_rfl) ?_ (fun cf => (by kernel_rfl))
    refine WpOps.keep 47 (Value.int IntKind.i64 (IntKind.wrap IntKind.i64 ((↑(k * s) : Int) + (↑s : Int)))) (by kernel_rfl) (by kernel_rfl) (by kernel_rfl) ?_ (fun cf => (by kernel_rfl))
    refine WpOps.keep 48 (Value.pointer (some (Addr.mk 0 10 none))) (by kernel_rfl) (by kernel_rfl) (by kernel_rfl) ?_ (fun cf => (by kernel_rfl))
    refine WpOps.keep 49 (Value.string (Gr.data g)) (by kernel_rfl) (by kernel_rfl) (by kernel_rfl) ?_ (fun cf => (by kernel_rfl))
    refine WpOps.keep 50 (Value.int IntKind.i64 (↑(ByteArray.size (Gr.data g)) : Int)) (by kernel_rfl) (by kernel_rfl) (by kernel_rfl) ?_ (fun cf => (by kernel_rfl))
    refine WpOps.keep 51 (Value.int IntKind.i64 (if (↑(ByteArray.size (Gr.data g)) : Int) < IntKind.wrap IntKind.i64 ((↑(k * s) : Int) + (↑s : Int)) then (↑(ByteArray.size (Gr.data g)) : Int) else IntKind.wrap IntKind.i64 ((↑(k * s) : Int) + (↑s : Int)))) (by kernel_rfl) (by kernel_rfl) (by kernel_rfl) ?_ (fun cf => (by kernel_rfl))
    refine WpOps.keep 52 (Value.string (ByteArray.extract (Gr.data g) (Int.toNat (↑(k * s) : Int)) (Int.toNat (if (↑(ByteArray.size (Gr.data g)) : Int) < IntKind.wrap IntKind.i64 ((↑(k * s) : Int) + (↑s : Int)) then (↑(ByteArray.size (Gr.data g)) : Int) else IntKind.wrap IntKind.i64 ((↑(k * s) : Int) + (↑s : Int)))))) (by kernel_rfl) (by kernel_rfl) (by kernel_rfl) ?_ (fun cf => o_cutLH t1 t2 (by kernel_rfl) (by kernel_rfl) (by kernel_rfl) (by kernel_rfl))
    refine WpOps.keep 53 (Value.pointer (some (Addr.mk 2 10 none))) (by kernel_rfl) (by kernel_rfl) (by kernel_rfl) ?_ (fun cf => (by kernel_rfl))
    refine WpOps.laid (Value.tuple #[]) (2) (Blk.mk 24 true [Value.iface 3 (Value.iface (List.length (Gr.fr (Gr.mk (nx (Gr.fx g)) (Gr.fr g) (nx (Gr.tx g)) (Gr.to g) (Gr.number g) (Gr.life g) (Gr.at' g) (Gr.total g) (Gr.report g) (Gr.more g) (Gr.may g) (Gr.wants g) (Gr.data g)))) (Value.iface (Gr.fx (Gr.mk (nx (Gr.fx g)) (Gr.fr g) (nx (Gr.tx g)) (Gr.to g) (Gr.number g) (Gr.life g) (Gr.at' g) (Gr.total g) (Gr.report g) (Gr.more g) (Gr.may g) (Gr.wants g) (Gr.data g))) (Value.agg (List.toArray (List.map (fun n => Value.int IntKind.i64 n) (Gr.fr (Gr.mk (nx (Gr.fx g)) (Gr.fr g) (nx (Gr.tx g)) (Gr.to g) (Gr.number g) (Gr.life g) (Gr.at' g) (Gr.total g) (Gr.report g) (Gr.more g) (Gr.may g) (Gr.wants g) (Gr.data g)))))))), Value.iface 3 (Value.iface (List.length (Gr.to (Gr.mk (nx (Gr.fx g)) (Gr.fr g) (nx (Gr.tx g)) (Gr.to g) (Gr.number g) (Gr.life g) (Gr.at' g) (Gr.total g) (Gr.report g) (Gr.more g) (Gr.may g) (Gr.wants g) (Gr.data g)))) (Value.iface (Gr.tx (Gr.mk (nx (Gr.fx g)) (Gr.fr g) (nx (Gr.tx g)) (Gr.to g) (Gr.number g) (Gr.life g) (Gr.at' g) (Gr.total g) (Gr.report g) (Gr.more g) (Gr.may g) (Gr.wants g) (Gr.data g))) (Value.agg (List.toArray (List.map (fun n => Value.int IntKind.i64 n) (Gr.to (Gr.mk (nx (Gr.fx g)) (Gr.fr g) (nx (Gr.tx g)) (Gr.to g) (Gr.number g) (Gr.life g) (Gr.at' g) (Gr.total g) (Gr.report g) (Gr.more g) (Gr.may g) (Gr.wants g) (Gr.data g)))))))), Value.int IntKind.i64 (Gr.number (Gr.mk (nx (Gr.fx g)) (Gr.fr g) (nx (Gr.tx g)) (Gr.to g) (Gr.number g) (Gr.life g) (Gr.at' g) (Gr.total g) (Gr.report g) (Gr.more g) (Gr.may g) (Gr.wants g) (Gr.data g))), Value.int IntKind.i64 (Gr.life (Gr.mk (nx (Gr.fx g)) (Gr.fr g) (nx (Gr.tx g)) (Gr.to g) (Gr.number g) (Gr.life g) (Gr.at' g) (Gr.total g) (Gr.report g) (Gr.more g) (Gr.may g) (Gr.wants g) (Gr.data g))), Value.int IntKind.i64 (IntKind.wrap IntKind.i64 (Gr.at' g + (↑(k * s) : Int))), Value.int IntKind.i64 (Gr.total (Gr.mk (nx (Gr.fx g)) (Gr.fr g) (nx (Gr.tx g)) (Gr.to g) (Gr.number g) (Gr.life g) (Gr.at' g) (Gr.total g) (Gr.report g) (Gr.more g) (Gr.may g) (Gr.wants g) (Gr.data g))), Value.int IntKind.i64 (Gr.report (Gr.mk (nx (Gr.fx g)) (Gr.fr g) (nx (Gr.tx g)) (Gr.to g) (Gr.number g) (Gr.life g) (Gr.at' g) (Gr.total g) (Gr.report g) (Gr.more g) (Gr.may g) (Gr.wants g) (Gr.data g))), Value.bool (Gr.more (Gr.mk (nx (Gr.fx g)) (Gr.fr g) (nx (Gr.tx g)) (Gr.to g) (Gr.number g) (Gr.life g) (Gr.at' g) (Gr.total g) (Gr.report g) (Gr.more g) (Gr.may g) (Gr.wants g) (Gr.data g))), Value.bool (Gr.may (Gr.mk (nx (Gr.fx g)) (Gr.fr g) (nx (Gr.tx g)) (Gr.to g) (Gr.number g) (Gr.life g) (Gr.at' g) (Gr.total g) (Gr.report g) (Gr.more g) (Gr.may g) (Gr.wants g) (Gr.data g))), Value.bool (Gr.wants (Gr.mk (nx (Gr.fx g)) (Gr.fr g) (nx (Gr.tx g)) (Gr.to g) (Gr.number g) (Gr.life g) (Gr.at' g) (Gr.total g) (Gr.report g) (Gr.more g) (Gr.may g) (Gr.wants g) (Gr.data g))), Value.string (ByteArray.extract (Gr.data g) (Int.toNat (↑(k * s) : Int)) (Int.toNat (if (↑(ByteArray.size (Gr.data g)) : Int) < IntKind.wrap IntKind.i64 ((↑(k * s) : Int) + (↑s : Int)) then (↑(ByteArray.size (Gr.data g)) : Int) else IntKind.wrap IntKind.i64 ((↑(k * s) : Int) + (↑s : Int)))))]) (by kernel_rfl) (by kernel_rfl) (by kernel_rfl) ?_ (fun cf => (by kernel_rfl))
    refine WpOps.nil ?_
    refine thenK_at ?_
    refine Wp.seq ?_
    refine Wp.text ?_
    refine WpOps.keep 54 (Value.pointer (some (Addr.mk 2 4 none))) (by kernel_rfl) (by kernel_rfl) (by kernel_rfl) ?_ (fun cf => (by kernel_rfl))
    refine WpOps.keep 55 (Value.int IntKind.i64 (IntKind.wrap IntKind.i64 (Gr.at' g + (↑(k * s) : Int)))) (by kernel_rfl) (by kernel_rfl) (by kernel_rfl) ?_ (fun cf => (by kernel_rfl))
    refine WpOps.keep 56 (Value.pointer (some (Addr.mk 2 10 none))) (by kernel_rfl) (by kernel_rfl) (by kernel_rfl) ?_ (fun cf => (by kernel_rfl))
    refine WpOps.keep 57 (Value.string (ByteArray.extract (Gr.data g) (Int.toNat (↑(k * s) : Int)) (Int.toNat (if (↑(ByteArray.size (Gr.data g)) : Int) < IntKind.wrap IntKind.i64 ((↑(k * s) : Int) + (↑s : Int)) then (↑(ByteArray.size (Gr.data g)) : Int) else IntKind.wrap IntKind.i64 ((↑(k * s) : Int) + (↑s : Int)))))) (by kernel_rfl) (by kernel_rfl) (by kernel_rfl) ?_ (fun cf => (by kernel_rfl))
    refine WpOps.keep 58 (Value.int IntKind.i64 (↑(ByteArray.size (ByteArray.extract (Gr.data g) (Int.toNat (↑(k * s) : Int)) (Int.toNat (if (↑(ByteArray.size (Gr.data g)) : Int) < IntKind.wrap IntKind.i64 ((↑(k * s) : Int) + (↑s : Int)) then (↑(ByteArray.size (Gr.data g)) : Int) else IntKind.wrap IntKind.i64 ((↑(k * s) : Int) + (↑s : Int)))))) : Int)) (by kernel_rfl) (by kernel_rfl) (by kernel_rfl) ?_ (fun cf => (by kernel_rfl))
    refine WpOps.keep 59 (Value.int IntKind.i64 (IntKind.wrap IntKind.i64 (IntKind.wrap IntKind.i64 (Gr.at' g + (↑(k * s) : Int)) + (↑(ByteArray.size (ByteArray.extract (Gr.data g) (Int.toNat (↑(k * s) : Int)) (Int.toNat (if (↑(ByteArray.size (Gr.data g)) : Int) < IntKind.wrap IntKind.i64 ((↑(k * s) : Int) + (↑s : Int)) then (↑(ByteArray.size (Gr.data g)) : Int) else IntKind.wrap IntKind.i64 ((↑(k * s) : Int) + (↑s : Int)))))) : Int)))) (by kernel_rfl) (by kernel_rfl) (by kernel_rfl) ?_ (fun cf => (by kernel_rfl))
    refine WpOps.keep 60 (Value.pointer (some (Addr.mk 2 5 none))) (by kernel_rfl) (by kernel_rfl) (by kernel_rfl) ?_ (fun cf => (by kernel_rfl))
    refine WpOps.keep 61 (Value.int IntKind.i64 (Gr.total (Gr.mk (nx (Gr.fx g)) (Gr.fr g) (nx (Gr.tx g)) (Gr.to g) (Gr.number g) (Gr.life g) (Gr.at' g) (Gr.total g) (Gr.report g) (Gr.more g) (Gr.may g) (Gr.wants g) (Gr.data g)))) (by kernel_rfl) (by kernel_rfl) (by kernel_rfl) ?_ (fun cf => (by kernel_rfl))
    refine WpOps.keep 62 (Value.bool (decide (IntKind.wrap IntKind.i64 (IntKind.wrap IntKind.i64 (Gr.at' g + (↑(k * s) : Int)) + (↑(ByteArray.size (ByteArray.extract (Gr.data g) (Int.toNat (↑(k * s) : Int)) (Int.toNat (if (↑(ByteArray.size (Gr.data g)) : Int) < IntKind.wrap IntKind.i64 ((↑(k * s) : Int) + (↑s : Int)) then (↑(ByteArray.size (Gr.data g)) : Int) else IntKind.wrap IntKind.i64 ((↑(k * s) : Int) + (↑s : Int)))))) : Int)) < Gr.total (Gr.mk (nx (Gr.fx g)) (Gr.fr g) (nx (Gr.tx g)) (Gr.to g) (Gr.number g) (Gr.life g) (Gr.at' g) (Gr.total g) (Gr.report g) (Gr.more g) (Gr.may g) (Gr.wants g) (Gr.data g))))) (by kernel_rfl) (by kernel_rfl) (by kernel_rfl) ?_ (fun cf => (by kernel_rfl))
    refine WpOps.keep 63 (Value.pointer (some (Addr.mk 2 7 none))) (by kernel_rfl) (by kernel_rfl) (by kernel_rfl) ?_ (fun cf => (by kernel_rfl))
    refine WpOps.laid (Value.tuple #[]) (2) (Blk.mk 24 true [Value.iface 3 (Value.iface (List.length (Gr.fr (Gr.mk (nx (Gr.fx g)) (Gr.fr g) (nx (Gr.tx g)) (Gr.to g) (Gr.number g) (Gr.life g) (Gr.at' g) (Gr.total g) (Gr.report g) (Gr.more g) (Gr.may g) (Gr.wants g) (Gr.data g)))) (Value.iface (Gr.fx (Gr.mk (nx (Gr.fx g)) (Gr.fr g) (nx (Gr.tx g)) (Gr.to g) (Gr.number g) (Gr.life g) (Gr.at' g) (Gr.total g) (Gr.report g) (Gr.more g) (Gr.may g) (Gr.wants g) (Gr.data g))) (Value.agg (List.toArray (List.map (fun n => Value.int IntKind.i64 n) (Gr.fr (Gr.mk (nx (Gr.fx g)) (Gr.fr g) (nx (Gr.tx g)) (Gr.to g) (Gr.number g) (Gr.life g) (Gr.at' g) (Gr.total g) (Gr.report g) (Gr.more g) (Gr.may g) (Gr.wants g) (Gr.data g)))))))), Value.iface 3 (Value.iface (List.length (Gr.to (Gr.mk (nx (Gr.fx g)) (Gr.fr g) (nx (Gr.tx g)) (Gr.to g) (Gr.number g) (Gr.life g) (Gr.at' g) (Gr.total g) (Gr.report g) (Gr.more g) (Gr.may g) (Gr.wants g) (Gr.data g)))) (Value.iface (Gr.tx (Gr.mk (nx (Gr.fx g)) (Gr.fr g) (nx (Gr.tx g)) (Gr.to g) (Gr.number g) (Gr.life g) (Gr.at' g) (Gr.total g) (Gr.report g) (Gr.more g) (Gr.may g) (Gr.wants g) (Gr.data g))) (Value.agg (List.toArray (List.map (fun n => Value.int IntKind.i64 n) (Gr.to (Gr.mk (nx (Gr.fx g)) (Gr.fr g) (nx (Gr.tx g)) (Gr.to g) (Gr.number g) (Gr.life g) (Gr.at' g) (Gr.total g) (Gr.report g) (Gr.more g) (Gr.may g) (Gr.wants g) (Gr.data g)))))))), Value.int IntKind.i64 (Gr.number (Gr.mk (nx (Gr.fx g)) (Gr.fr g) (nx (Gr.tx g)) (Gr.to g) (Gr.number g) (Gr.life g) (Gr.at' g) (Gr.total g) (Gr.report g) (Gr.more g) (Gr.may g) (Gr.wants g) (Gr.data g))), Value.int IntKind.i64 (Gr.life (Gr.mk (nx (Gr.fx g)) (Gr.fr g) (nx (Gr.tx g)) (Gr.to g) (Gr.number g) (Gr.life g) (Gr.at' g) (Gr.total g) (Gr.report g) (Gr.more g) (Gr.may g) (Gr.wants g) (Gr.data g))), Value.int IntKind.i64 (IntKind.wrap IntKind.i64 (Gr.at' g + (↑(k * s) : Int))), Value.int IntKind.i64 (Gr.total (Gr.mk (nx (Gr.fx g)) (Gr.fr g) (nx (Gr.tx g)) (Gr.to g) (Gr.number g) (Gr.life g) (Gr.at' g) (Gr.total g) (Gr.report g) (Gr.more g) (Gr.may g) (Gr.wants g) (Gr.data g))), Value.int IntKind.i64 (Gr.report (Gr.mk (nx (Gr.fx g)) (Gr.fr g) (nx (Gr.tx g)) (Gr.to g) (Gr.number g) (Gr.life g) (Gr.at' g) (Gr.total g) (Gr.report g) (Gr.more g) (Gr.may g) (Gr.wants g) (Gr.data g))), Value.bool (decide (IntKind.wrap IntKind.i64 (IntKind.wrap IntKind.i64 (Gr.at' g + (↑(k * s) : Int)) + (↑(ByteArray.size (ByteArray.extract (Gr.data g) (Int.toNat (↑(k * s) : Int)) (Int.toNat (if (↑(ByteArray.size (Gr.data g)) : Int) < IntKind.wrap IntKind.i64 ((↑(k * s) : Int) + (↑s : Int)) then (↑(ByteArray.size (Gr.data g)) : Int) else IntKind.wrap IntKind.i64 ((↑(k * s) : Int) + (↑s : Int)))))) : Int)) < Gr.total (Gr.mk (nx (Gr.fx g)) (Gr.fr g) (nx (Gr.tx g)) (Gr.to g) (Gr.number g) (Gr.life g) (Gr.at' g) (Gr.total g) (Gr.report g) (Gr.more g) (Gr.may g) (Gr.wants g) (Gr.data g)))), Value.bool (Gr.may (Gr.mk (nx (Gr.fx g)) (Gr.fr g) (nx (Gr.tx g)) (Gr.to g) (Gr.number g) (Gr.life g) (Gr.at' g) (Gr.total g) (Gr.report g) (Gr.more g) (Gr.may g) (Gr.wants g) (Gr.data g))), Value.bool (Gr.wants (Gr.mk (nx (Gr.fx g)) (Gr.fr g) (nx (Gr.tx g)) (Gr.to g) (Gr.number g) (Gr.life g) (Gr.at' g) (Gr.total g) (Gr.report g) (Gr.more g) (Gr.may g) (Gr.wants g) (Gr.data g))), Value.string (ByteArray.extract (Gr.data g) (Int.toNat (↑(k * s) : Int)) (Int.toNat (if (↑(ByteArray.size (Gr.data g)) : Int) < IntKind.wrap IntKind.i64 ((↑(k * s) : Int) + (↑s : Int)) then (↑(ByteArray.size (Gr.data g)) : Int) else IntKind.wrap IntKind.i64 ((↑(k * s) : Int) + (↑s : Int)))))]) (by kernel_rfl) (by kernel_rfl) (by kernel_rfl) ?_ (fun cf => (by kernel_rfl))
    refine WpOps.nil ?_
    refine thenK_at ?_
    refine Wp.text ?_
    refine WpOps.keep 64 (Value.slice (some (Addr.mk 1 0 none)) k k) (by kernel_rfl) (by kernel_rfl) (by kernel_rfl) ?_ (fun cf => (by kernel_rfl))
    refine WpOps.keep 65 (Value.agg #[Value.iface 3 (Value.iface (List.length (Gr.fr (Gr.mk (nx (Gr.fx g)) (Gr.fr g) (nx (Gr.tx g)) (Gr.to g) (Gr.number g) (Gr.life g) (Gr.at' g) (Gr.total g) (Gr.report g) (Gr.more g) (Gr.may g) (Gr.wants g) (Gr.data g)))) (Value.iface (Gr.fx (Gr.mk (nx (Gr.fx g)) (Gr.fr g) (nx (Gr.tx g)) (Gr.to g) (Gr.number g) (Gr.life g) (Gr.at' g) (Gr.total g) (Gr.report g) (Gr.more g) (Gr.may g) (Gr.wants g) (Gr.data g))) (Value.agg (List.toArray (List.map (fun n => Value.int IntKind.i64 n) (Gr.fr (Gr.mk (nx (Gr.fx g)) (Gr.fr g) (nx (Gr.tx g)) (Gr.to g) (Gr.number g) (Gr.life g) (Gr.at' g) (Gr.total g) (Gr.report g) (Gr.more g) (Gr.may g) (Gr.wants g) (Gr.data g)))))))), Value.iface 3 (Value.iface (List.length (Gr.to (Gr.mk (nx (Gr.fx g)) (Gr.fr g) (nx (Gr.tx g)) (Gr.to g) (Gr.number g) (Gr.life g) (Gr.at' g) (Gr.total g) (Gr.report g) (Gr.more g) (Gr.may g) (Gr.wants g) (Gr.data g)))) (Value.iface (Gr.tx (Gr.mk (nx (Gr.fx g)) (Gr.fr g) (nx (Gr.tx g)) (Gr.to g) (Gr.number g) (Gr.life g) (Gr.at' g) (Gr.total g) (Gr.report g) (Gr.more g) (Gr.may g) (Gr.wants g) (Gr.data g))) (Value.agg (List.toArray (List.map (fun n => Value.int IntKind.i64 n) (Gr.to (Gr.mk (nx (Gr.fx g)) (Gr.fr g) (nx (Gr.tx g)) (Gr.to g) (Gr.number g) (Gr.life g) (Gr.at' g) (Gr.total g) (Gr.report g) (Gr.more g) (Gr.may g) (Gr.wants g) (Gr.data g)))))))), Value.int IntKind.i64 (Gr.number (Gr.mk (nx (Gr.fx g)) (Gr.fr g) (nx (Gr.tx g)) (Gr.to g) (Gr.number g) (Gr.life g) (Gr.at' g) (Gr.total g) (Gr.report g) (Gr.more g) (Gr.may g) (Gr.wants g) (Gr.data g))), Value.int IntKind.i64 (Gr.life (Gr.mk (nx (Gr.fx g)) (Gr.fr g) (nx (Gr.tx g)) (Gr.to g) (Gr.number g) (Gr.life g) (Gr.at' g) (Gr.total g) (Gr.report g) (Gr.more g) (Gr.may g) (Gr.wants g) (Gr.data g))), Value.int IntKind.i64 (IntKind.wrap IntKind.i64 (Gr.at' g + (↑(k * s) : Int))), Value.int IntKind.i64 (Gr.total (Gr.mk (nx (Gr.fx g)) (Gr.fr g) (nx (Gr.tx g)) (Gr.to g) (Gr.number g) (Gr.life g) (Gr.at' g) (Gr.total g) (Gr.report g) (Gr.more g) (Gr.may g) (Gr.wants g) (Gr.data g))), Value.int IntKind.i64 (Gr.report (Gr.mk (nx (Gr.fx g)) (Gr.fr g) (nx (Gr.tx g)) (Gr.to g) (Gr.number g) (Gr.life g) (Gr.at' g) (Gr.total g) (Gr.report g) (Gr.more g) (Gr.may g) (Gr.wants g) (Gr.data g))), Value.bool (decide (IntKind.wrap IntKind.i64 (IntKind.wrap IntKind.i64 (Gr.at' g + (↑(k * s) : Int)) + (↑(ByteArray.size (ByteArray.extract (Gr.data g) (Int.toNat (↑(k * s) : Int)) (Int.toNat (if (↑(ByteArray.size (Gr.data g)) : Int) < IntKind.wrap IntKind.i64 ((↑(k * s) : Int) + (↑s : Int)) then (↑(ByteArray.size (Gr.data g)) : Int) else IntKind.wrap IntKind.i64 ((↑(k * s) : Int) + (↑s : Int)))))) : Int)) < Gr.total (Gr.mk (nx (Gr.fx g)) (Gr.fr g) (nx (Gr.tx g)) (Gr.to g) (Gr.number g) (Gr.life g) (Gr.at' g) (Gr.total g) (Gr.report g) (Gr.more g) (Gr.may g) (Gr.wants g) (Gr.data g)))), Value.bool (Gr.may (Gr.mk (nx (Gr.fx g)) (Gr.fr g) (nx (Gr.tx g)) (Gr.to g) (Gr.number g) (Gr.life g) (Gr.at' g) (Gr.total g) (Gr.report g) (Gr.more g) (Gr.may g) (Gr.wants g) (Gr.data g))), Value.bool (Gr.wants (Gr.mk (nx (Gr.fx g)) (Gr.fr g) (nx (Gr.tx g)) (Gr.to g) (Gr.number g) (Gr.life g) (Gr.at' g) (Gr.total g) (Gr.report g) (Gr.more g) (Gr.may g) (Gr.wants g) (Gr.data g))), Value.string (ByteArray.extract (Gr.data g) (Int.toNat (↑(k * s) : Int)) (Int.toNat (if (↑(ByteArray.size (Gr.data g)) : Int) < IntKind.wrap IntKind.i64 ((↑(k * s) : Int) + (↑s : Int)) then (↑(ByteArray.size (Gr.data g)) : Int) else IntKind.wrap IntKind.i64 ((↑(k * s) : Int) + (↑s : Int)))))]) (by kernel_rfl) (by kernel_rfl) (by kernel_rfl) ?_ (fun cf => (by kernel_rfl))
    refine WpOps.made 66 (Value.slice (some (Addr.mk 3 0 none)) 1 1) (Blk.mk 24 true [Value.iface 3 (Value.iface (List.length (Gr.fr (Gr.mk (nx (Gr.fx g)) (Gr.fr g) (nx (Gr.tx g)) (Gr.to g) (Gr.number g) (Gr.life g) (Gr.at' g) (Gr.total g) (Gr.report g) (Gr.more g) (Gr.may g) (Gr.wants g) (Gr.data g)))) (Value.iface (Gr.fx (Gr.mk (nx (Gr.fx g)) (Gr.fr g) (nx (Gr.tx g)) (Gr.to g) (Gr.number g) (Gr.life g) (Gr.at' g) (Gr.total g) (Gr.report g) (Gr.more g) (Gr.may g) (Gr.wants g) (Gr.data g))) (Value.agg (List.toArray (List.map (fun n => Value.int IntKind.i64 n) (Gr.fr (Gr.mk (nx (Gr.fx g)) (Gr.fr g) (nx (Gr.tx g)) (Gr.to g) (Gr.number g) (Gr.life g) (Gr.at' g) (Gr.total g) (Gr.report g) (Gr.more g) (Gr.may g) (Gr.wants g) (Gr.data g)))))))), Value.iface 3 (Value.iface (List.length (Gr.to (Gr.mk (nx (Gr.fx g)) (Gr.fr g) (nx (Gr.tx g)) (Gr.to g) (Gr.number g) (Gr.life g) (Gr.at' g) (Gr.total g) (Gr.report g) (Gr.more g) (Gr.may g) (Gr.wants g) (Gr.data g)))) (Value.iface (Gr.tx (Gr.mk (nx (Gr.fx g)) (Gr.fr g) (nx (Gr.tx g)) (Gr.to g) (Gr.number g) (Gr.life g) (Gr.at' g) (Gr.total g) (Gr.report g) (Gr.more g) (Gr.may g) (Gr.wants g) (Gr.data g))) (Value.agg (List.toArray (List.map (fun n => Value.int IntKind.i64 n) (Gr.to (Gr.mk (nx (Gr.fx g)) (Gr.fr g) (nx (Gr.tx g)) (Gr.to g) (Gr.number g) (Gr.life g) (Gr.at' g) (Gr.total g) (Gr.report g) (Gr.more g) (Gr.may g) (Gr.wants g) (Gr.data g)))))))), Value.int IntKind.i64 (Gr.number (Gr.mk (nx (Gr.fx g)) (Gr.fr g) (nx (Gr.tx g)) (Gr.to g) (Gr.number g) (Gr.life g) (Gr.at' g) (Gr.total g) (Gr.report g) (Gr.more g) (Gr.may g) (Gr.wants g) (Gr.data g))), Value.int IntKind.i64 (Gr.life (Gr.mk (nx (Gr.fx g)) (Gr.fr g) (nx (Gr.tx g)) (Gr.to g) (Gr.number g) (Gr.life g) (Gr.at' g) (Gr.total g) (Gr.report g) (Gr.more g) (Gr.may g) (Gr.wants g) (Gr.data g))), Value.int IntKind.i64 (IntKind.wrap IntKind.i64 (Gr.at' g + (↑(k * s) : Int))), Value.int IntKind.i64 (Gr.total (Gr.mk (nx (Gr.fx g)) (Gr.fr g) (nx (Gr.tx g)) (Gr.to g) (Gr.number g) (Gr.life g) (Gr.at' g) (Gr.total g) (Gr.report g) (Gr.more g) (Gr.may g) (Gr.wants g) (Gr.data g))), Value.int IntKind.i64 (Gr.report (Gr.mk (nx (Gr.fx g)) (Gr.fr g) (nx (Gr.tx g)) (Gr.to g) (Gr.number g) (Gr.life g) (Gr.at' g) (Gr.total g) (Gr.report g) (Gr.more g) (Gr.may g) (Gr.wants g) (Gr.data g))), Value.bool (decide (IntKind.wrap IntKind.i64 (IntKind.wrap IntKind.i64 (Gr.at' g + (↑(k * s) : Int)) + (↑(ByteArray.size (ByteArray.extract (Gr.data g) (Int.toNat (↑(k * s) : Int)) (Int.toNat (if (↑(ByteArray.size (Gr.data g)) : Int) < IntKind.wrap IntKind.i64 ((↑(k * s) : Int) + (↑s : Int)) then (↑(ByteArray.size (Gr.data g)) : Int) else IntKind.wrap IntKind.i64 ((↑(k * s) : Int) + (↑s : Int)))))) : Int)) < Gr.total (Gr.mk (nx (Gr.fx g)) (Gr.fr g) (nx (Gr.tx g)) (Gr.to g) (Gr.number g) (Gr.life g) (Gr.at' g) (Gr.total g) (Gr.report g) (Gr.more g) (Gr.may g) (Gr.wants g) (Gr.data g)))), Value.bool (Gr.may (Gr.mk (nx (Gr.fx g)) (Gr.fr g) (nx (Gr.tx g)) (Gr.to g) (Gr.number g) (Gr.life g) (Gr.at' g) (Gr.total g) (Gr.report g) (Gr.more g) (Gr.may g) (Gr.wants g) (Gr.data g))), Value.bool (Gr.wants (Gr.mk (nx (Gr.fx g)) (Gr.fr g) (nx (Gr.tx g)) (Gr.to g) (Gr.number g) (Gr.life g) (Gr.at' g) (Gr.total g) (Gr.report g) (Gr.more g) (Gr.may g) (Gr.wants g) (Gr.data g))), Value.string (ByteArray.extract (Gr.data g) (Int.toNat (↑(k * s) : Int)) (Int.toNat (if (↑(ByteArray.size (Gr.data g)) : Int) < IntKind.wrap IntKind.i64 ((↑(k * s) : Int) + (↑s : Int)) then (↑(ByteArray.size (Gr.data g)) : Int) else IntKind.wrap IntKind.i64 ((↑(k * s) : Int) + (↑s : Int)))))]) (by kernel_rfl) (by kernel_rfl) (by kernel_rfl) ?_ (fun cf => (by kernel_rfl))
    refine WpOps.chg 67 (Value.slice (some (Addr.mk 4 0 none)) (k + 1) (k + 1)) (Heap.alloc (Heap.set (Heap.alloc (Heap.set (Heap.set (Heap.set (Heap.set (Heap.alloc (heapOf [Blk.mk 24 true (gc g), Blk.mk 24 true (cellsG (pcs g s k))]) (Blk.mk 24 true [Value.slice none 0 0, Value.slice none 0 0, Value.int IntKind.i64 0, Value.int IntKind.i64 0, Value.int IntKind.i64 0, Value.int IntKind.i64 0, Value.int IntKind.i64 0, Value.bool false, Value.bool false, Value.bool false, Value.string (ByteArray.mk #[])])) 2 (some (Blk.mk 24 true [Value.iface 3 (Value.iface (List.length (Gr.fr (Gr.mk (nx (Gr.fx g)) (Gr.fr g) (nx (Gr.tx g)) (Gr.to g) (Gr.number g) (Gr.life g) (Gr.at' g) (Gr.total g) (Gr.report g) (Gr.more g) (Gr.may g) (Gr.wants g) (Gr.data g)))) (Value.iface (Gr.fx (Gr.mk (nx (Gr.fx g)) (Gr.fr g) (nx (Gr.tx g)) (Gr.to g) (Gr.number g) (Gr.life g) (Gr.at' g) (Gr.total g) (Gr.report g) (Gr.more g) (Gr.may g) (Gr.wants g) (Gr.data g))) (Value.agg (List.toArray (List.map (fun n => Value.int IntKind.i64 n) (Gr.fr (Gr.mk (nx (Gr.fx g)) (Gr.fr g) (nx (Gr.tx g)) (Gr.to g) (Gr.number g) (Gr.life g) (Gr.at' g) (Gr.total g) (Gr.report g) (Gr.more g) (Gr.may g) (Gr.wants g) (Gr.data g)))))))), Value.iface 3 (Value.iface (List.length (Gr.to (Gr.mk (nx (Gr.fx g)) (Gr.fr g) (nx (Gr.tx g)) (Gr.to g) (Gr.number g) (Gr.life g) (Gr.at' g) (Gr.total g) (Gr.report g) (Gr.more g) (Gr.may g) (Gr.wants g) (Gr.data g)))) (Value.iface (Gr.tx (Gr.mk (nx (Gr.fx g)) (Gr.fr g) (nx (Gr.tx g)) (Gr.to g) (Gr.number g) (Gr.life g) (Gr.at' g) (Gr.total g) (Gr.report g) (Gr.more g) (Gr.may g) (Gr.wants g) (Gr.data g))) (Value.agg (List.toArray (List.map (fun n => Value.int IntKind.i64 n) (Gr.to (Gr.mk (nx (Gr.fx g)) (Gr.fr g) (nx (Gr.tx g)) (Gr.to g) (Gr.number g) (Gr.life g) (Gr.at' g) (Gr.total g) (Gr.report g) (Gr.more g) (Gr.may g) (Gr.wants g) (Gr.data g)))))))), Value.int IntKind.i64 (Gr.number (Gr.mk (nx (Gr.fx g)) (Gr.fr g) (nx (Gr.tx g)) (Gr.to g) (Gr.number g) (Gr.life g) (Gr.at' g) (Gr.total g) (Gr.report g) (Gr.more g) (Gr.may g) (Gr.wants g) (Gr.data g))), Value.int IntKind.i64 (Gr.life (Gr.mk (nx (Gr.fx g)) (Gr.fr g) (nx (Gr.tx g)) (Gr.to g) (Gr.number g) (Gr.life g) (Gr.at' g) (Gr.total g) (Gr.report g) (Gr.more g) (Gr.may g) (Gr.wants g) (Gr.data g))), Value.int IntKind.i64 (Gr.at' (Gr.mk (nx (Gr.fx g)) (Gr.fr g) (nx (Gr.tx g)) (Gr.to g) (Gr.number g) (Gr.life g) (Gr.at' g) (Gr.total g) (Gr.report g) (Gr.more g) (Gr.may g) (Gr.wants g) (Gr.data g))), Value.int IntKind.i64 (Gr.total (Gr.mk (nx (Gr.fx g)) (Gr.fr g) (nx (Gr.tx g)) (Gr.to g) (Gr.number g) (Gr.life g) (Gr.at' g) (Gr.total g) (Gr.report g) (Gr.more g) (Gr.may g) (Gr.wants g) (Gr.data g))), Value.int IntKind.i64 (Gr.report (Gr.mk (nx (Gr.fx g)) (Gr.fr g) (nx (Gr.tx g)) (Gr.to g) (Gr.number g) (Gr.life g) (Gr.at' g) (Gr.total g) (Gr.report g) (Gr.more g) (Gr.may g) (Gr.wants g) (Gr.data g))), Value.bool (Gr.more (Gr.mk (nx (Gr.fx g)) (Gr.fr g) (nx (Gr.tx g)) (Gr.to g) (Gr.number g) (Gr.life g) (Gr.at' g) (Gr.total g) (Gr.report g) (Gr.more g) (Gr.may g) (Gr.wants g) (Gr.data g))), Value.bool (Gr.may (Gr.mk (nx (Gr.fx g)) (Gr.fr g) (nx (Gr.tx g)) (Gr.to g) (Gr.number g) (Gr.life g) (Gr.at' g) (Gr.total g) (Gr.report g) (Gr.more g) (Gr.may g) (Gr.wants g) (Gr.data g))), Value.bool (Gr.wants (Gr.mk (nx (Gr.fx g)) (Gr.fr g) (nx (Gr.tx g)) (Gr.to g) (Gr.number g) (Gr.life g) (Gr.at' g) (Gr.total g) (Gr.report g) (Gr.more g) (Gr.may g) (Gr.wants g) (Gr.data g))), Value.string (Gr.data (Gr.mk (nx (Gr.fx g)) (Gr.fr g) (nx (Gr.tx g)) (Gr.to g) (Gr.number g) (Gr.life g) (Gr.at' g) (Gr.total g) (Gr.report g) (Gr.more g) (Gr.may g) (Gr.wants g) (Gr.data g)))]))) 2 (some (Blk.mk 24 true [Value.iface 3 (Value.iface (List.length (Gr.fr (Gr.mk (nx (Gr.fx g)) (Gr.fr g) (nx (Gr.tx g)) (Gr.to g) (Gr.number g) (Gr.life g) (Gr.at' g) (Gr.total g) (Gr.report g) (Gr.more g) (Gr.may g) (Gr.wants g) (Gr.data g)))) (Value.iface (Gr.fx (Gr.mk (nx (Gr.fx g)) (Gr.fr g) (nx (Gr.tx g)) (Gr.to g) (Gr.number g) (Gr.life g) (Gr.at' g) (Gr.total g) (Gr.report g) (Gr.more g) (Gr.may g) (Gr.wants g) (Gr.data g))) (Value.agg (List.toArray (List.map (fun n => Value.int IntKind.i64 n) (Gr.fr (Gr.mk (nx (Gr.fx g)) (Gr.fr g) (nx (Gr.tx g)) (Gr.to g) (Gr.number g) (Gr.life g) (Gr.at' g) (Gr.total g) (Gr.report g) (Gr.more g) (Gr.may g) (Gr.wants g) (Gr.data g)))))))), Value.iface 3 (Value.iface (List.length (Gr.to (Gr.mk (nx (Gr.fx g)) (Gr.fr g) (nx (Gr.tx g)) (Gr.to g) (Gr.number g) (Gr.life g) (Gr.at' g) (Gr.total g) (Gr.report g) (Gr.more g) (Gr.may g) (Gr.wants g) (Gr.data g)))) (Value.iface (Gr.tx (Gr.mk (nx (Gr.fx g)) (Gr.fr g) (nx (Gr.tx g)) (Gr.to g) (Gr.number g) (Gr.life g) (Gr.at' g) (Gr.total g) (Gr.report g) (Gr.more g) (Gr.may g) (Gr.wants g) (Gr.data g))) (Value.agg (List.toArray (List.map (fun n => Value.int IntKind.i64 n) (Gr.to (Gr.mk (nx (Gr.fx g)) (Gr.fr g) (nx (Gr.tx g)) (Gr.to g) (Gr.number g) (Gr.life g) (Gr.at' g) (Gr.total g) (Gr.report g) (Gr.more g) (Gr.may g) (Gr.wants g) (Gr.data g)))))))), Value.int IntKind.i64 (Gr.number (Gr.mk (nx (Gr.fx g)) (Gr.fr g) (nx (Gr.tx g)) (Gr.to g) (Gr.number g) (Gr.life g) (Gr.at' g) (Gr.total g) (Gr.report g) (Gr.more g) (Gr.may g) (Gr.wants g) (Gr.data g))), Value.int IntKind.i64 (Gr.life (Gr.mk (nx (Gr.fx g)) (Gr.fr g) (nx (Gr.tx g)) (Gr.to g) (Gr.number g) (Gr.life g) (Gr.at' g) (Gr.total g) (Gr.report g) (Gr.more g) (Gr.may g) (Gr.wants g) (Gr.data g))), Value.int IntKind.i64 (IntKind.wrap IntKind.i64 (Gr.at' g + (↑(k * s) : Int))), Value.int IntKind.i64 (Gr.total (Gr.mk (nx (Gr.fx g)) (Gr.fr g) (nx (Gr.tx g)) (Gr.to g) (Gr.number g) (Gr.life g) (Gr.at' g) (Gr.total g) (Gr.report g) (Gr.more g) (Gr.may g) (Gr.wants g) (Gr.data g))), Value.int IntKind.i64 (Gr.report (Gr.mk (nx (Gr.fx g)) (Gr.fr g) (nx (Gr.tx g)) (Gr.to g) (Gr.number g) (Gr.life g) (Gr.at' g) (Gr.total g) (Gr.report g) (Gr.more g) (Gr.may g) (Gr.wants g) (Gr.data g))), Value.bool (Gr.more (Gr.mk (nx (Gr.fx g)) (Gr.fr g) (nx (Gr.tx g)) (Gr.to g) (Gr.number g) (Gr.life g) (Gr.at' g) (Gr.total g) (Gr.report g) (Gr.more g) (Gr.may g) (Gr.wants g) (Gr.data g))), Value.bool (Gr.may (Gr.mk (nx (Gr.fx g)) (Gr.fr g) (nx (Gr.tx g)) (Gr.to g) (Gr.number g) (Gr.life g) (Gr.at' g) (Gr.total g) (Gr.report g) (Gr.more g) (Gr.may g) (Gr.wants g) (Gr.data g))), Value.bool (Gr.wants (Gr.mk (nx (Gr.fx g)) (Gr.fr g) (nx (Gr.tx g)) (Gr.to g) (Gr.number g) (Gr.life g) (Gr.at' g) (Gr.total g) (Gr.report g) (Gr.more g) (Gr.may g) (Gr.wants g) (Gr.data g))), Value.string (Gr.data (Gr.mk (nx (Gr.fx g)) (Gr.fr g) (nx (Gr.tx g)) (Gr.to g) (Gr.number g) (Gr.life g) (Gr.at' g) (Gr.total g) (Gr.report g) (Gr.more g) (Gr.may g) (Gr.wants g) (Gr.data g)))]))) 2 (some (Blk.mk 24 true [Value.iface 3 (Value.iface (List.length (Gr.fr (Gr.mk (nx (Gr.fx g)) (Gr.fr g) (nx (Gr.tx g)) (Gr.to g) (Gr.number g) (Gr.life g) (Gr.at' g) (Gr.total g) (Gr.report g) (Gr.more g) (Gr.may g) (Gr.wants g) (Gr.data g)))) (Value.iface (Gr.fx (Gr.mk (nx (Gr.fx g)) (Gr.fr g) (nx (Gr.tx g)) (Gr.to g) (Gr.number g) (Gr.life g) (Gr.at' g) (Gr.total g) (Gr.report g) (Gr.more g) (Gr.may g) (Gr.wants g) (Gr.data g))) (Value.agg (List.toArray (List.map (fun n => Value.int IntKind.i64 n) (Gr.fr (Gr.mk (nx (Gr.fx g)) (Gr.fr g) (nx (Gr.tx g)) (Gr.to g) (Gr.number g) (Gr.life g) (Gr.at' g) (Gr.total g) (Gr.report g) (Gr.more g) (Gr.may g) (Gr.wants g) (Gr.data g)))))))), Value.iface 3 (Value.iface (List.length (Gr.to (Gr.mk (nx (Gr.fx g)) (Gr.fr g) (nx (Gr.tx g)) (Gr.to g) (Gr.number g) (Gr.life g) (Gr.at' g) (Gr.total g) (Gr.report g) (Gr.more g) (Gr.may g) (Gr.wants g) (Gr.data g)))) (Value.iface (Gr.tx (Gr.mk (nx (Gr.fx g)) (Gr.fr g) (nx (Gr.tx g)) (Gr.to g) (Gr.number g) (Gr.life g) (Gr.at' g) (Gr.total g) (Gr.report g) (Gr.more g) (Gr.may g) (Gr.wants g) (Gr.data g))) (Value.agg (List.toArray (List.map (fun n => Value.int IntKind.i64 n) (Gr.to (Gr.mk (nx (Gr.fx g)) (Gr.fr g) (nx (Gr.tx g)) (Gr.to g) (Gr.number g) (Gr.life g) (Gr.at' g) (Gr.total g) (Gr.report g) (Gr.more g) (Gr.may g) (Gr.wants g) (Gr.data g)))))))), Value.int IntKind.i64 (Gr.number (Gr.mk (nx (Gr.fx g)) (Gr.fr g) (nx (Gr.tx g)) (Gr.to g) (Gr.number g) (Gr.life g) (Gr.at' g) (Gr.total g) (Gr.report g) (Gr.more g) (Gr.may g) (Gr.wants g) (Gr.data g))), Value.int IntKind.i64 (Gr.life (Gr.mk (nx (Gr.fx g)) (Gr.fr g) (nx (Gr.tx g)) (Gr.to g) (Gr.number g) (Gr.life g) (Gr.at' g) (Gr.total g) (Gr.report g) (Gr.more g) (Gr.may g) (Gr.wants g) (Gr.data g))), Value.int IntKind.i64 (IntKind.wrap IntKind.i64 (Gr.at' g + (↑(k * s) : Int))), Value.int IntKind.i64 (Gr.total (Gr.mk (nx (Gr.fx g)) (Gr.fr g) (nx (Gr.tx g)) (Gr.to g) (Gr.number g) (Gr.life g) (Gr.at' g) (Gr.total g) (Gr.report g) (Gr.more g) (Gr.may g) (Gr.wants g) (Gr.data g))), Value.int IntKind.i64 (Gr.report (Gr.mk (nx (Gr.fx g)) (Gr.fr g) (nx (Gr.tx g)) (Gr.to g) (Gr.number g) (Gr.life g) (Gr.at' g) (Gr.total g) (Gr.report g) (Gr.more g) (Gr.may g) (Gr.wants g) (Gr.data g))), Value.bool (Gr.more (Gr.mk (nx (Gr.fx g)) (Gr.fr g) (nx (Gr.tx g)) (Gr.to g) (Gr.number g) (Gr.life g) (Gr.at' g) (Gr.total g) (Gr.report g) (Gr.more g) (Gr.may g) (Gr.wants g) (Gr.data g))), Value.bool (Gr.may (Gr.mk (nx (Gr.fx g)) (Gr.fr g) (nx (Gr.tx g)) (Gr.to g) (Gr.number g) (Gr.life g) (Gr.at' g) (Gr.total g) (Gr.report g) (Gr.more g) (Gr.may g) (Gr.wants g) (Gr.data g))), Value.bool (Gr.wants (Gr.mk (nx (Gr.fx g)) (Gr.fr g) (nx (Gr.tx g)) (Gr.to g) (Gr.number g) (Gr.life g) (Gr.at' g) (Gr.total g) (Gr.report g) (Gr.more g) (Gr.may g) (Gr.wants g) (Gr.data g))), Value.string (ByteArray.extract (Gr.data g) (Int.toNat (↑(k * s) : Int)) (Int.toNat (if (↑(ByteArray.size (Gr.data g)) : Int) < IntKind.wrap IntKind.i64 ((↑(k * s) : Int) + (↑s : Int)) then (↑(ByteArray.size (Gr.data g)) : Int) else IntKind.wrap IntKind.i64 ((↑(k * s) : Int) + (↑s : Int)))))]))) 2 (some (Blk.mk 24 true [Value.iface 3 (Value.iface (List.length (Gr.fr (Gr.mk (nx (Gr.fx g)) (Gr.fr g) (nx (Gr.tx g)) (Gr.to g) (Gr.number g) (Gr.life g) (Gr.at' g) (Gr.total g) (Gr.report g) (Gr.more g) (Gr.may g) (Gr.wants g) (Gr.data g)))) (Value.iface (Gr.fx (Gr.mk (nx (Gr.fx g)) (Gr.fr g) (nx (Gr.tx g)) (Gr.to g) (Gr.number g) (Gr.life g) (Gr.at' g) (Gr.total g) (Gr.report g) (Gr.more g) (Gr.may g) (Gr.wants g) (Gr.data g))) (Value.agg (List.toArray (List.map (fun n => Value.int IntKind.i64 n) (Gr.fr (Gr.mk (nx (Gr.fx g)) (Gr.fr g) (nx (Gr.tx g)) (Gr.to g) (Gr.number g) (Gr.life g) (Gr.at' g) (Gr.total g) (Gr.report g) (Gr.more g) (Gr.may g) (Gr.wants g) (Gr.data g)))))))), Value.iface 3 (Value.iface (List.length (Gr.to (Gr.mk (nx (Gr.fx g)) (Gr.fr g) (nx (Gr.tx g)) (Gr.to g) (Gr.number g) (Gr.life g) (Gr.at' g) (Gr.total g) (Gr.report g) (Gr.more g) (Gr.may g) (Gr.wants g) (Gr.data g)))) (Value.iface (Gr.tx (Gr.mk (nx (Gr.fx g)) (Gr.fr g) (nx (Gr.tx g)) (Gr.to g) (Gr.number g) (Gr.life g) (Gr.at' g) (Gr.total g) (Gr.report g) (Gr.more g) (Gr.may g) (Gr.wants g) (Gr.data g))) (Value.agg (List.toArray (List.map (fun n => Value.int IntKind.i64 n) (Gr.to (Gr.mk (nx (Gr.fx g)) (Gr.fr g) (nx (Gr.tx g)) (Gr.to g) (Gr.number g) (Gr.life g) (Gr.at' g) (Gr.total g) (Gr.report g) (Gr.more g) (Gr.may g) (Gr.wants g) (Gr.data g)))))))), Value.int IntKind.i64 (Gr.number (Gr.mk (nx (Gr.fx g)) (Gr.fr g) (nx (Gr.tx g)) (Gr.to g) (Gr.number g) (Gr.life g) (Gr.at' g) (Gr.total g) (Gr.report g) (Gr.more g) (Gr.may g) (Gr.wants g) (Gr.data g))), Value.int IntKind.i64 (Gr.life (Gr.mk (nx (Gr.fx g)) (Gr.fr g) (nx (Gr.tx g)) (Gr.to g) (Gr.number g) (Gr.life g) (Gr.at' g) (Gr.total g) (Gr.report g) (Gr.more g) (Gr.may g) (Gr.wants g) (Gr.data g))), Value.int IntKind.i64 (IntKind.wrap IntKind.i64 (Gr.at' g + (↑(k * s) : Int))), Value.int IntKind.i64 (Gr.total (Gr.mk (nx (Gr.fx g)) (Gr.fr g) (nx (Gr.tx g)) (Gr.to g) (Gr.number g) (Gr.life g) (Gr.at' g) (Gr.total g) (Gr.report g) (Gr.more g) (Gr.may g) (Gr.wants g) (Gr.data g))), Value.int IntKind.i64 (Gr.report (Gr.mk (nx (Gr.fx g)) (Gr.fr g) (nx (Gr.tx g)) (Gr.to g) (Gr.number g) (Gr.life g) (Gr.at' g) (Gr.total g) (Gr.report g) (Gr.more g) (Gr.may g) (Gr.wants g) (Gr.data g))), Value.bool (decide (IntKind.wrap IntKind.i64 (IntKind.wrap IntKind.i64 (Gr.at' g + (↑(k * s) : Int)) + (↑(ByteArray.size (ByteArray.extract (Gr.data g) (Int.toNat (↑(k * s) : Int)) (Int.toNat (if (↑(ByteArray.size (Gr.data g)) : Int) < IntKind.wrap IntKind.i64 ((↑(k * s) : Int) + (↑s : Int)) then (↑(ByteArray.size (Gr.data g)) : Int) else IntKind.wrap IntKind.i64 ((↑(k * s) : Int) + (↑s : Int)))))) : Int)) < Gr.total (Gr.mk (nx (Gr.fx g)) (Gr.fr g) (nx (Gr.tx g)) (Gr.to g) (Gr.number g) (Gr.life g) (Gr.at' g) (Gr.total g) (Gr.report g) (Gr.more g) (Gr.may g) (Gr.wants g) (Gr.data g)))), Value.bool (Gr.may (Gr.mk (nx (Gr.fx g)) (Gr.fr g) (nx (Gr.tx g)) (Gr.to g) (Gr.number g) (Gr.life g) (Gr.at' g) (Gr.total g) (Gr.report g) (Gr.more g) (Gr.may g) (Gr.wants g) (Gr.data g))), Value.bool (Gr.wants (Gr.mk (nx (Gr.fx g)) (Gr.fr g) (nx (Gr.tx g)) (Gr.to g) (Gr.number g) (Gr.life g) (Gr.at' g) (Gr.total g) (Gr.report g) (Gr.more g) (Gr.may g) (Gr.wants g) (Gr.data g))), Value.string (ByteArray.extract (Gr.data g) (Int.toNat (↑(k * s) : Int)) (Int.toNat (if (↑(ByteArray.size (Gr.data g)) : Int) < IntKind.wrap IntKind.i64 ((↑(k * s) : Int) + (↑s : Int)) then (↑(ByteArray.size (Gr.data g)) : Int) else IntKind.wrap IntKind.i64 ((↑(k * s) : Int) + (↑s : Int)))))]))) (Blk.mk 24 true [Value.iface 3 (Value.iface (List.length (Gr.fr (Gr.mk (nx (Gr.fx g)) (Gr.fr g) (nx (Gr.tx g)) (Gr.to g) (Gr.number g) (Gr.life g) (Gr.at' g) (Gr.total g) (Gr.report g) (Gr.more g) (Gr.may g) (Gr.wants g) (Gr.data g)))) (Value.iface (Gr.fx (Gr.mk (nx (Gr.fx g)) (Gr.fr g) (nx (Gr.tx g)) (Gr.to g) (Gr.number g) (Gr.life g) (Gr.at' g) (Gr.total g) (Gr.report g) (Gr.more g) (Gr.may g) (Gr.wants g) (Gr.data g))) (Value.agg (List.toArray (List.map (fun n => Value.int IntKind.i64 n) (Gr.fr (Gr.mk (nx (Gr.fx g)) (Gr.fr g) (nx (Gr.tx g)) (Gr.to g) (Gr.number g) (Gr.life g) (Gr.at' g) (Gr.total g) (Gr.report g) (Gr.more g) (Gr.may g) (Gr.wants g) (Gr.data g)))))))), Value.iface 3 (Value.iface (List.length (Gr.to (Gr.mk (nx (Gr.fx g)) (Gr.fr g) (nx (Gr.tx g)) (Gr.to g) (Gr.number g) (Gr.life g) (Gr.at' g) (Gr.total g) (Gr.report g) (Gr.more g) (Gr.may g) (Gr.wants g) (Gr.data g)))) (Value.iface (Gr.tx (Gr.mk (nx (Gr.fx g)) (Gr.fr g) (nx (Gr.tx g)) (Gr.to g) (Gr.number g) (Gr.life g) (Gr.at' g) (Gr.total g) (Gr.report g) (Gr.more g) (Gr.may g) (Gr.wants g) (Gr.data g))) (Value.agg (List.toArray (List.map (fun n => Value.int IntKind.i64 n) (Gr.to (Gr.mk (nx (Gr.fx g)) (Gr.fr g) (nx (Gr.tx g)) (Gr.to g) (Gr.number g) (Gr.life g) (Gr.at' g) (Gr.total g) (Gr.report g) (Gr.more g) (Gr.may g) (Gr.wants g) (Gr.data g)))))))), Value.int IntKind.i64 (Gr.number (Gr.mk (nx (Gr.fx g)) (Gr.fr g) (nx (Gr.tx g)) (Gr.to g) (Gr.number g) (Gr.life g) (Gr.at' g) (Gr.total g) (Gr.report g) (Gr.more g) (Gr.may g) (Gr.wants g) (Gr.data g))), Value.int IntKind.i64 (Gr.life (Gr.mk (nx (Gr.fx g)) (Gr.fr g) (nx (Gr.tx g)) (Gr.to g) (Gr.number g) (Gr.life g) (Gr.at' g) (Gr.total g) (Gr.report g) (Gr.more g) (Gr.may g) (Gr.wants g) (Gr.data g))), Value.int IntKind.i64 (IntKind.wrap IntKind.i64 (Gr.at' g + (↑(k * s) : Int))), Value.int IntKind.i64 (Gr.total (Gr.mk (nx (Gr.fx g)) (Gr.fr g) (nx (Gr.tx g)) (Gr.to g) (Gr.number g) (Gr.life g) (Gr.at' g) (Gr.total g) (Gr.report g) (Gr.more g) (Gr.may g) (Gr.wants g) (Gr.data g))), Value.int IntKind.i64 (Gr.report (Gr.mk (nx (Gr.fx g)) (Gr.fr g) (nx (Gr.tx g)) (Gr.to g) (Gr.number g) (Gr.life g) (Gr.at' g) (Gr.total g) (Gr.report g) (Gr.more g) (Gr.may g) (Gr.wants g) (Gr.data g))), Value.bool (decide (IntKind.wrap IntKind.i64 (IntKind.wrap IntKind.i64 (Gr.at' g + (↑(k * s) : Int)) + (↑(ByteArray.size (ByteArray.extract (Gr.data g) (Int.toNat (↑(k * s) : Int)) (Int.toNat (if (↑(ByteArray.size (Gr.data g)) : Int) < IntKind.wrap IntKind.i64 ((↑(k * s) : Int) + (↑s : Int)) then (↑(ByteArray.size (Gr.data g)) : Int) else IntKind.wrap IntKind.i64 ((↑(k * s) : Int) + (↑s : Int)))))) : Int)) < Gr.total (Gr.mk (nx (Gr.fx g)) (Gr.fr g) (nx (Gr.tx g)) (Gr.to g) (Gr.number g) (Gr.life g) (Gr.at' g) (Gr.total g) (Gr.report g) (Gr.more g) (Gr.may g) (Gr.wants g) (Gr.data g)))), Value.bool (Gr.may (Gr.mk (nx (Gr.fx g)) (Gr.fr g) (nx (Gr.tx g)) (Gr.to g) (Gr.number g) (Gr.life g) (Gr.at' g) (Gr.total g) (Gr.report g) (Gr.more g) (Gr.may g) (Gr.wants g) (Gr.data g))), Value.bool (Gr.wants (Gr.mk (nx (Gr.fx g)) (Gr.fr g) (nx (Gr.tx g)) (Gr.to g) (Gr.number g) (Gr.life g) (Gr.at' g) (Gr.total g) (Gr.report g) (Gr.more g) (Gr.may g) (Gr.wants g) (Gr.data g))), Value.string (ByteArray.extract (Gr.data g) (Int.toNat (↑(k * s) : Int)) (Int.toNat (if (↑(ByteArray.size (Gr.data g)) : Int) < IntKind.wrap IntKind.i64 ((↑(k * s) : Int) + (↑s : Int)) then (↑(ByteArray.size (Gr.data g)) : Int) else IntKind.wrap IntKind.i64 ((↑(k * s) : Int) + (↑s : Int)))))])) 1 none) (Blk.mk 24 true (cellsG (pcs g s k) ++ [Value.iface 3 (Value.iface (List.length (Gr.fr (Gr.mk (nx (Gr.fx g)) (Gr.fr g) (nx (Gr.tx g)) (Gr.to g) (Gr.number g) (Gr.life g) (Gr.at' g) (Gr.total g) (Gr.report g) (Gr.more g) (Gr.may g) (Gr.wants g) (Gr.data g)))) (Value.iface (Gr.fx (Gr.mk (nx (Gr.fx g)) (Gr.fr g) (nx (Gr.tx g)) (Gr.to g) (Gr.number g) (Gr.life g) (Gr.at' g) (Gr.total g) (Gr.report g) (Gr.more g) (Gr.may g) (Gr.wants g) (Gr.data g))) (Value.agg (List.toArray (List.map (fun n => Value.int IntKind.i64 n) (Gr.fr (Gr.mk (nx (Gr.fx g)) (Gr.fr g) (nx (Gr.tx g)) (Gr.to g) (Gr.number g) (Gr.life g) (Gr.at' g) (Gr.total g) (Gr.report g) (Gr.more g) (Gr.may g) (Gr.wants g) (Gr.data g)))))))), Value.iface 3 (Value.iface (List.length (Gr.to (Gr.mk (nx (Gr.fx g)) (Gr.fr g) (nx (Gr.tx g)) (Gr.to g) (Gr.number g) (Gr.life g) (Gr.at' g) (Gr.total g) (Gr.report g) (Gr.more g) (Gr.may g) (Gr.wants g) (Gr.data g)))) (Value.iface (Gr.tx (Gr.mk (nx (Gr.fx g)) (Gr.fr g) (nx (Gr.tx g)) (Gr.to g) (Gr.number g) (Gr.life g) (Gr.at' g) (Gr.total g) (Gr.report g) (Gr.more g) (Gr.may g) (Gr.wants g) (Gr.data g))) (Value.agg (List.toArray (List.map (fun n => Value.int IntKind.i64 n) (Gr.to (Gr.mk (nx (Gr.fx g)) (Gr.fr g) (nx (Gr.tx g)) (Gr.to g) (Gr.number g) (Gr.life g) (Gr.at' g) (Gr.total g) (Gr.report g) (Gr.more g) (Gr.may g) (Gr.wants g) (Gr.data g)))))))), Value.int IntKind.i64 (Gr.number (Gr.mk (nx (Gr.fx g)) (Gr.fr g) (nx (Gr.tx g)) (Gr.to g) (Gr.number g) (Gr.life g) (Gr.at' g) (Gr.total g) (Gr.report g) (Gr.more g) (Gr.may g) (Gr.wants g) (Gr.data g))), Value.int IntKind.i64 (Gr.life (Gr.mk (nx (Gr.fx g)) (Gr.fr g) (nx (Gr.tx g)) (Gr.to g) (Gr.number g) (Gr.life g) (Gr.at' g) (Gr.total g) (Gr.report g) (Gr.more g) (Gr.may g) (Gr.wants g) (Gr.data g))), Value.int IntKind.i64 (IntKind.wrap IntKind.i64 (Gr.at' g + (↑(k * s) : Int))), Value.int IntKind.i64 (Gr.total (Gr.mk (nx (Gr.fx g)) (Gr.fr g) (nx (Gr.tx g)) (Gr.to g) (Gr.number g) (Gr.life g) (Gr.at' g) (Gr.total g) (Gr.report g) (Gr.more g) (Gr.may g) (Gr.wants g) (Gr.data g))), Value.int IntKind.i64 (Gr.report (Gr.mk (nx (Gr.fx g)) (Gr.fr g) (nx (Gr.tx g)) (Gr.to g) (Gr.number g) (Gr.life g) (Gr.at' g) (Gr.total g) (Gr.report g) (Gr.more g) (Gr.may g) (Gr.wants g) (Gr.data g))), Value.bool (decide (IntKind.wrap IntKind.i64 (IntKind.wrap IntKind.i64 (Gr.at' g + (↑(k * s) : Int)) + (↑(ByteArray.size (ByteArray.extract (Gr.data g) (Int.toNat (↑(k * s) : Int)) (Int.toNat (if (↑(ByteArray.size (Gr.data g)) : Int) < IntKind.wrap IntKind.i64 ((↑(k * s) : Int) + (↑s : Int)) then (↑(ByteArray.size (Gr.data g)) : Int) else IntKind.wrap IntKind.i64 ((↑(k * s) : Int) + (↑s : Int)))))) : Int)) < Gr.total (Gr.mk (nx (Gr.fx g)) (Gr.fr g) (nx (Gr.tx g)) (Gr.to g) (Gr.number g) (Gr.life g) (Gr.at' g) (Gr.total g) (Gr.report g) (Gr.more g) (Gr.may g) (Gr.wants g) (Gr.data g)))), Value.bool (Gr.may (Gr.mk (nx (Gr.fx g)) (Gr.fr g) (nx (Gr.tx g)) (Gr.to g) (Gr.number g) (Gr.life g) (Gr.at' g) (Gr.total g) (Gr.report g) (Gr.more g) (Gr.may g) (Gr.wants g) (Gr.data g))), Value.bool (Gr.wants (Gr.mk (nx (Gr.fx g)) (Gr.fr g) (nx (Gr.tx g)) (Gr.to g) (Gr.number g) (Gr.life g) (Gr.at' g) (Gr.total g) (Gr.report g) (Gr.more g) (Gr.may g) (Gr.wants g) (Gr.data g))), Value.string (ByteArray.extract (Gr.data g) (Int.toNat (↑(k * s) : Int)) (Int.toNat (if (↑(ByteArray.size (Gr.data g)) : Int) < IntKind.wrap IntKind.i64 ((↑(k * s) : Int) + (↑s : Int)) then (↑(ByteArray.size (Gr.data g)) : Int) else IntKind.wrap IntKind.i64 ((↑(k * s) : Int) + (↑s : Int)))))]))) (by kernel_rfl) (by kernel_rfl) (by kernel_rfl) ?_ (fun cf => o_append (e := 24) 1 (0) (k) _ (k) a1 a2 a3 (by kernel_rfl) (by kernel_rfl) (by kernel_rfl) (by kernel_rfl))
    refine WpOps.keep 6 (Value.slice (some (Addr.mk 4 0 none)) (k + 1) (k + 1)) (by kernel_rfl) (by kernel_rfl) (by kernel_rfl) ?_ (fun cf => (by kernel_rfl))
    refine WpOps.nil ?_
    refine blockK_norm ?_
    refine thenK_at ?_
    refine Wp.text ?_
    refine WpOps.keep 32 (Value.int IntKind.i64 (↑(k * s) : Int)) (by kernel_rfl) (by kernel_rfl) (by kernel_rfl) ?_ (fun cf => (by kernel_rfl))
    refine WpOps.keep 33 (Value.int IntKind.i64 (↑s : Int)) (by kernel_rfl) (by kernel_rfl) (by kernel_rfl) ?_ (fun cf => (by kernel_rfl))
    refine WpOps.keep 34 (Value.int IntKind.i64 (IntKind.wrap IntKind.i64 ((↑(k * s) : Int) + (↑s : Int)))) (by kernel_rfl) (by kernel_rfl) (by kernel_rfl) ?_ (fun cf => (by kernel_rfl))
    refine WpOps.keep 7 (Value.int IntKind.i64 (IntKind.wrap IntKind.i64 ((↑(k * s) : Int) + (↑s : Int)))) (by kernel_rfl) (by kernel_rfl) (by kernel_rfl) ?_ (fun cf => (by kernel_rfl))
    refine WpOps.nil ?_
    refine thenK_at ?_
    have hk3 : (k + 1) * s = k * s + s := by rw [Nat.add_mul, Nat.one_mul]
    refine ⟨k + 1, by omega, ⟨by omega, by rw [Nat.add_sub_cancel]; exact hk0⟩, View.of [0, 4] [⟨24, true, gc g⟩, ⟨24, true, cellsG (pcs g s (k + 1))⟩] _ (by decide) rfl ⟨⟨gc g, by kernel_rfl, CellsOk.eq rfl (gc_flat g)⟩, ⟨cellsG (pcs g s k) ++ gc (piece g s k), by kernel_rfl, CellsOk.eq (cellsG_succ g s k).symm (cellsG_flat _)⟩, trivial⟩
      ⟨⟨by kernel_rfl, rfl⟩, ⟨by kernel_rfl, rfl⟩, ⟨by kernel_rfl, rfl⟩, ⟨congrArg (Value.int .i64) (by rw [wr _ (by omega) (by omega)]; omega), rfl⟩, trivial⟩⟩
  · refine Wp.exit ?_
    refine thenK_exit ?_
    refine thenK_exit ?_
    refine blockK_hit ?_
    refine thenK_at ?_
    refine Wp.seq ?_
    refine Wp.text ?_
    refine WpOps.keep 68 (Value.slice (some (Addr.mk 1 0 none)) k k) (by kernel_rfl) (by kernel_rfl) (by kernel_rfl) ?_ (fun cf => (by kernel_rfl))
    refine WpOps.keep 4 (Value.slice (some (Addr.mk 1 0 none)) k k) (by kernel_rfl) (by kernel_rfl) (by kernel_rfl) ?_ (fun cf => (by kernel_rfl))
    refine WpOps.keep 5 (Value.bool true) (by kernel_rfl) (by kernel_rfl) (by kernel_rfl) ?_ (fun cf => (by kernel_rfl))
    refine WpOps.nil ?_
    refine thenK_at ?_
    refine Wp.ret ?_
    refine endK_retn [Value.slice (some (Addr.mk 1 0 none)) k k, Value.bool true] (Value.tuple #[Value.slice (some (Addr.mk 1 0 none)) k k, Value.bool true]) (by kernel_rfl) (by kernel_rfl) ?_
    have hk0 : ¬ (k * s < g.data.size) := by have := of_decide_eq_false hc; omega
    have hm : k = many g s := by
      have hk3 : (k + 1) * s = k * s + s := by rw [Nat.add_mul, Nat.one_mul]
      exact (Nat.div_eq_of_lt_le (by omega) (by omega)).symm
    have hr := iceC_row (E := E) (hp := heapOf [⟨24, true, gc g⟩, ⟨24, true, cellsG (pcs g s k)⟩]) (b := 1) (n := k) (c := k) 3 types24 rfl (by rw [cellsG_len, pcs_len]) (cellsG_flat _)
    rw [← hm]
    exact ice_pair hr rfl
/-- The size of pieces, the pieces; none: it cannot be cut. -/
def s8 (size : Int) : Nat := (IntKind.i64.wrap (IntKind.i64.wrap (size.tdiv 8) * 8)).toNat
def cutL (g : Gr) (size : Int) : Option (List Gr) :=
  if (g.data.size : Int) ≤ size then some [ownG g] else if g.may = true ∧ s8 size ≠ 0 then some (pcs g (s8 size) (many g (s8 size))) else none
def grams (e : TypeId) (l : List Gr) : Value := FS e l.length 0 (cellsG l).toArray
def cutV (e : TypeId) : Option (List Gr) → Value
  | some l => .tuple #[grams e l, .bool true]
  | none => .tuple #[.slice none 0 0, .bool false]
theorem s8_eq (size : Int) (h1 : 1 ≤ size) (h2 : size ≤ 4000) : IntKind.i64.wrap (IntKind.i64.wrap (size.tdiv 8) * 8) = (s8 size : Int) ∧ s8 size ≤ 4000 := by
  have e1 : size.tdiv 8 = size / 8 := Int.tdiv_eq_ediv_of_nonneg (by omega)
  have e2 : IntKind.i64.wrap (size.tdiv 8) = size / 8 := by rw [e1, wr] <;> omega
  have e3 : IntKind.i64.wrap (IntKind.i64.wrap (size.tdiv 8) * 8) = size / 8 * 8 := by rw [e2, wr] <;> omega
  simp only [s8, e3]
  omega

theorem cut45 (g : Gr) (ok : OkGr g) (size : Int) (h1 : 1 ≤ size) (h2 : size ≤ 4000) (hd : g.data.size ≤ 4000) : Fun E 45 [gv g, .int .i64 size] (cutV 24 (cutL g size)) := by
  obtain ⟨hs, hs2⟩ := s8_eq size h1 h2
  have c := own64 g ok
  cases hlen : decide ((g.data.size : Int) ≤ size) with
  | true =>
    simp only [cutL, if_pos (of_decide_eq_true hlen)]
    refine Fun.of f45 rfl (of_decide_eq_true (by kernel_rfl)) (by kernel_rfl) ?_
    refine Wp.seq ?_
    refine Wp.text ?_
    refine WpOps.made 2 (Value.pointer (some (Addr.mk 0 0 none))) (Blk.mk 24 true [Value.iface 3 (Value.iface (List.length (Gr.fr g)) (Value.iface (Gr.fx g) (Value.agg (List.toArray (List.map (fun n => Value.int IntKind.i64 n) (Gr.fr g)))))), Value.iface 3 (Value.iface (List.length (Gr.to g)) (Value.iface (Gr.tx g) (Value.agg (List.toArray (List.map (fun n => Value.int IntKind.i64 n) (Gr.to g)))))), Value.int IntKind.i64 (Gr.number g), Value.int IntKind.i64 (Gr.life g), Value.int IntKind.i64 (Gr.at' g), Value.int IntKind.i64 (Gr.total g), Value.int IntKind.i64 (Gr.report g), Value.bool (Gr.more g), Value.bool (Gr.may g), Value.bool (Gr.wants g), Value.string (Gr.data g)]) (by kernel_rfl) (by kernel_rfl) (by kernel_rfl) ?_ (fun cf => (by kernel_rfl))
    refine WpOps.keep 4 (Value.slice none 0 0) (by kernel_rfl) (by kernel_rfl) (by kernel_rfl) ?_ (fun cf => (by kernel_rfl))
    refine WpOps.keep 5 (Value.bool false) (by kernel_rfl) (by kernel_rfl) (by kernel_rfl) ?_ (fun cf => (by kernel_rfl))
    refine WpOps.nil ?_
    refine thenK_at ?_
    refine Wp.seq ?_
    refine Wp.seq ?_
    refine Wp.text ?_
    refine WpOps.keep 9 (Value.pointer (some (Addr.mk 0 10 none))) (by kernel_rfl) (by kernel_rfl) (by kernel_rfl) ?_ (fun cf => (by kernel_rfl))
    refine WpOps.keep 10 (Value.string (Gr.data g)) (by kernel_rfl) (by kernel_rfl) (by kernel_rfl) ?_ (fun cf => (by kernel_rfl))
    refine WpOps.keep 11 (Value.int IntKind.i64 (↑(ByteArray.size (Gr.data g)) : Int)) (by kernel_rfl) (by kernel_rfl) (by kernel_rfl) ?_ (fun cf => (by kernel_rfl))
    refine WpOps.keep 12 (Value.int IntKind.i64 size) (by kernel_rfl) (by kernel_rfl) (by kernel_rfl) ?_ (fun cf => (by kernel_rfl))
    refine WpOps.keep 13 (Value.bool true) (by kernel_rfl) (by kernel_rfl) (by kernel_rfl) ?_ (fun cf => by_fact hlen ((by kernel_rfl)))
    refine WpOps.nil ?_
    refine thenK_at ?_
    refine Wp.on (by kernel_rfl) ?_
    refine Wp.seq ?_
    refine Wp.text ?_
    refine WpOps.keep 14 (Value.agg #[Value.iface 3 (Value.iface (List.length (Gr.fr g)) (Value.iface (Gr.fx g) (Value.agg (List.toArray (List.map (fun n => Value.int IntKind.i64 n) (Gr.fr g)))))), Value.iface 3 (Value.iface (List.length (Gr.to g)) (Value.iface (Gr.tx g) (Value.agg (List.toArray (List.map (fun n => Value.int IntKind.i64 n) (Gr.to g)))))), Value.int IntKind.i64 (Gr.number g), Value.int IntKind.i64 (Gr.life g), Value.int IntKind.i64 (Gr.at' g), Value.int IntKind.i64 (Gr.total g), Value.int IntKind.i64 (Gr.report g), Value.bool (Gr.more g), Value.bool (Gr.may g), Value.bool (Gr.wants g), Value.string (Gr.data g)]) (by kernel_rfl) (by kernel_rfl) (by kernel_rfl) ?_ (fun cf => (by kernel_rfl))
    refine WpOps.framed 15 64 [Value.agg #[Value.iface 3 (Value.iface (List.length (Gr.fr g)) (Value.iface (Gr.fx g) (Value.agg (List.toArray (List.map (fun n => Value.int IntKind.i64 n) (Gr.fr g)))))), Value.iface 3 (Value.iface (List.length (Gr.to g)) (Value.iface (Gr.tx g) (Value.agg (List.toArray (List.map (fun n => Value.int IntKind.i64 n) (Gr.to g)))))), Value.int IntKind.i64 (Gr.number g), Value.int IntKind.i64 (Gr.life g), Value.int IntKind.i64 (Gr.at' g), Value.int IntKind.i64 (Gr.total g), Value.int IntKind.i64 (Gr.report g), Value.bool (Gr.more g), Value.bool (Gr.may g), Value.bool (Gr.wants g), Value.string (Gr.data g)]] (by kernel_rfl) (by kernel_rfl) (by kernel_rfl) (by kernel_rfl) (by kernel_rfl) (fun cf => (by kernel_rfl)) ?_
    refine WpFun.of (c) ?_
    refine WpOps.made 16 (Value.slice (some (Addr.mk 1 0 none)) 1 1) (Blk.mk 24 true [Value.iface 3 (Value.iface (List.length (Gr.fr (Gr.mk (nx (Gr.fx g)) (Gr.fr g) (nx (Gr.tx g)) (Gr.to g) (Gr.number g) (Gr.life g) (Gr.at' g) (Gr.total g) (Gr.report g) (Gr.more g) (Gr.may g) (Gr.wants g) (Gr.data g)))) (Value.iface (Gr.fx (Gr.mk (nx (Gr.fx g)) (Gr.fr g) (nx (Gr.tx g)) (Gr.to g) (Gr.number g) (Gr.life g) (Gr.at' g) (Gr.total g) (Gr.report g) (Gr.more g) (Gr.may g) (Gr.wants g) (Gr.data g))) (Value.agg (List.toArray (List.map (fun n => Value.int IntKind.i64 n) (Gr.fr (Gr.mk (nx (Gr.fx g)) (Gr.fr g) (nx (Gr.tx g)) (Gr.to g) (Gr.number g) (Gr.life g) (Gr.at' g) (Gr.total g) (Gr.report g) (Gr.more g) (Gr.may g) (Gr.wants g) (Gr.data g)))))))), Value.iface 3 (Value.iface (List.length (Gr.to (Gr.mk (nx (Gr.fx g)) (Gr.fr g) (nx (Gr.tx g)) (Gr.to g) (Gr.number g) (Gr.life g) (Gr.at' g) (Gr.total g) (Gr.report g) (Gr.more g) (Gr.may g) (Gr.wants g) (Gr.data g)))) (Value.iface (Gr.tx (Gr.mk (nx (Gr.fx g)) (Gr.fr g) (nx (Gr.tx g)) (Gr.to g) (Gr.number g) (Gr.life g) (Gr.at' g) (Gr.total g) (Gr.report g) (Gr.more g) (Gr.may g) (Gr.wants g) (Gr.data g))) (Value.agg (List.toArray (List.map (fun n => Value.int IntKind.i64 n) (Gr.to (Gr.mk (nx (Gr.fx g)) (Gr.fr g) (nx (Gr.tx g)) (Gr.to g) (Gr.number g) (Gr.life g) (Gr.at' g) (Gr.total g) (Gr.report g) (Gr.more g) (Gr.may g) (Gr.wants g) (Gr.data g)))))))), Value.int IntKind.i64 (Gr.number (Gr.mk (nx (Gr.fx g)) (Gr.fr g) (nx (Gr.tx g)) (Gr.to g) (Gr.number g) (Gr.life g) (Gr.at' g) (Gr.total g) (Gr.report g) (Gr.more g) (Gr.may g) (Gr.wants g) (Gr.data g))), Value.int IntKind.i64 (Gr.life (Gr.mk (nx (Gr.fx g)) (Gr.fr g) (nx (Gr.tx g)) (Gr.to g) (Gr.number g) (Gr.life g) (Gr.at' g) (Gr.total g) (Gr.report g) (Gr.more g) (Gr.may g) (Gr.wants g) (Gr.data g))), Value.int IntKind.i64 (Gr.at' (Gr.mk (nx (Gr.fx g)) (Gr.fr g) (nx (Gr.tx g)) (Gr.to g) (Gr.number g) (Gr.life g) (Gr.at' g) (Gr.total g) (Gr.report g) (Gr.more g) (Gr.may g) (Gr.wants g) (Gr.data g))), Value.int IntKind.i64 (Gr.total (Gr.mk (nx (Gr.fx g)) (Gr.fr g) (nx (Gr.tx g)) (Gr.to g) (Gr.number g) (Gr.life g) (Gr.at' g) (Gr.total g) (Gr.report g) (Gr.more g) (Gr.may g) (Gr.wants g) (Gr.data g))), Value.int IntKind.i64 (Gr.report (Gr.mk (nx (Gr.fx g)) (Gr.fr g) (nx (Gr.tx g)) (Gr.to g) (Gr.number g) (Gr.life g) (Gr.at' g) (Gr.total g) (Gr.report g) (Gr.more g) (Gr.may g) (Gr.wants g) (Gr.data g))), Value.bool (Gr.more (Gr.mk (nx (Gr.fx g)) (Gr.fr g) (nx (Gr.tx g)) (Gr.to g) (Gr.number g) (Gr.life g) (Gr.at' g) (Gr.total g) (Gr.report g) (Gr.more g) (Gr.may g) (Gr.wants g) (Gr.data g))), Value.bool (Gr.may (Gr.mk (nx (Gr.fx g)) (Gr.fr g) (nx (Gr.tx g)) (Gr.to g) (Gr.number g) (Gr.life g) (Gr.at' g) (Gr.total g) (Gr.report g) (Gr.more g) (Gr.may g) (Gr.wants g) (Gr.data g))), Value.bool (Gr.wants (Gr.mk (nx (Gr.fx g)) (Gr.fr g) (nx (Gr.tx g)) (Gr.to g) (Gr.number g) (Gr.life g) (Gr.at' g) (Gr.total g) (Gr.report g) (Gr.more g) (Gr.may g) (Gr.wants g) (Gr.data g))), Value.string (Gr.data (Gr.mk (nx (Gr.fx g)) (Gr.fr g) (nx (Gr.tx g)) (Gr.to g) (Gr.number g) (Gr.life g) (Gr.at' g) (Gr.total g) (Gr.report g) (Gr.more g) (Gr.may g) (Gr.wants g) (Gr.data g)))]) (by kernel_rfl) (by kernel_rfl) (by kernel_rfl) ?_ (fun cf => (by kernel_rfl))
    refine WpOps.keep 4 (Value.slice (some (Addr.mk 1 0 none)) 1 1) (by kernel_rfl) (by kernel_rfl) (by kernel_rfl) ?_ (fun cf => (by kernel_rfl))
    refine WpOps.keep 5 (Value.bool true) (by kernel_rfl) (by kernel_rfl) (by kernel_rfl) ?_ (fun cf => (by kernel_rfl))
    refine WpOps.nil ?_
    refine thenK_at ?_
    refine Wp.ret ?_
    refine thenK_ret ?_
    refine endK_retn [Value.slice (some (Addr.mk 1 0 none)) 1 1, Value.bool true] (Value.tuple #[Value.slice (some (Addr.mk 1 0 none)) 1 1, Value.bool true]) (by kernel_rfl) (by kernel_rfl) ?_
    kernel_rfl
  | false =>
    simp only [cutL, if_neg (of_decide_eq_false hlen)]
    cases hmay : g.may with
    | false =>
      simp only [Bool.false_eq_true, false_and, if_false]
      refine Fun.of f45 rfl (of_decide_eq_true (by kernel_rfl)) (by kernel_rfl) ?_
      have nm : (!g.may) = true := by rw [hmay]; rfl
      refine Wp.seq ?_
      refine Wp.text ?_
      refine WpOps.made 2 (Value.pointer (some (Addr.mk 0 0 none))) (Blk.mk 24 true [Value.iface 3 (Value.iface (List.length (Gr.fr g)) (Value.iface (Gr.fx g) (Value.agg (List.toArray (List.map (fun n => Value.int IntKind.i64 n) (Gr.fr g)))))), Value.iface 3 (Value.iface (List.length (Gr.to g)) (Value.iface (Gr.tx g) (Value.agg (List.toArray (List.map (fun n => Value.int IntKind.i64 n) (Gr.to g)))))), Value.int IntKind.i64 (Gr.number g), Value.int IntKind.i64 (Gr.life g), Value.int IntKind.i64 (Gr.at' g), Value.int IntKind.i64 (Gr.total g), Value.int IntKind.i64 (Gr.report g), Value.bool (Gr.more g), Value.bool (Gr.may g), Value.bool (Gr.wants g), Value.string (Gr.data g)]) (by kernel_rfl) (by kernel_rfl) (by kernel_rfl) ?_ (fun cf => (by kernel_rfl))
      refine WpOps.keep 4 (Value.slice none 0 0) (by kernel_rfl) (by kernel_rfl) (by kernel_rfl) ?_ (fun cf => (by kernel_rfl))
      refine WpOps.keep 5 (Value.bool false) (by kernel_rfl) (by kernel_rfl) (by kernel_rfl) ?_ (fun cf => (by kernel_rfl))
      refine WpOps.nil ?_
      refine thenK_at ?_
      refine Wp.seq ?_
      refine Wp.seq ?_
      refine Wp.text ?_
      refine WpOps.keep 9 (Value.pointer (some (Addr.mk 0 10 none))) (by kernel_rfl) (by kernel_rfl) (by kernel_rfl) ?_ (fun cf => (by kernel_rfl))
      refine WpOps.keep 10 (Value.string (Gr.data g)) (by kernel_rfl) (by kernel_rfl) (by kernel_rfl) ?_ (fun cf => (by kernel_rfl))
      refine WpOps.keep 11 (Value.int IntKind.i64 (↑(ByteArray.size (Gr.data g)) : Int)) (by kernel_rfl) (by kernel_rfl) (by kernel_rfl) ?_ (fun cf => (by kernel_rfl))
      refine WpOps.keep 12 (Value.int IntKind.i64 size) (by kernel_rfl) (by kernel_rfl) (by kernel_rfl) ?_ (fun cf => (by kernel_rfl))
      refine WpOps.keep 13 (Value.bool false) (by kernel_rfl) (by kernel_rfl) (by kernel_rfl) ?_ (fun cf => by_fact hlen ((by kernel_rfl)))
      refine WpOps.nil ?_
      refine thenK_at ?_
      refine Wp.off (by kernel_rfl) ?_
      refine Wp.skip ?_
      refine thenK_at ?_
      refine Wp.seq ?_
      refine Wp.text ?_
      refine WpOps.keep 17 (Value.int IntKind.i64 size) (by kernel_rfl) (by kernel_rfl) (by kernel_rfl) ?_ (fun cf => (by kernel_rfl))
      refine WpOps.keep 18 (Value.int IntKind.i64 (IntKind.wrap IntKind.i64 (Int.tdiv size 8))) (by kernel_rfl) (by kernel_rfl) (by kernel_rfl) ?_ (fun cf => (by kernel_rfl))
      refine WpOps.keep 19 (Value.int IntKind.i64 (IntKind.wrap IntKind.i64 (IntKind.wrap IntKind.i64 (Int.tdiv size 8) * 8))) (by kernel_rfl) (by kernel_rfl) (by kernel_rfl) ?_ (fun cf => (by kernel_rfl))
      refine WpOps.keep 1 (Value.int IntKind.i64 (IntKind.wrap IntKind.i64 (IntKind.wrap IntKind.i64 (Int.tdiv size 8) * 8))) (by kernel_rfl) (by kernel_rfl) (by kernel_rfl) ?_ (fun cf => (by kernel_rfl))
      refine WpOps.nil ?_
      refine thenK_at ?_
      refine Wp.seq ?_
      refine Wp.seq ?_
      refine Wp.text ?_
      refine WpOps.keep 20 (Value.pointer (some (Addr.mk 0 8 none))) (by kernel_rfl) (by kernel_rfl) (by kernel_rfl) ?_ (fun cf => (by kernel_rfl))
      refine WpOps.keep 21 (Value.bool false) (by kernel_rfl) (by kernel_rfl) (by kernel_rfl) ?_ (fun cf => by_fact hmay ((by kernel_rfl)))
      refine WpOps.keep 22 (Value.bool !false) (by kernel_rfl) (by kernel_rfl) (by kernel_rfl) ?_ (fun cf => (by kernel_rfl))
      refine WpOps.keep 23 (Value.bool !false) (by kernel_rfl) (by kernel_rfl) (by kernel_rfl) ?_ (fun cf => (by kernel_rfl))
      refine WpOps.unmet 24 (by kernel_rfl) (by kernel_rfl) (by kernel_rfl) ?_
      refine WpOps.unmet 25 (by kernel_rfl) (by kernel_rfl) (by kernel_rfl) ?_
      refine WpOps.keep 26 (Value.bool true) (by kernel_rfl) (by kernel_rfl) (by kernel_rfl) ?_ (fun cf => (by kernel_rfl))
      refine WpOps.nil ?_
      refine thenK_at ?_
      refine Wp.on (by kernel_rfl) ?_
      refine Wp.seq ?_
      refine Wp.text ?_
      refine WpOps.keep 4 (Value.slice none 0 0) (by kernel_rfl) (by kernel_rfl) (by kernel_rfl) ?_ (fun cf => (by kernel_rfl))
      refine WpOps.keep 5 (Value.bool false) (by kernel_rfl) (by kernel_rfl) (by kernel_rfl) ?_ (fun cf => (by kernel_rfl))
      refine WpOps.nil ?_
      refine thenK_at ?_
      refine Wp.ret ?_
      refine thenK_ret ?_
      refine endK_retn [Value.slice none 0 0, Value.bool false] (Value.tuple #[Value.slice none 0 0, Value.bool false]) (by kernel_rfl) (by kernel_rfl) ?_
      kernel_rfl
    | true =>
      rcases Nat.eq_zero_or_pos (s8 size) with h0 | h0
      · simp only [h0, ne_eq, not_true, and_false, if_false]
        refine Fun.of f45 rfl (of_decide_eq_true (by kernel_rfl)) (by kernel_rfl) ?_
        have nm : (!g.may) = false := by rw [hmay]; rfl
        have z : (IntKind.i64.wrap (IntKind.i64.wrap (size.tdiv 8) * 8) == 0) = true := by
          rw [hs, h0]; rfl
        refine Wp.seq ?_
        refine Wp.text ?_
        refine WpOps.made 2 (Value.pointer (some (Addr.mk 0 0 none))) (Blk.mk 24 true [Value.iface 3 (Value.iface (List.length (Gr.fr g)) (Value.iface (Gr.fx g) (Value.agg (List.toArray (List.map (fun n => Value.int IntKind.i64 n) (Gr.fr g)))))), Value.iface 3 (Value.iface (List.length (Gr.to g)) (Value.iface (Gr.tx g) (Value.agg (List.toArray (List.map (fun n => Value.int IntKind.i64 n) (Gr.to g)))))), Value.int IntKind.i64 (Gr.number g), Value.int IntKind.i64 (Gr.life g), Value.int IntKind.i64 (Gr.at' g), Value.int IntKind.i64 (Gr.total g), Value.int IntKind.i64 (Gr.report g), Value.bool (Gr.more g), Value.bool (Gr.may g), Value.bool (Gr.wants g), Value.string (Gr.data g)]) (by kernel_rfl) (by kernel_rfl) (by kernel_rfl) ?_ (fun cf => (by kernel_rfl))
        refine WpOps.keep 4 (Value.slice none 0 0) (by kernel_rfl) (by kernel_rfl) (by kernel_rfl) ?_ (fun cf => (by kernel_rfl))
        refine WpOps.keep 5 (Value.bool false) (by kernel_rfl) (by kernel_rfl) (by kernel_rfl) ?_ (fun cf => (by kernel_rfl))
        refine WpOps.nil ?_
        refine thenK_at ?_
        refine Wp.seq ?_
        refine Wp.seq ?_
        refine Wp.text ?_
        refine WpOps.keep 9 (Value.pointer (some (Addr.mk 0 10 none))) (by kernel_rfl) (by kernel_rfl) (by kernel_rfl) ?_ (fun cf => (by kernel_rfl))
        refine WpOps.keep 10 (Value.string (Gr.data g)) (by kernel_rfl) (by kernel_rfl) (by kernel_rfl) ?_ (fun cf => (by kernel_rfl))
        refine WpOps.keep 11 (Value.int IntKind.i64 (↑(ByteArray.size (Gr.data g)) : Int)) (by kernel_rfl) (by kernel_rfl) (by kernel_rfl) ?_ (fun cf => (by kernel_rfl))
        refine WpOps.keep 12 (Value.int IntKind.i64 size) (by kernel_rfl) (by kernel_rfl) (by kernel_rfl) ?_ (fun cf => (by kernel_rfl))
        refine WpOps.keep 13 (Value.bool false) (by kernel_rfl) (by kernel_rfl) (by kernel_rfl) ?_ (fun cf => by_fact hlen ((by kernel_rfl)))
        refine WpOps.nil ?_
        refine thenK_at ?_
        refine Wp.off (by kernel_rfl) ?_
        refine Wp.skip ?_
        refine thenK_at ?_
        refine Wp.seq ?_
        refine Wp.text ?_
        refine WpOps.keep 17 (Value.int IntKind.i64 size) (by kernel_rfl) (by kernel_rfl) (by kernel_rfl) ?_ (fun cf => (by kernel_rfl))
        refine WpOps.keep 18 (Value.int IntKind.i64 (IntKind.wrap IntKind.i64 (Int.tdiv size 8))) (by kernel_rfl) (by kernel_rfl) (by kernel_rfl) ?_ (fun cf => (by kernel_rfl))
        refine WpOps.keep 19 (Value.int IntKind.i64 (IntKind.wrap IntKind.i64 (IntKind.wrap IntKind.i64 (Int.tdiv size 8) * 8))) (by kernel_rfl) (by kernel_rfl) (by kernel_rfl) ?_ (fun cf => (by kernel_rfl))
        refine WpOps.keep 1 (Value.int IntKind.i64 (IntKind.wrap IntKind.i64 (IntKind.wrap IntKind.i64 (Int.tdiv size 8) * 8))) (by kernel_rfl) (by kernel_rfl) (by kernel_rfl) ?_ (fun cf => (by kernel_rfl))
        refine WpOps.nil ?_
        refine thenK_at ?_
        refine Wp.seq ?_
        refine Wp.seq ?_
        refine Wp.text ?_
        refine WpOps.keep 20 (Value.pointer (some (Addr.mk 0 8 none))) (by kernel_rfl) (by kernel_rfl) (by kernel_rfl) ?_ (fun cf => (by kernel_rfl))
        refine WpOps.keep 21 (Value.bool true) (by kernel_rfl) (by kernel_rfl) (by kernel_rfl) ?_ (fun cf => by_fact hmay ((by kernel_rfl)))
        refine WpOps.keep 22 (Value.bool !true) (by kernel_rfl) (by kernel_rfl) (by kernel_rfl) ?_ (fun cf => (by kernel_rfl))
        refine WpOps.keep 23 (Value.bool !true) (by kernel_rfl) (by kernel_rfl) (by kernel_rfl) ?_ (fun cf => (by kernel_rfl))
        refine WpOps.keep 24 (Value.int IntKind.i64 (IntKind.wrap IntKind.i64 (IntKind.wrap IntKind.i64 (Int.tdiv size 8) * 8))) (by kernel_rfl) (by kernel_rfl) (by kernel_rfl) ?_ (fun cf => (by kernel_rfl))
        refine WpOps.keep 25 (Value.bool true) (by kernel_rfl) (by kernel_rfl) (by kernel_rfl) ?_ (fun cf => by_fact z ((by kernel_rfl)))
        refine WpOps.keep 26 (Value.bool true) (by kernel_rfl) (by kernel_rfl) (by kernel_rfl) ?_ (fun cf => (by kernel_rfl))
        refine WpOps.nil ?_
        refine thenK_at ?_
        refine Wp.on (by kernel_rfl) ?_
        refine Wp.seq ?_
        refine Wp.text ?_
        refine WpOps.keep 4 (Value.slice none 0 0) (by kernel_rfl) (by kernel_rfl) (by kernel_rfl) ?_ (fun cf => (by kernel_rfl))
        refine WpOps.keep 5 (Value.bool false) (by kernel_rfl) (by kernel_rfl) (by kernel_rfl) ?_ (fun cf => (by kernel_rfl))
        refine WpOps.nil ?_
        refine thenK_at ?_
        refine Wp.ret ?_
        refine thenK_ret ?_
        refine endK_retn [Value.slice none 0 0, Value.bool false] (Value.tuple #[Value.slice none 0 0, Value.bool false]) (by kernel_rfl) (by kernel_rfl) ?_
        kernel_rfl
      · rw [if_pos ⟨rfl, by omega⟩]
        have := cut45_many g ok size h1 h2 hd (s8 size) hs hs2 hlen hmay h0
        simp only [cutV, grams, pcs_len]
        exact this

theorem okG_size {g : Gr} (h : okG g = true) : g.data.size ≤ 4000 := by
  simp only [okG, Bool.and_eq_true, decide_eq_true_eq] at h
  obtain ⟨⟨⟨⟨_, h1⟩, h2⟩, h3⟩, _⟩ := h
  have i1 := h1
  have i2 := h2
  simp only [inR, Bool.cond_false_right, Bool.and_eq_true, decide_eq_true_eq] at i1 i2
  rw [wr _ (by omega) (by omega)] at h3
  omega

def errV (e : TypeId) : Option (List Gr) → Value
  | some l => .tuple #[grams e l, .int .i64 0]
  | none => .tuple #[.slice none 0 0, .int .i64 1]
/-- What Cut comes to. -/
def cutAll (g : Gr) (size : Int) : Option (List Gr) := if okG g = true ∧ inR size 1 4000 = true then cutL g size else none

theorem f14 : E.funcs 14 = some Try.f14 := by kernel_rfl
theorem Cut14 (g : Gr) (ok : OkGr g) (size : Int) : Fun E 14 [gv g, .int .i64 size] (errV 24 (cutAll g size)) := by
  have v := valid20 g (by have := ok.fl; omega) (by have := ok.tl; omega)
  have i1 := in44
  cases ho : okG g with
  | false =>
    simp only [cutAll, ho, Bool.false_eq_true, false_and, if_false]
    refine Fun.of f14 rfl (of_decide_eq_true (by kernel_rfl)) (by kernel_rfl) ?_
    have n1 : (!okG g) = true := by rw [ho]; rfl
    refine Wp.seq ?_
    refine Wp.text ?_
    refine WpOps.made 2 (Value.pointer (some (Addr.mk 0 0 none))) (Blk.mk 24 true [Value.iface 3 (Value.iface (List.length (Gr.fr g)) (Value.iface (Gr.fx g) (Value.agg (List.toArray (List.map (fun n => Value.int IntKind.i64 n) (Gr.fr g)))))), Value.iface 3 (Value.iface (List.length (Gr.to g)) (Value.iface (Gr.tx g) (Value.agg (List.toArray (List.map (fun n => Value.int IntKind.i64 n) (Gr.to g)))))), Value.int IntKind.i64 (Gr.number g), Value.int IntKind.i64 (Gr.life g), Value.int IntKind.i64 (Gr.at' g), Value.int IntKind.i64 (Gr.total g), Value.int IntKind.i64 (Gr.report g), Value.bool (Gr.more g), Value.bool (Gr.may g), Value.bool (Gr.wants g), Value.string (Gr.data g)]) (by kernel_rfl) (by kernel_rfl) (by kernel_rfl) ?_ (fun cf => (by kernel_rfl))
    refine WpOps.keep 4 (Value.slice none 0 0) (by kernel_rfl) (by kernel_rfl) (by kernel_rfl) ?_ (fun cf => (by kernel_rfl))
    refine WpOps.keep 5 (Value.int IntKind.i64 0) (by kernel_rfl) (by kernel_rfl) (by kernel_rfl) ?_ (fun cf => (by kernel_rfl))
    refine WpOps.nil ?_
    refine thenK_at ?_
    refine Wp.seq ?_
    refine Wp.seq ?_
    refine Wp.text ?_
    refine WpOps.keep 8 (Value.agg #[Value.iface 3 (Value.iface (List.length (Gr.fr g)) (Value.iface (Gr.fx g) (Value.agg (List.toArray (List.map (fun n => Value.int IntKind.i64 n) (Gr.fr g)))))), Value.iface 3 (Value.iface (List.length (Gr.to g)) (Value.iface (Gr.tx g) (Value.agg (List.toArray (List.map (fun n => Value.int IntKind.i64 n) (Gr.to g)))))), Value.int IntKind.i64 (Gr.number g), Value.int IntKind.i64 (Gr.life g), Value.int IntKind.i64 (Gr.at' g), Value.int IntKind.i64 (Gr.total g), Value.int IntKind.i64 (Gr.report g), Value.bool (Gr.more g), Value.bool (Gr.may g), Value.bool (Gr.wants g), Value.string (Gr.data g)]) (by kernel_rfl) (by kernel_rfl) (by kernel_rfl) ?_ (fun cf => (by kernel_rfl))
    refine WpOps.framed 9 20 [Value.agg #[Value.iface 3 (Value.iface (List.length (Gr.fr g)) (Value.iface (Gr.fx g) (Value.agg (List.toArray (List.map (fun n => Value.int IntKind.i64 n) (Gr.fr g)))))), Value.iface 3 (Value.iface (List.length (Gr.to g)) (Value.iface (Gr.tx g) (Value.agg (List.toArray (List.map (fun n => Value.int IntKind.i64 n) (Gr.to g)))))), Value.int IntKind.i64 (Gr.number g), Value.int IntKind.i64 (Gr.life g), Value.int IntKind.i64 (Gr.at' g), Value.int IntKind.i64 (Gr.total g), Value.int IntKind.i64 (Gr.report g), Value.bool (Gr.more g), Value.bool (Gr.may g), Value.bool (Gr.wants g), Value.string (Gr.data g)]] (by kernel_rfl) (by kernel_rfl) (by kernel_rfl) (by kernel_rfl) (by kernel_rfl) (fun cf => (by kernel_rfl)) ?_
    refine WpFun.of (v) ?_
    refine WpOps.keep 10 (Value.bool true) (by kernel_rfl) (by kernel_rfl) (by kernel_rfl) ?_ (fun cf => by_fact n1 ((by kernel_rfl)))
    refine WpOps.keep 11 (Value.bool true) (by kernel_rfl) (by kernel_rfl) (by kernel_rfl) ?_ (fun cf => (by kernel_rfl))
    refine WpOps.unmet 12 (by kernel_rfl) (by kernel_rfl) (by kernel_rfl) ?_
    refine WpOps.unmet 13 (by kernel_rfl) (by kernel_rfl) (by kernel_rfl) ?_
    refine WpOps.unmet 14 (by kernel_rfl) (by kernel_rfl) (by kernel_rfl) ?_
    refine WpOps.keep 15 (Value.bool true) (by kernel_rfl) (by kernel_rfl) (by kernel_rfl) ?_ (fun cf => (by kernel_rfl))
    refine WpOps.nil ?_
    refine thenK_at ?_
    refine Wp.on (by kernel_rfl) ?_
    refine Wp.seq ?_
    refine Wp.text ?_
    refine WpOps.keep 4 (Value.slice none 0 0) (by kernel_rfl) (by kernel_rfl) (by kernel_rfl) ?_ (fun cf => (by kernel_rfl))
    refine WpOps.keep 5 (Value.int IntKind.i64 1) (by kernel_rfl) (by kernel_rfl) (by kernel_rfl) ?_ (fun cf => (by kernel_rfl))
    refine WpOps.nil ?_
    refine thenK_at ?_
    refine Wp.ret ?_
    refine thenK_ret ?_
    refine endK_retn [Value.slice none 0 0, Value.int IntKind.i64 1] (Value.tuple #[Value.slice none 0 0, Value.int IntKind.i64 1]) (by kernel_rfl) (by kernel_rfl) ?_
    kernel_rfl
  | true =>
    have n1 : (!okG g) = false := by rw [ho]; rfl
    cases hi : inR size 1 4000 with
    | false =>
      simp only [cutAll, hi, Bool.false_eq_true, and_false, if_false]
      refine Fun.of f14 rfl (of_decide_eq_true (by kernel_rfl)) (by kernel_rfl) ?_
      have n2 : (!inR size 1 4000) = true := by rw [hi]; rfl
      refine Wp.seq ?_
      refine Wp.text ?_
      refine WpOps.made 2 (Value.pointer (some (Addr.mk 0 0 none))) (Blk.mk 24 true [Value.iface 3 (Value.iface (List.length (Gr.fr g)) (Value.iface (Gr.fx g) (Value.agg (List.toArray (List.map (fun n => Value.int IntKind.i64 n) (Gr.fr g)))))), Value.iface 3 (Value.iface (List.length (Gr.to g)) (Value.iface (Gr.tx g) (Value.agg (List.toArray (List.map (fun n => Value.int IntKind.i64 n) (Gr.to g)))))), Value.int IntKind.i64 (Gr.number g), Value.int IntKind.i64 (Gr.life g), Value.int IntKind.i64 (Gr.at' g), Value.int IntKind.i64 (Gr.total g), Value.int IntKind.i64 (Gr.report g), Value.bool (Gr.more g), Value.bool (Gr.may g), Value.bool (Gr.wants g), Value.string (Gr.data g)]) (by kernel_rfl) (by kernel_rfl) (by kernel_rfl) ?_ (fun cf => (by kernel_rfl))
      refine WpOps.keep 4 (Value.slice none 0 0) (by kernel_rfl) (by kernel_rfl) (by kernel_rfl) ?_ (fun cf => (by kernel_rfl))
      refine WpOps.keep 5 (Value.int IntKind.i64 0) (by kernel_rfl) (by kernel_rfl) (by kernel_rfl) ?_ (fun cf => (by kernel_rfl))
      refine WpOps.nil ?_
      refine thenK_at ?_
      refine Wp.seq ?_
      refine Wp.seq ?_
      refine Wp.text ?_
      refine WpOps.keep 8 (Value.agg #[Value.iface 3 (Value.iface (List.length (Gr.fr g)) (Value.iface (Gr.fx g) (Value.agg (List.toArray (List.map (fun n => Value.int IntKind.i64 n) (Gr.fr g)))))), Value.iface 3 (Value.iface (List.length (Gr.to g)) (Value.iface (Gr.tx g) (Value.agg (List.toArray (List.map (fun n => Value.int IntKind.i64 n) (Gr.to g)))))), Value.int IntKind.i64 (Gr.number g), Value.int IntKind.i64 (Gr.life g), Value.int IntKind.i64 (Gr.at' g), Value.int IntKind.i64 (Gr.total g), Value.int IntKind.i64 (Gr.report g), Value.bool (Gr.more g), Value.bool (Gr.may g), Value.bool (Gr.wants g), Value.string (Gr.data g)]) (by kernel_rfl) (by kernel_rfl) (by kernel_rfl) ?_ (fun cf => (by kernel_rfl))
      refine WpOps.framed 9 20 [Value.agg #[Value.iface 3 (Value.iface (List.length (Gr.fr g)) (Value.iface (Gr.fx g) (Value.agg (List.toArray (List.map (fun n => Value.int IntKind.i64 n) (Gr.fr g)))))), Value.iface 3 (Value.iface (List.length (Gr.to g)) (Value.iface (Gr.tx g) (Value.agg (List.toArray (List.map (fun n => Value.int IntKind.i64 n) (Gr.to g)))))), Value.int IntKind.i64 (Gr.number g), Value.int IntKind.i64 (Gr.life g), Value.int IntKind.i64 (Gr.at' g), Value.int IntKind.i64 (Gr.total g), Value.int IntKind.i64 (Gr.report g), Value.bool (Gr.more g), Value.bool (Gr.may g), Value.bool (Gr.wants g), Value.string (Gr.data g)]] (by kernel_rfl) (by kernel_rfl) (by kernel_rfl) (by kernel_rfl) (by kernel_rfl) (fun cf => (by kernel_rfl)) ?_
      refine WpFun.of (v) ?_
      refine WpOps.keep 10 (Value.bool false) (by kernel_rfl) (by kernel_rfl) (by kernel_rfl) ?_ (fun cf => by_fact n1 ((by kernel_rfl)))
      refine WpOps.keep 11 (Value.bool false) (by kernel_rfl) (by kernel_rfl) (by kernel_rfl) ?_ (fun cf => (by kernel_rfl))
      refine WpOps.keep 12 (Value.int IntKind.i64 size) (by kernel_rfl) (by kernel_rfl) (by kernel_rfl) ?_ (fun cf => (by kernel_rfl))
      refine WpOps.framed 13 44 [Value.int IntKind.i64 size, Value.int IntKind.i64 1, Value.int IntKind.i64 4000] (by kernel_rfl) (by kernel_rfl) (by kernel_rfl) (by kernel_rfl) (by kernel_rfl) (fun cf => (by kernel_rfl)) ?_
      refine WpFun.of (i1 _ _ _) ?_
      refine WpOps.keep 14 (Value.bool true) (by kernel_rfl) (by kernel_rfl) (by kernel_rfl) ?_ (fun cf => by_fact n2 ((by kernel_rfl)))
      refine WpOps.keep 15 (Value.bool true) (by kernel_rfl) (by kernel_rfl) (by kernel_rfl) ?_ (fun cf => (by kernel_rfl))
      refine WpOps.nil ?_
      refine thenK_at ?_
      refine Wp.on (by kernel_rfl) ?_
      refine Wp.seq ?_
      refine Wp.text ?_
      refine WpOps.keep 4 (Value.slice none 0 0) (by kernel_rfl) (by kernel_rfl) (by kernel_rfl) ?_ (fun cf => (by kernel_rfl))
      refine WpOps.keep 5 (Value.int IntKind.i64 1) (by kernel_rfl) (by kernel_rfl) (by kernel_rfl) ?_ (fun cf => (by kernel_rfl))
      refine WpOps.nil ?_
      refine thenK_at ?_
      refine Wp.ret ?_
      refine thenK_ret ?_
      refine endK_retn [Value.slice none 0 0, Value.int IntKind.i64 1] (Value.tuple #[Value.slice none 0 0, Value.int IntKind.i64 1]) (by kernel_rfl) (by kernel_rfl) ?_
      kernel_rfl
    | true =>
      have n2 : (!inR size 1 4000) = false := by rw [hi]; rfl
      have hi2 := hi
      simp only [inR, Bool.cond_false_right, Bool.and_eq_true, decide_eq_true_eq] at hi2
      have c := cut45 g ok size hi2.1 hi2.2 (okG_size ho)
      rw [cutAll, if_pos ⟨ho, hi⟩]
      cases hc : cutL g size with
      | none =>
        rw [hc] at c
        refine Fun.of f14 rfl (of_decide_eq_true (by kernel_rfl)) (by kernel_rfl) ?_
        refine Wp.seq ?_
        refine Wp.text ?_
        refine WpOps.made 2 (Value.pointer (some (Addr.mk 0 0 none))) (Blk.mk 24 true [Value.iface 3 (Value.iface (List.length (Gr.fr g)) (Value.iface (Gr.fx g) (Value.agg (List.toArray (List.map (fun n => Value.int IntKind.i64 n) (Gr.fr g)))))), Value.iface 3 (Value.iface (List.length (Gr.to g)) (Value.iface (Gr.tx g) (Value.agg (List.toArray (List.map (fun n => Value.int IntKind.i64 n) (Gr.to g)))))), Value.int IntKind.i64 (Gr.number g), Value.int IntKind.i64 (Gr.life g), Value.int IntKind.i64 (Gr.at' g), Value.int IntKind.i64 (Gr.total g), Value.int IntKind.i64 (Gr.report g), Value.bool (Gr.more g), Value.bool (Gr.may g), Value.bool (Gr.wants g), Value.string (Gr.data g)]) (by kernel_rfl) (by kernel_rfl) (by kernel_rfl) ?_ (fun cf => (by kernel_rfl))
        refine WpOps.keep 4 (Value.slice none 0 0) (by kernel_rfl) (by kernel_rfl) (by kernel_rfl) ?_ (fun cf => (by kernel_rfl))
        refine WpOps.keep 5 (Value.int IntKind.i64 0) (by kernel_rfl) (by kernel_rfl) (by kernel_rfl) ?_ (fun cf => (by kernel_rfl))
        refine WpOps.nil ?_
        refine thenK_at ?_
        refine Wp.seq ?_
        refine Wp.seq ?_
        refine Wp.text ?_
        refine WpOps.keep 8 (Value.agg #[Value.iface 3 (Value.iface (List.length (Gr.fr g)) (Value.iface (Gr.fx g) (Value.agg (List.toArray (List.map (fun n => Value.int IntKind.i64 n) (Gr.fr g)))))), Value.iface 3 (Value.iface (List.length (Gr.to g)) (Value.iface (Gr.tx g) (Value.agg (List.toArray (List.map (fun n => Value.int IntKind.i64 n) (Gr.to g)))))), Value.int IntKind.i64 (Gr.number g), Value.int IntKind.i64 (Gr.life g), Value.int IntKind.i64 (Gr.at' g), Value.int IntKind.i64 (Gr.total g), Value.int IntKind.i64 (Gr.report g), Value.bool (Gr.more g), Value.bool (Gr.may g), Value.bool (Gr.wants g), Value.string (Gr.data g)]) (by kernel_rfl) (by kernel_rfl) (by kernel_rfl) ?_ (fun cf => (by kernel_rfl))
        refine WpOps.framed 9 20 [Value.agg #[Value.iface 3 (Value.iface (List.length (Gr.fr g)) (Value.iface (Gr.fx g) (Value.agg (List.toArray (List.map (fun n => Value.int IntKind.i64 n) (Gr.fr g)))))), Value.iface 3 (Value.iface (List.length (Gr.to g)) (Value.iface (Gr.tx g) (Value.agg (List.toArray (List.map (fun n => Value.int IntKind.i64 n) (Gr.to g)))))), Value.int IntKind.i64 (Gr.number g), Value.int IntKind.i64 (Gr.life g), Value.int IntKind.i64 (Gr.at' g), Value.int IntKind.i64 (Gr.total g), Value.int IntKind.i64 (Gr.report g), Value.bool (Gr.more g), Value.bool (Gr.may g), Value.bool (Gr.wants g), Value.string (Gr.data g)]] (by kernel_rfl) (by kernel_rfl) (by kernel_rfl) (by kernel_rfl) (by kernel_rfl) (fun cf => (by kernel_rfl)) ?_
        refine WpFun.of (v) ?_
        refine WpOps.keep 10 (Value.bool false) (by kernel_rfl) (by kernel_rfl) (by kernel_rfl) ?_ (fun cf => by_fact n1 ((by kernel_rfl)))
        refine WpOps.keep 11 (Value.bool false) (by kernel_rfl) (by kernel_rfl) (by kernel_rfl) ?_ (fun cf => (by kernel_rfl))
        refine WpOps.keep 12 (Value.int IntKind.i64 size) (by kernel_rfl) (by kernel_rfl) (by kernel_rfl) ?_ (fun cf => (by kernel_rfl))
        refine WpOps.framed 13 44 [Value.int IntKind.i64 size, Value.int IntKind.i64 1, Value.int IntKind.i64 4000] (by kernel_rfl) (by kernel_rfl) (by kernel_rfl) (by kernel_rfl) (by kernel_rfl) (fun cf => (by kernel_rfl)) ?_
        refine WpFun.of (i1 _ _ _) ?_
        refine WpOps.keep 14 (Value.bool false) (by kernel_rfl) (by kernel_rfl) (by kernel_rfl) ?_ (fun cf => by_fact n2 ((by kernel_rfl)))
        refine WpOps.keep 15 (Value.bool false) (by kernel_rfl) (by kernel_rfl) (by kernel_rfl) ?_ (fun cf => (by kernel_rfl))
        refine WpOps.nil ?_
        refine thenK_at ?_
        refine Wp.off (by kernel_rfl) ?_
        refine Wp.skip ?_
        refine thenK_at ?_
        refine Wp.seq ?_
        refine Wp.text ?_
        refine WpOps.keep 17 (Value.agg #[Value.iface 3 (Value.iface (List.length (Gr.fr g)) (Value.iface (Gr.fx g) (Value.agg (List.toArray (List.map (fun n => Value.int IntKind.i64 n) (Gr.fr g)))))), Value.iface 3 (Value.iface (List.length (Gr.to g)) (Value.iface (Gr.tx g) (Value.agg (List.toArray (List.map (fun n => Value.int IntKind.i64 n) (Gr.to g)))))), Value.int IntKind.i64 (Gr.number g), Value.int IntKind.i64 (Gr.life g), Value.int IntKind.i64 (Gr.at' g), Value.int IntKind.i64 (Gr.total g), Value.int IntKind.i64 (Gr.report g), Value.bool (Gr.more g), Value.bool (Gr.may g), Value.bool (Gr.wants g), Value.string (Gr.data g)]) (by kernel_rfl) (by kernel_rfl) (by kernel_rfl) ?_ (fun cf => (by kernel_rfl))
        refine WpOps.keep 18 (Value.int IntKind.i64 size) (by kernel_rfl) (by kernel_rfl) (by kernel_rfl) ?_ (fun cf => (by kernel_rfl))
        refine WpOps.framed 19 45 [Value.agg #[Value.iface 3 (Value.iface (List.length (Gr.fr g)) (Value.iface (Gr.fx g) (Value.agg (List.toArray (List.map (fun n => Value.int IntKind.i64 n) (Gr.fr g)))))), Value.iface 3 (Value.iface (List.length (Gr.to g)) (Value.iface (Gr.tx g) (Value.agg (List.toArray (List.map (fun n => Value.int IntKind.i64 n) (Gr.to g)))))), Value.int IntKind.i64 (Gr.number g), Value.int IntKind.i64 (Gr.life g), Value.int IntKind.i64 (Gr.at' g), Value.int IntKind.i64 (Gr.total g), Value.int IntKind.i64 (Gr.report g), Value.bool (Gr.more g), Value.bool (Gr.may g), Value.bool (Gr.wants g), Value.string (Gr.data g)], Value.int IntKind.i64 size] (by kernel_rfl) (by kernel_rfl) (by kernel_rfl) (by kernel_rfl) (by kernel_rfl) (fun cf => (by kernel_rfl)) ?_
        refine WpFun.of (c) ?_
        refine WpOps.keep 16 (Value.tuple #[Value.slice none 0 0, Value.bool false]) (by kernel_rfl) (by kernel_rfl) (by kernel_rfl) ?_ (fun cf => (by kernel_rfl))
        refine WpOps.keep 20 (Value.slice none 0 0) (by kernel_rfl) (by kernel_rfl) (by kernel_rfl) ?_ (fun cf => (by kernel_rfl))
        refine WpOps.keep 21 (Value.bool false) (by kernel_rfl) (by kernel_rfl) (by kernel_rfl) ?_ (fun cf => (by kernel_rfl))
        refine WpOps.keep 6 (Value.slice none 0 0) (by kernel_rfl) (by kernel_rfl) (by kernel_rfl) ?_ (fun cf => (by kernel_rfl))
        refine WpOps.keep 7 (Value.bool false) (by kernel_rfl) (by kernel_rfl) (by kernel_rfl) ?_ (fun cf => (by kernel_rfl))
        refine WpOps.nil ?_
        refine thenK_at ?_
        refine Wp.seq ?_
        refine Wp.seq ?_
        refine Wp.text ?_
        refine WpOps.keep 22 (Value.bool false) (by kernel_rfl) (by kernel_rfl) (by kernel_rfl) ?_ (fun cf => (by kernel_rfl))
        refine WpOps.keep 23 (Value.bool !false) (by kernel_rfl) (by kernel_rfl) (by kernel_rfl) ?_ (fun cf => (by kernel_rfl))
        refine WpOps.nil ?_
        refine thenK_at ?_
        refine Wp.on (by kernel_rfl) ?_
        refine Wp.seq ?_
        refine Wp.text ?_
        refine WpOps.keep 4 (Value.slice none 0 0) (by kernel_rfl) (by kernel_rfl) (by kernel_rfl) ?_ (fun cf => (by kernel_rfl))
        refine WpOps.keep 5 (Value.int IntKind.i64 1) (by kernel_rfl) (by kernel_rfl) (by kernel_rfl) ?_ (fun cf => (by kernel_rfl))
        refine WpOps.nil ?_
        refine thenK_at ?_
        refine Wp.ret ?_
        refine thenK_ret ?_
        refine endK_retn [Value.slice none 0 0, Value.int IntKind.i64 1] (Value.tuple #[Value.slice none 0 0, Value.int IntKind.i64 1]) (by kernel_rfl) (by kernel_rfl) ?_
        kernel_rfl
      | some l =>
        rw [hc] at c
        refine Fun.of f14 rfl (of_decide_eq_true (by kernel_rfl)) (by kernel_rfl) ?_
        refine Wp.seq ?_
        refine Wp.text ?_
        refine WpOps.made 2 (Value.pointer (some (Addr.mk 0 0 none))) (Blk.mk 24 true [Value.iface 3 (Value.iface (List.length (Gr.fr g)) (Value.iface (Gr.fx g) (Value.agg (List.toArray (List.map (fun n => Value.int IntKind.i64 n) (Gr.fr g)))))), Value.iface 3 (Value.iface (List.length (Gr.to g)) (Value.iface (Gr.tx g) (Value.agg (List.toArray (List.map (fun n => Value.int IntKind.i64 n) (Gr.to g)))))), Value.int IntKind.i64 (Gr.number g), Value.int IntKind.i64 (Gr.life g), Value.int IntKind.i64 (Gr.at' g), Value.int IntKind.i64 (Gr.total g), Value.int IntKind.i64 (Gr.report g), Value.bool (Gr.more g), Value.bool (Gr.may g), Value.bool (Gr.wants g), Value.string (Gr.data g)]) (by kernel_rfl) (by kernel_rfl) (by kernel_rfl) ?_ (fun cf => (by kernel_rfl))
        refine WpOps.keep 4 (Value.slice none 0 0) (by kernel_rfl) (by kernel_rfl) (by kernel_rfl) ?_ (fun cf => (by kernel_rfl))
        refine WpOps.keep 5 (Value.int IntKind.i64 0) (by kernel_rfl) (by kernel_rfl) (by kernel_rfl) ?_ (fun cf => (by kernel_rfl))
        refine WpOps.nil ?_
        refine thenK_at ?_
        refine Wp.seq ?_
        refine Wp.seq ?_
        refine Wp.text ?_
        refine WpOps.keep 8 (Value.agg #[Value.iface 3 (Value.iface (List.length (Gr.fr g)) (Value.iface (Gr.fx g) (Value.agg (List.toArray (List.map (fun n => Value.int IntKind.i64 n) (Gr.fr g)))))), Value.iface 3 (Value.iface (List.length (Gr.to g)) (Value.iface (Gr.tx g) (Value.agg (List.toArray (List.map (fun n => Value.int IntKind.i64 n) (Gr.to g)))))), Value.int IntKind.i64 (Gr.number g), Value.int IntKind.i64 (Gr.life g), Value.int IntKind.i64 (Gr.at' g), Value.int IntKind.i64 (Gr.total g), Value.int IntKind.i64 (Gr.report g), Value.bool (Gr.more g), Value.bool (Gr.may g), Value.bool (Gr.wants g), Value.string (Gr.data g)]) (by kernel_rfl) (by kernel_rfl) (by kernel_rfl) ?_ (fun cf => (by kernel_rfl))
        refine WpOps.framed 9 20 [Value.agg #[Value.iface 3 (Value.iface (List.length (Gr.fr g)) (Value.iface (Gr.fx g) (Value.agg (List.toArray (List.map (fun n => Value.int IntKind.i64 n) (Gr.fr g)))))), Value.iface 3 (Value.iface (List.length (Gr.to g)) (Value.iface (Gr.tx g) (Value.agg (List.toArray (List.map (fun n => Value.int IntKind.i64 n) (Gr.to g)))))), Value.int IntKind.i64 (Gr.number g), Value.int IntKind.i64 (Gr.life g), Value.int IntKind.i64 (Gr.at' g), Value.int IntKind.i64 (Gr.total g), Value.int IntKind.i64 (Gr.report g), Value.bool (Gr.more g), Value.bool (Gr.may g), Value.bool (Gr.wants g), Value.string (Gr.data g)]] (by kernel_rfl) (by kernel_rfl) (by kernel_rfl) (by kernel_rfl) (by kernel_rfl) (fun cf => (by kernel_rfl)) ?_
        refine WpFun.of (v) ?_
        refine WpOps.keep 10 (Value.bool false) (by kernel_rfl) (by kernel_rfl) (by kernel_rfl) ?_ (fun cf => by_fact n1 ((by kernel_rfl)))
        refine WpOps.keep 11 (Value.bool false) (by kernel_rfl) (by kernel_rfl) (by kernel_rfl) ?_ (fun cf => (by kernel_rfl))
        refine WpOps.keep 12 (Value.int IntKind.i64 size) (by kernel_rfl) (by kernel_rfl) (by kernel_rfl) ?_ (fun cf => (by kernel_rfl))
        refine WpOps.framed 13 44 [Value.int IntKind.i64 size, Value.int IntKind.i64 1, Value.int IntKind.i64 4000] (by kernel_rfl) (by kernel_rfl) (by kernel_rfl) (by kernel_rfl) (by kernel_rfl) (fun cf => (by kernel_rfl)) ?_
        refine WpFun.of (i1 _ _ _) ?_
        refine WpOps.keep 14 (Value.bool false) (by kernel_rfl) (by kernel_rfl) (by kernel_rfl) ?_ (fun cf => by_fact n2 ((by kernel_rfl)))
        refine WpOps.keep 15 (Value.bool false) (by kernel_rfl) (by kernel_rfl) (by kernel_rfl) ?_ (fun cf => (by kernel_rfl))
        refine WpOps.nil ?_
        refine thenK_at ?_
        refine Wp.off (by kernel_rfl) ?_
        refine Wp.skip ?_
        refine thenK_at ?_
        refine Wp.seq ?_
        refine Wp.text ?_
        refine WpOps.keep 17 (Value.agg #[Value.iface 3 (Value.iface (List.length (Gr.fr g)) (Value.iface (Gr.fx g) (Value.agg (List.toArray (List.map (fun n => Value.int IntKind.i64 n) (Gr.fr g)))))), Value.iface 3 (Value.iface (List.length (Gr.to g)) (Value.iface (Gr.tx g) (Value.agg (List.toArray (List.map (fun n => Value.int IntKind.i64 n) (Gr.to g)))))), Value.int IntKind.i64 (Gr.number g), Value.int IntKind.i64 (Gr.life g), Value.int IntKind.i64 (Gr.at' g), Value.int IntKind.i64 (Gr.total g), Value.int IntKind.i64 (Gr.report g), Value.bool (Gr.more g), Value.bool (Gr.may g), Value.bool (Gr.wants g), Value.string (Gr.data g)]) (by kernel_rfl) (by kernel_rfl) (by kernel_rfl) ?_ (fun cf => (by kernel_rfl))
        refine WpOps.keep 18 (Value.int IntKind.i64 size) (by kernel_rfl) (by kernel_rfl) (by kernel_rfl) ?_ (fun cf => (by kernel_rfl))
        refine WpOps.framed 19 45 [Value.agg #[Value.iface 3 (Value.iface (List.length (Gr.fr g)) (Value.iface (Gr.fx g) (Value.agg (List.toArray (List.map (fun n => Value.int IntKind.i64 n) (Gr.fr g)))))), Value.iface 3 (Value.iface (List.length (Gr.to g)) (Value.iface (Gr.tx g) (Value.agg (List.toArray (List.map (fun n => Value.int IntKind.i64 n) (Gr.to g)))))), Value.int IntKind.i64 (Gr.number g), Value.int IntKind.i64 (Gr.life g), Value.int IntKind.i64 (Gr.at' g), Value.int IntKind.i64 (Gr.total g), Value.int IntKind.i64 (Gr.report g), Value.bool (Gr.more g), Value.bool (Gr.may g), Value.bool (Gr.wants g), Value.string (Gr.data g)], Value.int IntKind.i64 size] (by kernel_rfl) (by kernel_rfl) (by kernel_rfl) (by kernel_rfl) (by kernel_rfl) (fun cf => (by kernel_rfl)) ?_
        refine WpFun.of (c) ?_
        refine WpOps.keep 16 (Value.tuple #[grams 24 l, Value.bool true]) (by kernel_rfl) (by kernel_rfl) (by kernel_rfl) ?_ (fun cf => (by kernel_rfl))
        refine WpOps.keep 20 (Value.iface 24 (Value.iface (List.length l) (Value.iface 0 (Value.agg (List.toArray (cellsG l)))))) (by kernel_rfl) (by kernel_rfl) (by kernel_rfl) ?_ (fun cf => (by kernel_rfl))
        refine WpOps.keep 21 (Value.bool true) (by kernel_rfl) (by kernel_rfl) (by kernel_rfl) ?_ (fun cf => (by kernel_rfl))
        refine WpOps.keep 6 (Value.iface 24 (Value.iface (List.length l) (Value.iface 0 (Value.agg (List.toArray (cellsG l)))))) (by kernel_rfl) (by kernel_rfl) (by kernel_rfl) ?_ (fun cf => (by kernel_rfl))
        refine WpOps.keep 7 (Value.bool true) (by kernel_rfl) (by kernel_rfl) (by kernel_rfl) ?_ (fun cf => (by kernel_rfl))
        refine WpOps.nil ?_
        refine thenK_at ?_
        refine Wp.seq ?_
        refine Wp.seq ?_
        refine Wp.text ?_
        refine WpOps.keep 22 (Value.bool true) (by kernel_rfl) (by kernel_rfl) (by kernel_rfl) ?_ (fun cf => (by kernel_rfl))
        refine WpOps.keep 23 (Value.bool !true) (by kernel_rfl) (by kernel_rfl) (by kernel_rfl) ?_ (fun cf => (by kernel_rfl))
        refine WpOps.nil ?_
        refine thenK_at ?_
        refine Wp.off (by kernel_rfl) ?_
        refine Wp.skip ?_
        refine thenK_at ?_
        refine Wp.seq ?_
        refine Wp.text ?_
        refine WpOps.keep 24 (Value.iface 24 (Value.iface (List.length l) (Value.iface 0 (Value.agg (List.toArray (cellsG l)))))) (by kernel_rfl) (by kernel_rfl) (by kernel_rfl) ?_ (fun cf => (by kernel_rfl))
        refine WpOps.keep 4 (Value.iface 24 (Value.iface (List.length l) (Value.iface 0 (Value.agg (List.toArray (cellsG l)))))) (by kernel_rfl) (by kernel_rfl) (by kernel_rfl) ?_ (fun cf => (by kernel_rfl))
        refine WpOps.keep 5 (Value.int IntKind.i64 0) (by kernel_rfl) (by kernel_rfl) (by kernel_rfl) ?_ (fun cf => (by kernel_rfl))
        refine WpOps.nil ?_
        refine thenK_at ?_
        refine Wp.ret ?_
        refine endK_retn [Value.iface 24 (Value.iface (List.length l) (Value.iface 0 (Value.agg (List.toArray (cellsG l))))), Value.int IntKind.i64 0] (Value.tuple #[Value.iface 24 (Value.iface (List.length l) (Value.iface 0 (Value.agg (List.toArray (cellsG l))))), Value.int IntKind.i64 0]) (by kernel_rfl) (by kernel_rfl) ?_
        kernel_rfl
end Go.Proofs.Ytpkkcpglbjbgfaa.D
