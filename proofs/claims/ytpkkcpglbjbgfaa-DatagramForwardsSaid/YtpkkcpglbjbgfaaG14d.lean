/- Forwarding: reports, datagram.Forward. -/
import Derived.Test.YtpkkcpglbjbgfaaFwLem
import Derived.Test.YtpkkcpglbjbgfaaG14c
import Derived.Test.YtpkkcpglbjbgfaaF14e
namespace Go.Proofs.Ytpkkcpglbjbgfaa.D
open Go.Fw Go.RowKit

/-- A report. -/
def min16 (n : Nat) : Int := if (n : Int) < 16 then (n : Int) else 16
def repD (g : Gr) : ByteArray := g.data.extract 0 (min16 g.data.size).toNat
def rep (x : Nat) (me : List Int) (g : Gr) (k : Int) : Gr := ⟨nx x, me, nx g.fx, g.fr, g.number, 60, 0, ((repD g).size : Int), k, false, false, false, repD g⟩
def repL (x : Nat) (me : List Int) (g : Gr) (k : Int) : List Gr := if g.wants = true then [rep x me g k] else []
def wx (g : Gr) : Nat := if g.wants = true then 0 else 2
def repV (t : Nat) (x : Nat) (me : List Int) (g : Gr) (k : Int) : Value := FS t (repL x me g k).length (wx g) (cellsG (repL x me g k)).toArray
theorem E24 : ∃ ti, E.types 24 = some ti := by
  obtain ⟨ti, h, _⟩ := Option.map_eq_some_iff.1 types24
  exact ⟨ti, h⟩
theorem f68 : E.funcs 68 = some Try.f68 := by kernel_rfl
theorem reports68 (x : Nat) (me : List Int) (g : Gr) (k : Int) (hx : x = 2 → me = []) (hl : me.length ≤ 17592186044416) (ok : OkGr g) (hd : g.data.size ≤ 4000) : Fun E 68 [sl x me, gv g, .int .i64 k] (repV 24 x me g k) := by
  refine Fun.ofN f68 rfl (of_decide_eq_true (by kernel_rfl)) rfl ?_
  unfold repV repL wx
  cases hw : g.wants with
  | false =>
    obtain ⟨ti, ht⟩ := E24
    refine Wp.seq ?_
    refine Wp.text ?_
    refine WpOps.made 4 (Value.pointer (some (Addr.mk 0 0 none))) (Blk.mk 24 true [Value.iface 3 (Value.iface (List.length (Gr.fr g)) (Value.iface (Gr.fx g) (Value.agg (List.toArray (List.map (fun n => Value.int IntKind.i64 n) (Gr.fr g)))))), Value.iface 3 (Value.iface (List.length (Gr.to g)) (Value.iface (Gr.tx g) (Value.agg (List.toArray (List.map (fun n => Value.int IntKind.i64 n) (Gr.to g)))))), Value.int IntKind.i64 (Gr.number g), Value.int IntKind.i64 (Gr.life g), Value.int IntKind.i64 (Gr.at' g), Value.int IntKind.i64 (Gr.total g), Value.int IntKind.i64 (Gr.report g), Value.bool (Gr.more g), Value.bool (Gr.may g), Value.bool (Gr.wants g), Value.string (Gr.data g)]) (by kernel_rfl) (by kernel_rfl) (by kernel_rfl) ?_ (fun cf => (by kernel_rfl))
    refine WpOps.keep 6 (Value.slice none 0 0) (by kernel_rfl) (by kernel_rfl) (by kernel_rfl) ?_ (fun cf => (by kernel_rfl))
    refine WpOps.nil ?_
    refine thenK_at ?_
    refine Wp.seq ?_
    refine Wp.seq ?_
    refine Wp.text ?_
    refine WpOps.keep 8 (Value.pointer (some (Addr.mk 0 9 none))) (by kernel_rfl) (by kernel_rfl) (by kernel_rfl) ?_ (fun cf => (by kernel_rfl))
    refine WpOps.keep 9 (Value.bool false) (by kernel_rfl) (by kernel_rfl) (by kernel_rfl) ?_ (fun cf => by_fact hw ((by kernel_rfl)))
    refine WpOps.keep 10 (Value.bool true) (by kernel_rfl) (by kernel_rfl) (by kernel_rfl) ?_ (fun cf => (by kernel_rfl))
    refine WpOps.nil ?_
    refine thenK_at ?_
    refine Wp.on (by kernel_rfl) ?_
    refine Wp.seq ?_
    refine Wp.text ?_
    refine WpOps.keep 6 (Value.slice none 0 0) (by kernel_rfl) (by kernel_rfl) (by kernel_rfl) ?_ (fun cf => (by kernel_rfl))
    refine WpOps.nil ?_
    refine thenK_at ?_
    refine Wp.ret ?_
    refine thenK_ret ?_
    refine endK_retn [Value.slice none 0 0] (Value.slice none 0 0) (by kernel_rfl) (by kernel_rfl) ?_
    exact ⟨_, rfl, .w (.c (.inr ⟨rfl, 24, ti, ht, rfl⟩))⟩
  | true =>
    have c1 := clone81 x me hx hl
    have c2 := clone81 g.fx g.fr ok.fx ok.fl
    have h0 : (0 ≤ if (g.data.size : Int) < 16 then (g.data.size : Int) else 16) ∧ (if (g.data.size : Int) < 16 then (g.data.size : Int) else 16) ≤ g.data.size := by split <;> omega
    refine Wp.seq ?_
    refine Wp.text ?_
    refine WpOps.made 4 (Value.pointer (some (Addr.mk 0 0 none))) (Blk.mk 24 true [Value.iface 3 (Value.iface (List.length (Gr.fr g)) (Value.iface (Gr.fx g) (Value.agg (List.toArray (List.map (fun n => Value.int IntKind.i64 n) (Gr.fr g)))))), Value.iface 3 (Value.iface (List.length (Gr.to g)) (Value.iface (Gr.tx g) (Value.agg (List.toArray (List.map (fun n => Value.int IntKind.i64 n) (Gr.to g)))))), Value.int IntKind.i64 (Gr.number g), Value.int IntKind.i64 (Gr.life g), Value.int IntKind.i64 (Gr.at' g), Value.int IntKind.i64 (Gr.total g), Value.int IntKind.i64 (Gr.report g), Value.bool (Gr.more g), Value.bool (Gr.may g), Value.bool (Gr.wants g), Value.string (Gr.data g)]) (by kernel_rfl) (by kernel_rfl) (by kernel_rfl) ?_ (fun cf => (by kernel_rfl))
    refine WpOps.keep 6 (Value.slice none 0 0) (by kernel_rfl) (by kernel_rfl) (by kernel_rfl) ?_ (fun cf => (by kernel_rfl))
    refine WpOps.nil ?_
    refine thenK_at ?_
    refine Wp.seq ?_
    refine Wp.seq ?_
    refine Wp.text ?_
    refine WpOps.keep 8 (Value.pointer (some (Addr.mk 0 9 none))) (by kernel_rfl) (by kernel_rfl) (by kernel_rfl) ?_ (fun cf => (by kernel_rfl))
    refine WpOps.keep 9 (Value.bool true) (by kernel_rfl) (by kernel_rfl) (by kernel_rfl) ?_ (fun cf => by_fact hw ((by kernel_rfl)))
    refine WpOps.keep 10 (Value.bool false) (by kernel_rfl) (by kernel_rfl) (by kernel_rfl) ?_ (fun cf => (by kernel_rfl))
    refine WpOps.nil ?_
    refine thenK_at ?_
    refine Wp.off (by kernel_rfl) ?_
    refine Wp.skip ?_
    refine thenK_at ?_
    refine Wp.seq ?_
    refine Wp.text ?_
    refine WpOps.keep 11 (Value.pointer (some (Addr.mk 0 10 none))) (by kernel_rfl) (by kernel_rfl) (by kernel_rfl) ?_ (fun cf => (by kernel_rfl))
    refine WpOps.keep 12 (Value.string (Gr.data g)) (by kernel_rfl) (by kernel_rfl) (by kernel_rfl) ?_ (fun cf => (by kernel_rfl))
    refine WpOps.keep 13 (Value.pointer (some (Addr.mk 0 10 none))) (by kernel_rfl) (by kernel_rfl) (by kernel_rfl) ?_ (fun cf => (by kernel_rfl))
    refine WpOps.keep 14 (Value.string (Gr.data g)) (by kernel_rfl) (by kernel_rfl) (by kernel_rfl) ?_ (fun cf => (by kernel_rfl))
    refine WpOps.keep 15 (Value.int IntKind.i64 (↑(ByteArray.size (Gr.data g)) : Int)) (by kernel_rfl) (by kernel_rfl) (by kernel_rfl) ?_ (fun cf => (by kernel_rfl))
    refine WpOps.keep 16 (Value.int IntKind.i64 (if (↑(ByteArray.size (Gr.data g)) : Int) < 16 then (↑(ByteArray.size (Gr.data g)) : Int) else 16)) (by kernel_rfl) (by kernel_rfl) (by kernel_rfl) ?_ (fun cf => (by kernel_rfl))
    refine WpOps.keep 17 (Value.string (ByteArray.extract (Gr.data g) 0 (Int.toNat (if (↑(ByteArray.size (Gr.data g)) : Int) < 16 then (↑(ByteArray.size (Gr.data g)) : Int) else 16)))) (by kernel_rfl) (by kernel_rfl) (by kernel_rfl) ?_ (fun cf => o_cut_hi h0 (by kernel_rfl) (by kernel_rfl) (by kernel_rfl))
    refine WpOps.keep 7 (Value.string (ByteArray.extract (Gr.data g) 0 (Int.toNat (if (↑(ByteArray.size (Gr.data g)) : Int) < 16 then (↑(ByteArray.size (Gr.data g)) : Int) else 16)))) (by kernel_rfl) (by kernel_rfl) (by kernel_rfl) ?_ (fun cf => (by kernel_rfl))
    refine WpOps.nil ?_
    refine thenK_at ?_
    refine Wp.seq ?_
    refine Wp.region (by kernel_rfl) ?_
    refine WpOps.keep 18 (Value.iface 3 (Value.iface (List.length me) (Value.iface x (Value.agg (List.toArray (List.map (fun n => Value.int IntKind.i64 n) me)))))) (by kernel_rfl) (by kernel_rfl) (by kernel_rfl) ?_ (fun cf => (by kernel_rfl))
    refine WpOps.framed 19 81 [Value.iface 3 (Value.iface (List.length me) (Value.iface x (Value.agg (List.toArray (List.map (fun n => Value.int IntKind.i64 n) me)))))] (by kernel_rfl) (by kernel_rfl) (by kernel_rfl) (by kernel_rfl) (by kernel_rfl) (fun cf => (by kernel_rfl)) ?_
    refine WpFun.of (c1) ?_
    refine WpOps.keep 20 (Value.pointer (some (Addr.mk 0 0 none))) (by kernel_rfl) (by kernel_rfl) (by kernel_rfl) ?_ (fun cf => (by kernel_rfl))
    refine WpOps.keep 21 (Value.iface 3 (Value.iface (List.length (Gr.fr g)) (Value.iface (Gr.fx g) (Value.agg (List.toArray (List.map (fun n => Value.int IntKind.i64 n) (Gr.fr g))))))) (by kernel_rfl) (by kernel_rfl) (by kernel_rfl) ?_ (fun cf => (by kernel_rfl))
    refine WpOps.framed 22 81 [Value.iface 3 (Value.iface (List.length (Gr.fr g)) (Value.iface (Gr.fx g) (Value.agg (List.toArray (List.map (fun n => Value.int IntKind.i64 n) (Gr.fr g))))))] (by kernel_rfl) (by kernel_rfl) (by kernel_rfl) (by kernel_rfl) (by kernel_rfl) (fun cf => (by kernel_rfl)) ?_
    refine WpFun.of (c2) ?_
    refine WpOps.keep 23 (Value.pointer (some (Addr.mk 0 2 none))) (by kernel_rfl) (by kernel_rfl) (by kernel_rfl) ?_ (fun cf => (by kernel_rfl))
    refine WpOps.keep 24 (Value.int IntKind.i64 (Gr.number g)) (by kernel_rfl) (by kernel_rfl) (by kernel_rfl) ?_ (fun cf => (by kernel_rfl))
    refine WpOps.keep 25 (Value.string (ByteArray.extract (Gr.data g) 0 (Int.toNat (if (↑(ByteArray.size (Gr.data g)) : Int) < 16 then (↑(ByteArray.size (Gr.data g)) : Int) else 16)))) (by kernel_rfl) (by kernel_rfl) (by kernel_rfl) ?_ (fun cf => (by kernel_rfl))
    refine WpOps.keep 26 (Value.int IntKind.i64 (↑(ByteArray.size (ByteArray.extract (Gr.data g) 0 (Int.toNat (if (↑(ByteArray.size (Gr.data g)) : Int) < 16 then (↑(ByteArray.size (Gr.data g)) : Int) else 16)))) : Int)) (by kernel_rfl) (by kernel_rfl) (by kernel_rfl) ?_ (fun cf => (by kernel_rfl))
    refine WpOps.keep 27 (Value.int IntKind.i64 k) (by kernel_rfl) (by kernel_rfl) (by kernel_rfl) ?_ (fun cf => (by kernel_rfl))
    refine WpOps.keep 28 (Value.string (ByteArray.extract (Gr.data g) 0 (Int.toNat (if (↑(ByteArray.size (Gr.data g)) : Int) < 16 then (↑(ByteArray.size (Gr.data g)) : Int) else 16)))) (by kernel_rfl) (by kernel_rfl) (by kernel_rfl) ?_ (fun cf => (by kernel_rfl))
    refine WpOps.keep 29 (Value.agg #[Value.iface 3 (Value.iface (List.length me) (Value.iface (nx x) (Value.agg (List.toArray (List.map (fun n => Value.int IntKind.i64 n) me))))), Value.iface 3 (Value.iface (List.length (Gr.fr g)) (Value.iface (nx (Gr.fx g)) (Value.agg (List.toArray (List.map (fun n => Value.int IntKind.i64 n) (Gr.fr g)))))), Value.int IntKind.i64 (Gr.number g), Value.int IntKind.i64 60, Value.int IntKind.i64 0, Value.int IntKind.i64 (↑(ByteArray.size (ByteArray.extract (Gr.data g) 0 (Int.toNat (if (↑(ByteArray.size (Gr.data g)) : Int) < 16 then (↑(ByteArray.size (Gr.data g)) : Int) else 16)))) : Int), Value.int IntKind.i64 k, Value.bool false, Value.bool false, Value.bool false, Value.string (ByteArray.extract (Gr.data g) 0 (Int.toNat (if (↑(ByteArray.size (Gr.data g)) : Int) < 16 then (↑(ByteArray.size (Gr.data g)) : Int) else 16)))]) (by kernel_rfl) (by kernel_rfl) (by kernel_rfl) ?_ (fun cf => (by kernel_rfl))
    refine WpOps.made 30 (Value.slice (some (Addr.mk 1 0 none)) 1 1) (Blk.mk 24 true [Value.iface 3 (Value.iface (List.length me) (Value.iface (nx x) (Value.agg (List.toArray (List.map (fun n => Value.int IntKind.i64 n) me))))), Value.iface 3 (Value.iface (List.length (Gr.fr g)) (Value.iface (nx (Gr.fx g)) (Value.agg (List.toArray (List.map (fun n => Value.int IntKind.i64 n) (Gr.fr g)))))), Value.int IntKind.i64 (Gr.number g), Value.int IntKind.i64 60, Value.int IntKind.i64 0, Value.int IntKind.i64 (↑(ByteArray.size (ByteArray.extract (Gr.data g) 0 (Int.toNat (if (↑(ByteArray.size (Gr.data g)) : Int) < 16 then (↑(ByteArray.size (Gr.data g)) : Int) else 16)))) : Int), Value.int IntKind.i64 k, Value.bool false, Value.bool false, Value.bool false, Value.string (ByteArray.extract (Gr.data g) 0 (Int.toNat (if (↑(ByteArray.size (Gr.data g)) : Int) < 16 then (↑(ByteArray.size (Gr.data g)) : Int) else 16)))]) (by kernel_rfl) (by kernel_rfl) (by kernel_rfl) ?_ (fun cf => (by kernel_rfl))
    refine WpOps.keep 6 (Value.slice (some (Addr.mk 1 0 none)) 1 1) (by kernel_rfl) (by kernel_rfl) (by kernel_rfl) ?_ (fun cf => (by kernel_rfl))
    refine WpOps.nil ?_
    refine thenK_at ?_
    refine Wp.ret ?_
    refine endK_retn [Value.slice (some (Addr.mk 1 0 none)) 1 1] (Value.slice (some (Addr.mk 1 0 none)) 1 1) (by kernel_rfl) (by kernel_rfl) ?_
    refine ⟨FS 24 1 0 (cellsG [rep x me g k]).toArray, ?_, .w (.c (.inl rfl))⟩
    kernel_rfl
/-- What comes to what: ours. -/
structure Fw where
  out : Value
  line : Int
  back : Value
  err : Int
def fwV (f : Fw) : Value := .tuple #[f.out, .int .i64 f.line, f.back, .int .i64 f.err]
def nilV : Value := .slice none 0 0
def lifeDown (g : Gr) : Gr := { g with life := IntKind.i64.wrap (g.life - 1) }
/-- Forward, where all is valid. -/
def fwd (t x : Nat) (me : List Int) (l : List En) (ls : List Ln) (g : Gr) : Fw :=
  if g.life ≤ 1 then ⟨nilV, -1, repV t x me g 1, 0⟩ else match found l g.to with
    | none => ⟨nilV, -1, repV t x me g 2, 0⟩
    | some e => if e.to ≥ ls.length then ⟨nilV, 0, nilV, 1⟩ else match cutL (lifeDown g) (ls.getD e.to.toNat ⟨0, 0⟩).size with
      | none => ⟨nilV, -1, repV t x me (lifeDown g) 3, 0⟩
      | some out => ⟨grams t out, e.to, nilV, 0⟩
def okF (me : List Int) (l : List En) (ls : List Ln) (g : Gr) : Bool := isAddr me && !ls.any badL && okG g && tblOk l
def fwAll (t x : Nat) (me : List Int) (l : List En) (ls : List Ln) (g : Gr) : Fw := if okF me l ls g = true then fwd t x me l ls g else ⟨nilV, 0, nilV, 1⟩
/-- A case. -/
def fcC (x xt xl : Nat) (me : List Int) (l : List En) (ls : List Ln) (g : Gr) : List Value := [sl x me, ents 98 xt l, lns 76 xl ls] ++ gc g
theorem fcC_flat (x xt xl : Nat) (me : List Int) (l : List En) (ls : List Ln) (g : Gr) : (fcC x xt xl me l ls g).all flat = true := rfl
def fcV (x xt xl : Nat) (me : List Int) (l : List En) (ls : List Ln) (g : Gr) : Value := .agg (fcC x xt xl me l ls g).toArray
end Go.Proofs.Ytpkkcpglbjbgfaa.D
