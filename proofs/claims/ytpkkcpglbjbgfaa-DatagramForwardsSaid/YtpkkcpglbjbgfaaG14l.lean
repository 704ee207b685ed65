/- The law DatagramForwards. -/
import Derived.Test.YtpkkcpglbjbgfaaFwLem
import Derived.Test.YtpkkcpglbjbgfaaG14k
namespace Go.Proofs.Ytpkkcpglbjbgfaa.D
open Go.Fw Go.RowKit

theorem lc_flat (l : List Ln) : (l.flatMap lc).all flat = true := by
  rw [List.all_eq_true]
  intro v hv
  obtain ⟨e, _, he⟩ := List.mem_flatMap.1 hv
  exact List.all_eq_true.1 (show (lc e).all flat = true from rfl) v he
theorem lc_succ (l : List Ln) (k : Nat) (hk : k < l.length) : (l.take (k + 1)).flatMap lc = (l.take k).flatMap lc ++ lc (l[k]'hk) := by
  rw [List.take_add_one, List.getElem?_eq_getElem hk, List.flatMap_append]
  simp
theorem lc_all (l : List Ln) (k : Nat) (hk : k ≤ l.length) : cellsAt ((l.take k).flatMap lc) 0 (k * 2) = some ((l.take k).flatMap lc) := by
  have h := flat_len lc 2 (fun _ => rfl) (l.take k)
  rw [List.length_take, Nat.min_eq_left hk] at h
  simp only [cellsAt, Nat.zero_add, h, Nat.le_refl, if_true, List.drop_zero]
  rw [List.take_of_length_le (by omega)]
theorem types77 : (E.types 77).map TI.size = some 2 := by kernel_rfl
theorem E77 : ∃ ti, E.types 77 = some ti := by
  obtain ⟨ti, h, _⟩ := Option.map_eq_some_iff.1 types77
  exact ⟨ti, h⟩
theorem mapO_c {f : Value → Option Value} {v u : Value} {l m : List Value} (h1 : f v = some u) (h2 : mapO f l = some m) : mapO f (v :: l) = some (u :: m) := by
  simp only [mapO, h1, h2]
theorem Fun.nilV {f : FuncId} {args : List Value} {u0 u : Value} (c : Fun E f args u0) (n : NilV E u0 u) (hu : iceV E Heap.none u = some u) : Fun E f args u := by
  intro ok
  obtain ⟨hf, _, hc⟩ := c ok
  refine ⟨hf, hu, fun base μ w args' R hb ha => Calls.mono (hc base μ w args' R hb ha) fun e w' he => ?_⟩
  obtain ⟨v', μ', h1, h2, h3, h4⟩ := he
  exact ⟨v', μ', h1, h2, h3, h4.nilV n⟩
theorem cut_pos {g : Gr} {size : Int} {o : List Gr} (hs : 1 ≤ size) (hc : cutL g size = some o) : 0 < o.length := by
  unfold cutL at hc
  split at hc
  · obtain rfl := Option.some.inj hc
    exact Nat.one_pos
  · rename_i hn
    split at hc
    · rename_i h
      obtain rfl := Option.some.inj hc
      rw [pcs_len]
      unfold many
      have h0 : 0 < s8 size := Nat.pos_of_ne_zero h.2
      exact Nat.div_pos (by omega) h0
    · cases hc
/-- Reports, and the same of the document. -/
theorem all_rep (x : Nat) (me : List Int) (g : Gr) (k : Int) (hm : me.length ≤ 17592186044416) (hx : x = 2 → me = []) (og : OkGr g) : Fun E 18 [repV 24 x me g k] (repV 32 0 me (toR g) k) ∧ Fun E 17 [repV 32 0 me (toR g) k, repV 32 0 me (toR g) k] (.bool true) := by
  unfold repV repL wx
  have hw0 : (toR g).wants = g.wants := rfl
  rw [hw0]
  cases hw : g.wants with
  | false =>
    obtain ⟨ti, ht⟩ := E32
    exact ⟨Fun.nilV (Fun.closed 60 (.slice none 0 0) (by kernel_rfl)) (.w (.c (.inr ⟨rfl, 32, ti, ht, rfl⟩))) rfl, Fun.closed 60 _ (by kernel_rfl)⟩
  | true =>
    have okr : OkGr (rep x me g k) := by
      refine ⟨fun h => ?_, fun h => ?_, hm, og.fl⟩
      · have : x = 2 := by unfold rep nx at h; dsimp only at h; split at h <;> omega
        exact hx this
      · have : g.fx = 2 := by unfold rep nx at h; dsimp only at h; split at h <;> omega
        exact og.fx this
    have c1 := all18 [rep x me g k] Nat.one_pos (show 1 ≤ 4000 by decide) (fun p hp => by
      obtain rfl := List.mem_singleton.1 hp
      exact okr)
    have c2 := sameAll17 [toR (rep x me g k)] (show 1 ≤ 9223372036854775806 by decide) (fun p hp => by
      obtain rfl := List.mem_singleton.1 hp
      exact ok_toR okr)
    exact ⟨c1, c2⟩
theorem cut_in {g : Gr} {size : Int} {o : List Gr} (og : OkGr g) (hc : cutL g size = some o) : ∀ p ∈ o, OkGr p ∧ p.life = g.life := by
  unfold cutL at hc
  split at hc
  · obtain rfl := Option.some.inj hc
    intro p hp
    obtain rfl := List.mem_singleton.1 hp
    refine ⟨⟨fun h => ?_, fun h => ?_, og.fl, og.tl⟩, rfl⟩
    · have : g.fx = 2 := by unfold ownG nx at h; dsimp only at h; split at h <;> omega
      exact og.fx this
    · have : g.tx = 2 := by unfold ownG nx at h; dsimp only at h; split at h <;> omega
      exact og.tx this
  · split at hc
    · obtain rfl := Option.some.inj hc
      intro p hp
      unfold pcs at hp
      obtain ⟨k, _, rfl⟩ := List.mem_map.1 hp
      refine ⟨⟨fun h => ?_, fun h => ?_, og.fl, og.tl⟩, rfl⟩
      · have : g.fx = 2 := by unfold piece ownG nx at h; dsimp only at h; split at h <;> omega
        exact og.fx this
      · have : g.tx = 2 := by unfold piece ownG nx at h; dsimp only at h; split at h <;> omega
        exact og.tx this
    · cases hc
theorem cut_len {g : Gr} {size : Int} {o : List Gr} (hd : g.data.size ≤ 4000) (hc : cutL g size = some o) : o.length ≤ 4000 := by
  unfold cutL at hc
  split at hc
  · obtain rfl := Option.some.inj hc
    exact (by decide : 1 ≤ 4000)
  · split at hc
    · rename_i h
      obtain rfl := Option.some.inj hc
      rw [pcs_len]
      unfold many
      have h0 : 0 < s8 size := Nat.pos_of_ne_zero h.2
      refine Nat.le_trans (Nat.le_of_lt_succ ((Nat.div_lt_iff_lt_mul h0).2 ?_)) hd
      have : g.data.size * 1 ≤ g.data.size * s8 size := Nat.mul_le_mul_left _ h0
      rw [Nat.succ_mul]
      omega
    · cases hc
theorem f10 : E.funcs 10 = some Try.f10 := by kernel_rfl
section
variable (x xt xl : Nat) (me : List Int) (l : List En) (ls : List Ln) (g : Gr) (y : Nat)
theorem law10_nil (og : OkGr g) (c38 : Fun E 38 [ents 98 xt l] (ents 135 y (l.map e0))) (hls : ls = []) (line err : Int) (n1 x1 n2 x2 n3 x3 n4 x4 n5 x5 n6 x6 : Nat) (q1 q2 q3 q4 q5 q6 : Array Value) (a1 : Fun E 18 [FS 24 n1 x1 q1] (FS 32 n2 x2 q2)) (a2 : Fun E 17 [FS 32 n2 x2 q2, FS 32 n3 x3 q3] (.bool true)) (b1 : Fun E 18 [FS 24 n4 x4 q4] (FS 32 n5 x5 q5)) (b2 : Fun E 17 [FS 32 n5 x5 q5, FS 32 n6 x6 q6] (.bool true))
    (c36 : Fun E 36 [sl x me, ents 98 xt l, lns 76 xl ls, gv g] (.tuple #[FS 24 n1 x1 q1, .int .i64 line, FS 24 n4 x4 q4, .int .i64 err]))
    (c37 : Fun E 37 [sl x me, ents 135 y (l.map e0), lns 77 2 ls, gv (toR g)] (.tuple #[FS 32 n3 x3 q3, .int .i64 line, FS 32 n6 x6 q6, .int .i64 err])) : Fun E 10 [fcV x xt xl me l ls g] (.bool true) := by
  refine Fun.of f10 rfl (of_decide_eq_true (by kernel_rfl)) rfl ?_
  have e77 : lns 77 2 ls = FS 77 0 2 #[] := by rw [hls]; rfl
  rw [e77] at c37
  have hl0 : decide ((0 : Int) < (ls.length : Int)) = false := by rw [hls]; rfl
  have c1 := To16 g og
  have c9 := sane19
  have z1 : (line == line) = true := beq_self_eq_true _
  have z2 : (err == err) = true := beq_self_eq_true _
  obtain ⟨ti, ht⟩ := E77
  refine Wp.seq ?_
  refine Wp.text ?_
  refine WpOps.made 1 (Value.pointer (some (Addr.mk 0 0 none))) (Blk.mk 73 true [Value.iface 3 (Value.iface (List.length me) (Value.iface x (Value.agg (List.toArray (List.map (fun n => Value.int IntKind.i64 n) me))))), Value.iface 98 (Value.iface (List.length l) (Value.iface xt (Value.agg (List.toArray (List.flatMap ec l))))), Value.iface 76 (Value.iface (List.length ls) (Value.iface xl (Value.agg (List.toArray (List.flatMap lc ls))))), Value.iface 3 (Value.iface (List.length (Gr.fr g)) (Value.iface (Gr.fx g) (Value.agg (List.toArray (List.map (fun n => Value.int IntKind.i64 n) (Gr.fr g)))))), Value.iface 3 (Value.iface (List.length (Gr.to g)) (Value.iface (Gr.tx g) (Value.agg (List.toArray (List.map (fun n => Value.int IntKind.i64 n) (Gr.to g)))))), Value.int IntKind.i64 (Gr.number g), Value.int IntKind.i64 (Gr.life g), Value.int IntKind.i64 (Gr.at' g), Value.int IntKind.i64 (Gr.total g), Value.int IntKind.i64 (Gr.report g), Value.bool (Gr.more g), Value.bool (Gr.may g), Value.bool (Gr.wants g), Value.string (Gr.data g)]) (by kernel_rfl) (by kernel_rfl) (by kernel_rfl) ?_ (fun cf => (by kernel_rfl))
  refine WpOps.keep 2 (Value.bool false) (by kernel_rfl) (by kernel_rfl) (by kernel_rfl) ?_ (fun cf => (by kernel_rfl))
  refine WpOps.nil ?_
  refine thenK_at ?_
  refine Wp.seq ?_
  refine Wp.text ?_
  refine WpOps.keep 3 (Value.slice none 0 0) (by kernel_rfl) (by kernel_rfl) (by kernel_rfl) ?_ (fun cf => (by kernel_rfl))
  refine WpOps.nil ?_
  refine thenK_at ?_
  refine Wp.seq ?_
  refine Wp.seq ?_
  refine Wp.text ?_
  refine WpOps.keep 4 (Value.int IntKind.i64 0) (by kernel_rfl) (by kernel_rfl) (by kernel_rfl) ?_ (fun cf => (by kernel_rfl))
  refine WpOps.nil ?_
  refine thenK_at ?_
  refine Wp.block ?_
  refine Wp.unroll (WpL.step ?_)
  refine Wp.seq ?_
  refine Wp.seq ?_
  refine Wp.text ?_
  refine WpOps.keep 13 (Value.int IntKind.i64 0) (by kernel_rfl) (by kernel_rfl) (by kernel_rfl) ?_ (fun cf => (by kernel_rfl))
  refine WpOps.keep 14 (Value.pointer (some (Addr.mk 0 2 none))) (by kernel_rfl) (by kernel_rfl) (by kernel_rfl) ?_ (fun cf => (by kernel_rfl))
  refine WpOps.keep 15 (Value.iface 76 (Value.iface (List.length ls) (Value.iface xl (Value.agg (List.toArray (List.flatMap lc ls)))))) (by kernel_rfl) (by kernel_rfl) (by kernel_rfl) ?_ (fun cf => (by kernel_rfl))
  refine WpOps.keep 16 (Value.int IntKind.i64 (↑(List.length ls) : Int)) (by kernel_rfl) (by kernel_rfl) (by kernel_rfl) ?_ (fun cf => (by kernel_rfl))
  refine WpOps.keep 17 (Value.bool false) (by kernel_rfl) (by kernel_rfl) (by kernel_rfl) ?_ (fun cf => by_fact hl0 ((by kernel_rfl)))
  refine WpOps.nil ?_
  refine thenK_at ?_
  refine Wp.off (by kernel_rfl) ?_
  refine Wp.exit ?_
  refine thenK_exit ?_
  refine thenK_exit ?_
  refine blockK_hit ?_
  refine thenK_at ?_
  refine Wp.seq ?_
  refine Wp.text ?_
  refine WpOps.keep 37 (Value.pointer (some (Addr.mk 0 0 none))) (by kernel_rfl) (by kernel_rfl) (by kernel_rfl) ?_ (fun cf => (by kernel_rfl))
  refine WpOps.keep 38 (Value.iface 3 (Value.iface (List.length me) (Value.iface x (Value.agg (List.toArray (List.map (fun n => Value.int IntKind.i64 n) me)))))) (by kernel_rfl) (by kernel_rfl) (by kernel_rfl) ?_ (fun cf => (by kernel_rfl))
  refine WpOps.keep 39 (Value.pointer (some (Addr.mk 0 1 none))) (by kernel_rfl) (by kernel_rfl) (by kernel_rfl) ?_ (fun cf => (by kernel_rfl))
  refine WpOps.keep 40 (Value.iface 98 (Value.iface (List.length l) (Value.iface xt (Value.agg (List.toArray (List.flatMap ec l)))))) (by kernel_rfl) (by kernel_rfl) (by kernel_rfl) ?_ (fun cf => (by kernel_rfl))
  refine WpOps.keep 41 (Value.pointer (some (Addr.mk 0 2 none))) (by kernel_rfl) (by kernel_rfl) (by kernel_rfl) ?_ (fun cf => (by kernel_rfl))
  refine WpOps.keep 42 (Value.iface 76 (Value.iface (List.length ls) (Value.iface xl (Value.agg (List.toArray (List.flatMap lc ls)))))) (by kernel_rfl) (by kernel_rfl) (by kernel_rfl) ?_ (fun cf => (by kernel_rfl))
  refine WpOps.keep 43 (Value.pointer (some (Addr.mk 0 3 none))) (by kernel_rfl) (by kernel_rfl) (by kernel_rfl) ?_ (fun cf => (by kernel_rfl))
  refine WpOps.keep 44 (Value.agg #[Value.iface 3 (Value.iface (List.length (Gr.fr g)) (Value.iface (Gr.fx g) (Value.agg (List.toArray (List.map (fun n => Value.int IntKind.i64 n) (Gr.fr g)))))), Value.iface 3 (Value.iface (List.length (Gr.to g)) (Value.iface (Gr.tx g) (Value.agg (List.toArray (List.map (fun n => Value.int IntKind.i64 n) (Gr.to g)))))), Value.int IntKind.i64 (Gr.number g), Value.int IntKind.i64 (Gr.life g), Value.int IntKind.i64 (Gr.at' g), Value.int IntKind.i64 (Gr.total g), Value.int IntKind.i64 (Gr.report g), Value.bool (Gr.more g), Value.bool (Gr.may g), Value.bool (Gr.wants g), Value.string (Gr.data g)]) (by kernel_rfl) (by kernel_rfl) (by kernel_rfl) ?_ (fun cf => (by kernel_rfl))
  refine WpOps.called 45 36 [Value.iface 3 (Value.iface (List.length me) (Value.iface x (Value.agg (List.toArray (List.map (fun n => Value.int IntKind.i64 n) me))))), Value.iface 98 (Value.iface (List.length l) (Value.iface xt (Value.agg (List.toArray (List.flatMap ec l))))), Value.iface 76 (Value.iface (List.length ls) (Value.iface xl (Value.agg (List.toArray (List.flatMap lc ls))))), Value.agg #[Value.iface 3 (Value.iface (List.length (Gr.fr g)) (Value.iface (Gr.fx g) (Value.agg (List.toArray (List.map (fun n => Value.int IntKind.i64 n) (Gr.fr g)))))), Value.iface 3 (Value.iface (List.length (Gr.to g)) (Value.iface (Gr.tx g) (Value.agg (List.toArray (List.map (fun n => Value.int IntKind.i64 n) (Gr.to g)))))), Value.int IntKind.i64 (Gr.number g), Value.int IntKind.i64 (Gr.life g), Value.int IntKind.i64 (Gr.at' g), Value.int IntKind.i64 (Gr.total g), Value.int IntKind.i64 (Gr.report g), Value.bool (Gr.more g), Value.bool (Gr.may g), Value.bool (Gr.wants g), Value.string (Gr.data g)]] (by kernel_rfl) (by kernel_rfl) (by kernel_rfl) (by kernel_rfl) (fun cf => (by kernel_rfl)) ?_
  refine WpCall.consume [0] (c36) (by kernel_rfl) (by kernel_rfl) ?_
  refine WpOps.keep 36 (Value.tuple #[FS 24 n1 x1 q1, Value.int IntKind.i64 line, FS 24 n4 x4 q4, Value.int IntKind.i64 err]) (by kernel_rfl) (by kernel_rfl) (by kernel_rfl) ?_ (fun cf => (by kernel_rfl))
  refine WpOps.keep 46 (Value.iface 24 (Value.iface n1 (Value.iface x1 (Value.agg q1)))) (by kernel_rfl) (by kernel_rfl) (by kernel_rfl) ?_ (fun cf => (by kernel_rfl))
  refine WpOps.keep 47 (Value.int IntKind.i64 line) (by kernel_rfl) (by kernel_rfl) (by kernel_rfl) ?_ (fun cf => (by kernel_rfl))
  refine WpOps.keep 48 (Value.iface 24 (Value.iface n4 (Value.iface x4 (Value.agg q4)))) (by kernel_rfl) (by kernel_rfl) (by kernel_rfl) ?_ (fun cf => (by kernel_rfl))
  refine WpOps.keep 49 (Value.int IntKind.i64 err) (by kernel_rfl) (by kernel_rfl) (by kernel_rfl) ?_ (fun cf => (by kernel_rfl))
  refine WpOps.keep 5 (Value.iface 24 (Value.iface n1 (Value.iface x1 (Value.agg q1)))) (by kernel_rfl) (by kernel_rfl) (by kernel_rfl) ?_ (fun cf => (by kernel_rfl))
  refine WpOps.keep 6 (Value.int IntKind.i64 line) (by kernel_rfl) (by kernel_rfl) (by kernel_rfl) ?_ (fun cf => (by kernel_rfl))
  refine WpOps.keep 7 (Value.iface 24 (Value.iface n4 (Value.iface x4 (Value.agg q4)))) (by kernel_rfl) (by kernel_rfl) (by kernel_rfl) ?_ (fun cf => (by kernel_rfl))
  refine WpOps.keep 8 (Value.int IntKind.i64 err) (by kernel_rfl) (by kernel_rfl) (by kernel_rfl) ?_ (fun cf => (by kernel_rfl))
  refine WpOps.nil ?_
  refine thenK_at ?_
  refine Wp.seq ?_
  refine Wp.region (by kernel_rfl) ?_
  refine WpOps.keep 51 (Value.pointer (some (Addr.mk 0 0 none))) (by kernel_rfl) (by kernel_rfl) (by kernel_rfl) ?_ (fun cf => (by kernel_rfl))
  refine WpOps.keep 52 (Value.iface 3 (Value.iface (List.length me) (Value.iface x (Value.agg (List.toArray (List.map (fun n => Value.int IntKind.i64 n) me)))))) (by kernel_rfl) (by kernel_rfl) (by kernel_rfl) ?_ (fun cf => (by kernel_rfl))
  refine WpOps.keep 53 (Value.pointer (some (Addr.mk 0 1 none))) (by kernel_rfl) (by kernel_rfl) (by kernel_rfl) ?_ (fun cf => (by kernel_rfl))
  refine WpOps.keep 54 (Value.iface 98 (Value.iface (List.length l) (Value.iface xt (Value.agg (List.toArray (List.flatMap ec l)))))) (by kernel_rfl) (by kernel_rfl) (by kernel_rfl) ?_ (fun cf => (by kernel_rfl))
  refine WpOps.framed 55 38 [Value.iface 98 (Value.iface (List.length l) (Value.iface xt (Value.agg (List.toArray (List.flatMap ec l)))))] (by kernel_rfl) (by kernel_rfl) (by kernel_rfl) (by kernel_rfl) (by kernel_rfl) (fun cf => (by kernel_rfl)) ?_
  refine WpFun.of (c38) ?_
  refine WpOps.keep 56 (Value.slice none 0 0) (by kernel_rfl) (by kernel_rfl) (by kernel_rfl) ?_ (fun cf => (by kernel_rfl))
  refine WpOps.keep 57 (Value.pointer (some (Addr.mk 0 3 none))) (by kernel_rfl) (by kernel_rfl) (by kernel_rfl) ?_ (fun cf => (by kernel_rfl))
  refine WpOps.keep 58 (Value.agg #[Value.iface 3 (Value.iface (List.length (Gr.fr g)) (Value.iface (Gr.fx g) (Value.agg (List.toArray (List.map (fun n => Value.int IntKind.i64 n) (Gr.fr g)))))), Value.iface 3 (Value.iface (List.length (Gr.to g)) (Value.iface (Gr.tx g) (Value.agg (List.toArray (List.map (fun n => Value.int IntKind.i64 n) (Gr.to g)))))), Value.int IntKind.i64 (Gr.number g), Value.int IntKind.i64 (Gr.life g), Value.int IntKind.i64 (Gr.at' g), Value.int IntKind.i64 (Gr.total g), Value.int IntKind.i64 (Gr.report g), Value.bool (Gr.more g), Value.bool (Gr.may g), Value.bool (Gr.wants g), Value.string (Gr.data g)]) (by kernel_rfl) (by kernel_rfl) (by kernel_rfl) ?_ (fun cf => (by kernel_rfl))
  refine WpOps.framed 59 16 [Value.agg #[Value.iface 3 (Value.iface (List.length (Gr.fr g)) (Value.iface (Gr.fx g) (Value.agg (List.toArray (List.map (fun n => Value.int IntKind.i64 n) (Gr.fr g)))))), Value.iface 3 (Value.iface (List.length (Gr.to g)) (Value.iface (Gr.tx g) (Value.agg (List.toArray (List.map (fun n => Value.int IntKind.i64 n) (Gr.to g)))))), Value.int IntKind.i64 (Gr.number g), Value.int IntKind.i64 (Gr.life g), Value.int IntKind.i64 (Gr.at' g), Value.int IntKind.i64 (Gr.total g), Value.int IntKind.i64 (Gr.report g), Value.bool (Gr.more g), Value.bool (Gr.may g), Value.bool (Gr.wants g), Value.string (Gr.data g)]] (by kernel_rfl) (by kernel_rfl) (by kernel_rfl) (by kernel_rfl) (by kernel_rfl) (fun cf => (by kernel_rfl)) ?_
  refine WpFun.of (c1) ?_
  refine WpOps.called 60 37 [Value.iface 3 (Value.iface (List.length me) (Value.iface x (Value.agg (List.toArray (List.map (fun n => Value.int IntKind.i64 n) me))))), Value.iface 135 (Value.iface (List.length (List.map e0 l)) (Value.iface y (Value.agg (List.toArray (List.flatMap ec (List.map e0 l)))))), Value.slice none 0 0, Value.agg (List.toArray (gc (toR g)))] (by kernel_rfl) (by kernel_rfl) (by kernel_rfl) (by kernel_rfl) (fun cf => (by kernel_rfl)) ?_
  refine WpCall.consumeN (args2 := [sl x me, ents 135 y (l.map e0), .slice none 0 0, gv (toR g)]) [0] c37 (by kernel_rfl) (.cons (NilA.rfl' _) (.cons (NilA.rfl' _) (.cons (.v (.w (.c (.inr ⟨rfl, 77, ti, ht, rfl⟩)))) (.cons (NilA.rfl' _) .nil)))) (by kernel_rfl) ?_
  refine WpOps.keep 50 (Value.tuple #[FS 32 n3 x3 q3, Value.int IntKind.i64 line, FS 32 n6 x6 q6, Value.int IntKind.i64 err]) (by kernel_rfl) (by kernel_rfl) (by kernel_rfl) ?_ (fun cf => (by kernel_rfl))
  refine WpOps.keep 61 (Value.iface 32 (Value.iface n3 (Value.iface x3 (Value.agg q3)))) (by kernel_rfl) (by kernel_rfl) (by kernel_rfl) ?_ (fun cf => (by kernel_rfl))
  refine WpOps.keep 62 (Value.int IntKind.i64 line) (by kernel_rfl) (by kernel_rfl) (by kernel_rfl) ?_ (fun cf => (by kernel_rfl))
  refine WpOps.keep 63 (Value.iface 32 (Value.iface n6 (Value.iface x6 (Value.agg q6)))) (by kernel_rfl) (by kernel_rfl) (by kernel_rfl) ?_ (fun cf => (by kernel_rfl))
  refine WpOps.keep 64 (Value.int IntKind.i64 err) (by kernel_rfl) (by kernel_rfl) (by kernel_rfl) ?_ (fun cf => (by kernel_rfl))
  refine WpOps.keep 9 (Value.iface 32 (Value.iface n3 (Value.iface x3 (Value.agg q3)))) (by kernel_rfl) (by kernel_rfl) (by kernel_rfl) ?_ (fun cf => (by kernel_rfl))
  refine WpOps.keep 10 (Value.int IntKind.i64 line) (by kernel_rfl) (by kernel_rfl) (by kernel_rfl) ?_ (fun cf => (by kernel_rfl))
  refine WpOps.keep 11 (Value.iface 32 (Value.iface n6 (Value.iface x6 (Value.agg q6)))) (by kernel_rfl) (by kernel_rfl) (by kernel_rfl) ?_ (fun cf => (by kernel_rfl))
  refine WpOps.keep 12 (Value.int IntKind.i64 err) (by kernel_rfl) (by kernel_rfl) (by kernel_rfl) ?_ (fun cf => (by kernel_rfl))
  refine WpOps.nil ?_
  refine thenK_at ?_
  refine Wp.seq ?_
  refine Wp.text ?_
  refine WpOps.keep 65 (Value.int IntKind.i64 line) (by kernel_rfl) (by kernel_rfl) (by kernel_rfl) ?_ (fun cf => (by kernel_rfl))
  refine WpOps.keep 66 (Value.int IntKind.i64 line) (by kernel_rfl) (by kernel_rfl) (by kernel_rfl) ?_ (fun cf => (by kernel_rfl))
  refine WpOps.keep 67 (Value.bool true) (by kernel_rfl) (by kernel_rfl) (by kernel_rfl) ?_ (fun cf => by_fact z1 ((by kernel_rfl)))
  refine WpOps.keep 68 (Value.bool true) (by kernel_rfl) (by kernel_rfl) (by kernel_rfl) ?_ (fun cf => (by kernel_rfl))
  refine WpOps.keep 69 (Value.int IntKind.i64 err) (by kernel_rfl) (by kernel_rfl) (by kernel_rfl) ?_ (fun cf => (by kernel_rfl))
  refine WpOps.keep 70 (Value.int IntKind.i64 err) (by kernel_rfl) (by kernel_rfl) (by kernel_rfl) ?_ (fun cf => (by kernel_rfl))
  refine WpOps.keep 71 (Value.bool true) (by kernel_rfl) (by kernel_rfl) (by kernel_rfl) ?_ (fun cf => by_fact z2 ((by kernel_rfl)))
  refine WpOps.keep 72 (Value.bool true) (by kernel_rfl) (by kernel_rfl) (by kernel_rfl) ?_ (fun cf => (by kernel_rfl))
  refine WpOps.keep 73 (Value.bool true) (by kernel_rfl) (by kernel_rfl) (by kernel_rfl) ?_ (fun cf => (by kernel_rfl))
  refine WpOps.keep 74 (Value.iface 24 (Value.iface n1 (Value.iface x1 (Value.agg q1)))) (by kernel_rfl) (by kernel_rfl) (by kernel_rfl) ?_ (fun cf => (by kernel_rfl))
  refine WpOps.framed 75 18 [Value.iface 24 (Value.iface n1 (Value.iface x1 (Value.agg q1)))] (by kernel_rfl) (by kernel_rfl) (by kernel_rfl) (by kernel_rfl) (by kernel_rfl) (fun cf => (by kernel_rfl)) ?_
  refine WpFun.of (a1) ?_
  refine WpOps.keep 76 (Value.iface 32 (Value.iface n3 (Value.iface x3 (Value.agg q3)))) (by kernel_rfl) (by kernel_rfl) (by kernel_rfl) ?_ (fun cf => (by kernel_rfl))
  refine WpOps.framed 77 17 [Value.iface 32 (Value.iface n2 (Value.iface x2 (Value.agg q2))), Value.iface 32 (Value.iface n3 (Value.iface x3 (Value.agg q3)))] (by kernel_rfl) (by kernel_rfl) (by kernel_rfl) (by kernel_rfl) (by kernel_rfl) (fun cf => (by kernel_rfl)) ?_
  refine WpFun.of (a2) ?_
  refine WpOps.keep 78 (Value.bool true) (by kernel_rfl) (by kernel_rfl) (by kernel_rfl) ?_ (fun cf => (by kernel_rfl))
  refine WpOps.keep 79 (Value.bool true) (by kernel_rfl) (by kernel_rfl) (by kernel_rfl) ?_ (fun cf => (by kernel_rfl))
  refine WpOps.keep 80 (Value.iface 24 (Value.iface n4 (Value.iface x4 (Value.agg q4)))) (by kernel_rfl) (by kernel_rfl) (by kernel_rfl) ?_ (fun cf => (by kernel_rfl))
  refine WpOps.framed 81 18 [Value.iface 24 (Value.iface n4 (Value.iface x4 (Value.agg q4)))] (by kernel_rfl) (by kernel_rfl) (by kernel_rfl) (by kernel_rfl) (by kernel_rfl) (fun cf => (by kernel_rfl)) ?_
  refine WpFun.of (b1) ?_
  refine WpOps.keep 82 (Value.iface 32 (Value.iface n6 (Value.iface x6 (Value.agg q6)))) (by kernel_rfl) (by kernel_rfl) (by kernel_rfl) ?_ (fun cf => (by kernel_rfl))
  refine WpOps.framed 83 17 [Value.iface 32 (Value.iface n5 (Value.iface x5 (Value.agg q5))), Value.iface 32 (Value.iface n6 (Value.iface x6 (Value.agg q6)))] (by kernel_rfl) (by kernel_rfl) (by kernel_rfl) (by kernel_rfl) (by kernel_rfl) (fun cf => (by kernel_rfl)) ?_
  refine WpFun.of (b2) ?_
  refine WpOps.keep 84 (Value.bool true) (by kernel_rfl) (by kernel_rfl) (by kernel_rfl) ?_ (fun cf => (by kernel_rfl))
  refine WpOps.keep 85 (Value.bool true) (by kernel_rfl) (by kernel_rfl) (by kernel_rfl) ?_ (fun cf => (by kernel_rfl))
  refine WpOps.framed 86 19 [] (by kernel_rfl) (by kernel_rfl) (by kernel_rfl) (by kernel_rfl) (by kernel_rfl) (fun cf => (by kernel_rfl)) ?_
  refine WpFun.of (c9) ?_
  refine WpOps.keep 87 (Value.bool true) (by kernel_rfl) (by kernel_rfl) (by kernel_rfl) ?_ (fun cf => (by kernel_rfl))
  refine WpOps.keep 2 (Value.bool true) (by kernel_rfl) (by kernel_rfl) (by kernel_rfl) ?_ (fun cf => (by kernel_rfl))
  refine WpOps.nil ?_
  refine thenK_at ?_
  refine Wp.ret ?_
  refine endK_retn [Value.bool true] (Value.bool true) (by kernel_rfl) (by kernel_rfl) ?_
  kernel_rfl
theorem law10_one (og : OkGr g) (c38 : Fun E 38 [ents 98 xt l] (ents 135 y (l.map e0))) (h1 : 0 < ls.length) (h2 : ls.length * 16 ≤ 140737488351232) (line err : Int) (n1 x1 n2 x2 n3 x3 n4 x4 n5 x5 n6 x6 : Nat) (q1 q2 q3 q4 q5 q6 : Array Value) (a1 : Fun E 18 [FS 24 n1 x1 q1] (FS 32 n2 x2 q2)) (a2 : Fun E 17 [FS 32 n2 x2 q2, FS 32 n3 x3 q3] (.bool true)) (b1 : Fun E 18 [FS 24 n4 x4 q4] (FS 32 n5 x5 q5)) (b2 : Fun E 17 [FS 32 n5 x5 q5, FS 32 n6 x6 q6] (.bool true))
    (c36 : Fun E 36 [sl x me, ents 98 xt l, lns 76 xl ls, gv g] (.tuple #[FS 24 n1 x1 q1, .int .i64 line, FS 24 n4 x4 q4, .int .i64 err]))
    (c37 : Fun E 37 [sl x me, ents 135 y (l.map e0), lns 77 0 ls, gv (toR g)] (.tuple #[FS 32 n3 x3 q3, .int .i64 line, FS 32 n6 x6 q6, .int .i64 err])) : Fun E 10 [fcV x xt xl me l ls g] (.bool true) := by
  refine Fun.of f10 rfl (of_decide_eq_true (by kernel_rfl)) rfl ?_
  have c1 := To16 g og
  have c9 := sane19
  have z1 : (line == line) = true := beq_self_eq_true _
  have z2 : (err == err) = true := beq_self_eq_true _
  refine Wp.seq ?_
  refine Wp.text ?_
  refine WpOps.made 1 (Value.pointer (some (Addr.mk 0 0 none))) (Blk.mk 73 true [Value.iface 3 (Value.iface (List.length me) (Value.iface x (Value.agg (List.toArray (List.map (fun n => Value.int IntKind.i64 n) me))))), Value.iface 98 (Value.iface (List.length l) (Value.iface xt (Value.agg (List.toArray (List.flatMap ec l))))), Value.iface 76 (Value.iface (List.length ls) (Value.iface xl (Value.agg (List.toArray (List.flatMap lc ls))))), Value.iface 3 (Value.iface (List.length (Gr.fr g)) (Value.iface (Gr.fx g) (Value.agg (List.toArray (List.map (fun n => Value.int IntKind.i64 n) (Gr.fr g)))))), Value.iface 3 (Value.iface (List.length (Gr.to g)) (Value.iface (Gr.tx g) (Value.agg (List.toArray (List.map (fun n => Value.int IntKind.i64 n) (Gr.to g)))))), Value.int IntKind.i64 (Gr.number g), Value.int IntKind.i64 (Gr.life g), Value.int IntKind.i64 (Gr.at' g), Value.int IntKind.i64 (Gr.total g), Value.int IntKind.i64 (Gr.report g), Value.bool (Gr.more g), Value.bool (Gr.may g), Value.bool (Gr.wants g), Value.string (Gr.data g)]) (by kernel_rfl) (by kernel_rfl) (by kernel_rfl) ?_ (fun cf => (by kernel_rfl))
  refine WpOps.keep 2 (Value.bool false) (by kernel_rfl) (by kernel_rfl) (by kernel_rfl) ?_ (fun cf => (by kernel_rfl))
  refine WpOps.nil ?_
  refine thenK_at ?_
  refine Wp.seq ?_
  refine Wp.text ?_
  refine WpOps.keep 3 (Value.slice none 0 0) (by kernel_rfl) (by kernel_rfl) (by kernel_rfl) ?_ (fun cf => (by kernel_rfl))
  refine WpOps.nil ?_
  refine thenK_at ?_
  refine Wp.seq ?_
  refine Wp.seq ?_
  refine Wp.text ?_
  refine WpOps.keep 4 (Value.int IntKind.i64 0) (by kernel_rfl) (by kernel_rfl) (by kernel_rfl) ?_ (fun cf => (by kernel_rfl))
  refine WpOps.nil ?_
  refine thenK_at ?_
  refine Wp.block ?_
  refine Wp.view (View.of [0] [⟨73, true, fcC x xt xl me l ls g⟩] [(1, .pointer (some ⟨0, 0, none⟩)), (3, .slice none 0 0), (4, .int .i64 ((0 : Nat) : Int))] (by decide) rfl ⟨⟨fcC x xt xl me l ls g, by kernel_rfl, CellsOk.eq rfl (fcC_flat ..)⟩, trivial⟩
    ⟨⟨by kernel_rfl, rfl⟩, ⟨by kernel_rfl, rfl⟩, ⟨by kernel_rfl, rfl⟩, trivial⟩) ?_
  refine Wp.unroll (WpL.step ?_)
  have hc0 : decide (((0 : Nat) : Int) < (ls.length : Int)) = true := decide_eq_true (by omega)
  have b0 : 0 ≤ ((0 : Nat) : Int) ∧ ((0 : Nat) : Int) < ls.length := ⟨by omega, by omega⟩
  have v0 : (List.flatMap lc ls)[(((0 : Nat) : Int)).toNat * 2 + 0]? = some (.int .i64 (ls[0]).to) := by
    rw [Int.toNat_natCast, flat_get lc 2 (fun _ => rfl) ls 0 0 h1 (by omega)]
    rfl
  have v1 : (List.flatMap lc ls)[(((0 : Nat) : Int)).toNat * 2 + 1]? = some (.int .i64 (ls[0]).size) := by
    rw [Int.toNat_natCast, flat_get lc 2 (fun _ => rfl) ls 0 1 h1 (by omega)]
    rfl
  refine Wp.seq ?_
  refine Wp.seq ?_
  refine Wp.text ?_
  refine WpOps.keep 13 (Value.int IntKind.i64 (↑0 : Int)) (by kernel_rfl) (by kernel_rfl) (by kernel_rfl) ?_ (fun cf => (by kernel_rfl))
  refine WpOps.keep 14 (Value.pointer (some (Addr.mk 0 2 none))) (by kernel_rfl) (by kernel_rfl) (by kernel_rfl) ?_ (fun cf => (by kernel_rfl))
  refine WpOps.keep 15 (Value.iface 76 (Value.iface (List.length ls) (Value.iface xl (Value.agg (List.toArray (List.flatMap lc ls)))))) (by kernel_rfl) (by kernel_rfl) (by kernel_rfl) ?_ (fun cf => (by kernel_rfl))
  refine WpOps.keep 16 (Value.int IntKind.i64 (↑(List.length ls) : Int)) (by kernel_rfl) (by kernel_rfl) (by kernel_rfl) ?_ (fun cf => (by kernel_rfl))
  refine WpOps.keep 17 (Value.bool true) (by kernel_rfl) (by kernel_rfl) (by kernel_rfl) ?_ (fun cf => by_fact hc0 ((by kernel_rfl)))
  refine WpOps.nil ?_
  refine thenK_at ?_
  refine Wp.on (by kernel_rfl) ?_
  refine Wp.skip ?_
  refine thenK_at ?_
  refine Wp.seq ?_
  refine Wp.block ?_
  refine Wp.region (by kernel_rfl) ?_
  refine WpOps.keep 20 (Value.slice none 0 0) (by kernel_rfl) (by kernel_rfl) (by kernel_rfl) ?_ (fun cf => (by kernel_rfl))
  refine WpOps.keep 21 (Value.pointer (some (Addr.mk 0 2 none))) (by kernel_rfl) (by kernel_rfl) (by kernel_rfl) ?_ (fun cf => (by kernel_rfl))
  refine WpOps.keep 22 (Value.iface 76 (Value.iface (List.length ls) (Value.iface xl (Value.agg (List.toArray (List.flatMap lc ls)))))) (by kernel_rfl) (by kernel_rfl) (by kernel_rfl) ?_ (fun cf => (by kernel_rfl))
  refine WpOps.keep 23 (Value.int IntKind.i64 (↑0 : Int)) (by kernel_rfl) (by kernel_rfl) (by kernel_rfl) ?_ (fun cf => (by kernel_rfl))
  refine WpOps.keep 24 (Value.iface 76 (Value.iface 0 (Value.agg (List.toArray (List.flatMap lc ls))))) (by kernel_rfl) (by kernel_rfl) (by kernel_rfl) ?_ (fun cf => o_indexI (e := 76) (size := 2) (a := (↑0 : Int)) b0 (by kernel_rfl) (by kernel_rfl) (by kernel_rfl) (by kernel_rfl))
  refine WpOps.keep 25 (Value.iface 76 (Value.iface 0 (Value.agg (List.toArray (List.flatMap lc ls))))) (by kernel_rfl) (by kernel_rfl) (by kernel_rfl) ?_ (fun cf => (by kernel_rfl))
  refine WpOps.keep 26 (Value.int IntKind.i64 (Ln.to ls[0])) (by kernel_rfl) (by kernel_rfl) (by kernel_rfl) ?_ (fun cf => o_loadI1 (0) v0 (by kernel_rfl) (by kernel_rfl))
  refine WpOps.keep 27 (Value.pointer (some (Addr.mk 0 2 none))) (by kernel_rfl) (by kernel_rfl) (by kernel_rfl) ?_ (fun cf => (by kernel_rfl))
  refine WpOps.keep 28 (Value.iface 76 (Value.iface (List.length ls) (Value.iface xl (Value.agg (List.toArray (List.flatMap lc ls)))))) (by kernel_rfl) (by kernel_rfl) (by kernel_rfl) ?_ (fun cf => (by kernel_rfl))
  refine WpOps.keep 29 (Value.int IntKind.i64 (↑0 : Int)) (by kernel_rfl) (by kernel_rfl) (by kernel_rfl) ?_ (fun cf => (by kernel_rfl))
  refine WpOps.keep 30 (Value.iface 76 (Value.iface 0 (Value.agg (List.toArray (List.flatMap lc ls))))) (by kernel_rfl) (by kernel_rfl) (by kernel_rfl) ?_ (fun cf => o_indexI (e := 76) (size := 2) (a := (↑0 : Int)) b0 (by kernel_rfl) (by kernel_rfl) (by kernel_rfl) (by kernel_rfl))
  refine WpOps.keep 31 (Value.iface 76 (Value.iface 1 (Value.agg (List.toArray (List.flatMap lc ls))))) (by kernel_rfl) (by kernel_rfl) (by kernel_rfl) ?_ (fun cf => (by kernel_rfl))
  refine WpOps.keep 32 (Value.int IntKind.i64 (Ln.size ls[0])) (by kernel_rfl) (by kernel_rfl) (by kernel_rfl) ?_ (fun cf => o_loadI1 (1) v1 (by kernel_rfl) (by kernel_rfl))
  refine WpOps.keep 33 (Value.agg #[Value.int IntKind.i64 (Ln.to ls[0]), Value.int IntKind.i64 (Ln.size ls[0])]) (by kernel_rfl) (by kernel_rfl) (by kernel_rfl) ?_ (fun cf => (by kernel_rfl))
  refine WpOps.made 34 (Value.slice (some (Addr.mk 1 0 none)) 1 1) (Blk.mk 77 true [Value.int IntKind.i64 (Ln.to ls[0]), Value.int IntKind.i64 (Ln.size ls[0])]) (by kernel_rfl) (by kernel_rfl) (by kernel_rfl) ?_ (fun cf => (by kernel_rfl))
  refine WpOps.made 35 (Value.slice (some (Addr.mk 2 0 none)) 1 1) (Blk.mk 77 true [Value.int IntKind.i64 (Ln.to ls[0]), Value.int IntKind.i64 (Ln.size ls[0])]) (by kernel_rfl) (by kernel_rfl) (by kernel_rfl) ?_ (fun cf => (by kernel_rfl))
  refine WpOps.keep 3 (Value.slice (some (Addr.mk 2 0 none)) 1 1) (by kernel_rfl) (by kernel_rfl) (by kernel_rfl) ?_ (fun cf => (by kernel_rfl))
  refine WpOps.nil ?_
  refine blockK_norm ?_
  refine thenK_at ?_
  refine Wp.text ?_
  refine WpOps.keep 18 (Value.int IntKind.i64 (↑0 : Int)) (by kernel_rfl) (by kernel_rfl) (by kernel_rfl) ?_ (fun cf => (by kernel_rfl))
  refine WpOps.keep 19 (Value.int IntKind.i64 (IntKind.wrap IntKind.i64 ((↑0 : Int) + 1))) (by kernel_rfl) (by kernel_rfl) (by kernel_rfl) ?_ (fun cf => (by kernel_rfl))
  refine WpOps.keep 4 (Value.int IntKind.i64 (IntKind.wrap IntKind.i64 ((↑0 : Int) + 1))) (by kernel_rfl) (by kernel_rfl) (by kernel_rfl) ?_ (fun cf => (by kernel_rfl))
  refine WpOps.nil ?_
  refine thenK_at ?_
  refine WpL.loop (G := Nat) (fun k => layj [(1, .pointer (some ⟨0, 0, none⟩)), (3, .slice (some ⟨1, 0, none⟩) k k), (4, .int .i64 (k : Int))]) (fun k => heapOf [⟨73, true, fcC x xt xl me l ls g⟩, ⟨77, true, (ls.take k).flatMap lc⟩]) (fun k => ls.length - k) (fun k => 1 ≤ k ∧ k ≤ ls.length) 1
    (View.of [0, 2] [⟨73, true, fcC x xt xl me l ls g⟩, ⟨77, true, (ls.take 1).flatMap lc⟩] _ (by decide) rfl ⟨⟨fcC x xt xl me l ls g, by kernel_rfl, CellsOk.eq rfl (fcC_flat ..)⟩, ⟨lc ls[0], by kernel_rfl, CellsOk.eq (by rw [lc_succ ls 0 h1]; rfl) (lc_flat _)⟩, trivial⟩
      ⟨⟨by kernel_rfl, rfl⟩, ⟨by kernel_rfl, rfl⟩, ⟨by kernel_rfl, rfl⟩, trivial⟩) ⟨Nat.le_refl _, h1⟩ ?_
  rintro j ⟨hk1, hk2⟩
  refine Wp.seq ?_
  refine Wp.seq ?_
  refine Wp.text ?_
  refine WpOps.keep 13 (Value.int IntKind.i64 (↑j : Int)) (by kernel_rfl) (by kernel_rfl) (by kernel_rfl) ?_ (fun cf => (by kernel_rfl))
  refine WpOps.keep 14 (Value.pointer (some (Addr.mk 0 2 none))) (by kernel_rfl) (by kernel_rfl) (by kernel_rfl) ?_ (fun cf => (by kernel_rfl))
  refine WpOps.keep 15 (Value.iface 76 (Value.iface (List.length ls) (Value.iface xl (Value.agg (List.toArray (List.flatMap lc ls)))))) (by kernel_rfl) (by kernel_rfl) (by kernel_rfl) ?_ (fun cf => (by kernel_rfl))
  refine WpOps.keep 16 (Value.int IntKind.i64 (↑(List.length ls) : Int)) (by kernel_rfl) (by kernel_rfl) (by kernel_rfl) ?_ (fun cf => (by kernel_rfl))
  refine WpOps.keep 17 (Value.bool (decide ((↑j : Int) < (↑(List.length ls) : Int)))) (by kernel_rfl) (by kernel_rfl) (by kernel_rfl) ?_ (fun cf => (by kernel_rfl))
  refine WpOps.nil ?_
  refine thenK_at ?_
  refine Wp.split (decide ((↑j : Int) < (↑(List.length ls) : Int))) (by kernel_rfl) (fun hc => ?_) (fun hc => ?_)
  · have hlt : (j : Int) < ls.length := of_decide_eq_true hc
    have hk0 : j < ls.length := by omega
    have r1 : 0 ≤ (j : Int) ∧ (j : Int) < ls.length := ⟨Int.natCast_nonneg _, hlt⟩
    have v2 : (List.flatMap lc ls)[((j : Int)).toNat * 2 + 0]? = some (.int .i64 (ls[j]).to) := by
      rw [Int.toNat_natCast, flat_get lc 2 (fun _ => rfl) ls j 0 hk0 (by omega)]
      rfl
    have v3 : (List.flatMap lc ls)[((j : Int)).toNat * 2 + 1]? = some (.int .i64 (ls[j]).size) := by
      rw [Int.toNat_natCast, flat_get lc 2 (fun _ => rfl) ls j 1 hk0 (by omega)]
      rfl
    have s1 : ¬ (j + 1 ≤ j) := by omega
    have s2 : 1 ≤ 16 ∧ (j + 1) * 16 ≤ 140737488355328 ∧ 2 = 2 ∧ j + 1 ≤ 9223372036854775807 := by omega
    have s3 := lc_all ls j hk2
    refine Wp.skip ?_
    refine thenK_at ?_
    refine Wp.seq ?_
    refine Wp.block ?_
    refine Wp.region (by kernel_rfl) ?_
    refine WpOps.keep 20 (Value.slice (some (Addr.mk 1 0 none)) j j) (by kernel_rfl) (by kernel_rfl) (by kernel_rfl) ?_ (fun cf => (by kernel_rfl))
    refine WpOps.keep 21 (Value.pointer (some (Addr.mk 0 2 none))) (by kernel_rfl) (by kernel_rfl) (by kernel_rfl) ?_ (fun cf => (by kernel_rfl))
    refine WpOps.keep 22 (Value.iface 76 (Value.iface (List.length ls) (Value.iface xl (Value.agg (List.toArray (List.flatMap lc ls)))))) (by kernel_rfl) (by kernel_rfl) (by kernel_rfl) ?_ (fun cf => (by kernel_rfl))
    refine WpOps.keep 23 (Value.int IntKind.i64 (↑j : Int)) (by kernel_rfl) (by kernel_rfl) (by kernel_rfl) ?_ (fun cf => (by kernel_rfl))
    refine WpOps.keep 24 (Value.iface 76 (Value.iface (Int.toNat (↑j : Int) * 2) (Value.agg (List.toArray (List.flatMap lc ls))))) (by kernel_rfl) (by kernel_rfl) (by kernel_rfl) ?_ (fun cf => o_indexI (e := 76) (size := 2) (a := (↑j : Int)) r1 (by kernel_rfl) (by kernel_rfl) (by kernel_rfl) (by kernel_rfl))
    refine WpOps.keep 25 (Value.iface 76 (Value.iface (Int.toNat (↑j : Int) * 2 + 0) (Value.agg (List.toArray (List.flatMap lc ls))))) (by kernel_rfl) (by kernel_rfl) (by kernel_rfl) ?_ (fun cf => (by kernel_rfl))
    refine WpOps.keep 26 (Value.int IntKind.i64 (Ln.to ls[j])) (by kernel_rfl) (by kernel_rfl) (by kernel_rfl) ?_ (fun cf => o_loadI1 (Int.toNat (↑j : Int) * 2 + 0) v2 (by kernel_rfl) (by kernel_rfl))
    refine WpOps.keep 27 (Value.pointer (some (Addr.mk 0 2 none))) (by kernel_rfl) (by kernel_rfl) (by kernel_rfl) ?_ (fun cf => (by kernel_rfl))
    refine WpOps.keep 28 (Value.iface 76 (Value.iface (List.length ls) (Value.iface xl (Value.agg (List.toArray (List.flatMap lc ls)))))) (by kernel_rfl) (by kernel_rfl) (by kernel_rfl) ?_ (fun cf => (by kernel_rfl))
    refine WpOps.keep 29 (Value.int IntKind.i64 (↑j : Int)) (by kernel_rfl) (by kernel_rfl) (by kernel_rfl) ?_ (fun cf => (by kernel_rfl))
    refine WpOps.keep 30 (Value.iface 76 (Value.iface (Int.toNat (↑j : Int) * 2) (Value.agg (List.toArray (List.flatMap lc ls))))) (by kernel_rfl) (by kernel_rfl) (by kernel_rfl) ?_ (fun cf => o_indexI (e := 76) (size := 2) (a := (↑j : Int)) r1 (by kernel_rfl) (by kernel_rfl) (by kernel_rfl) (by kernel_rfl))
    refine WpOps.keep 31 (Value.iface 76 (Value.iface (Int.toNat (↑j : Int) * 2 + 1) (Value.agg (List.toArray (List.flatMap lc ls))))) (by kernel_rfl) (by kernel_rfl) (by kernel_rfl) ?_ (fun cf => (by kernel_rfl))
    refine WpOps.keep 32 (Value.int IntKind.i64 (Ln.size ls[j])) (by kernel_rfl) (by kernel_rfl) (by kernel_rfl) ?_ (fun cf => o_loadI1 (Int.toNat (↑j : Int) * 2 + 1) v3 (by kernel_rfl) (by kernel_rfl))
    refine WpOps.keep 33 (Value.agg #[Value.int IntKind.i64 (Ln.to ls[j]), Value.int IntKind.i64 (Ln.size ls[j])]) (by kernel_rfl) (by kernel_rfl) (by kernel_rfl) ?_ (fun cf => (by kernel_rfl))
    refine WpOps.made 34 (Value.slice (some (Addr.mk 2 0 none)) 1 1) (Blk.mk 77 true [Value.int IntKind.i64 (Ln.to ls[j]), Value.int IntKind.i64 (Ln.size ls[j])]) (by kernel_rfl) (by kernel_rfl) (by kernel_rfl) ?_ (fun cf => (by kernel_rfl))
    refine WpOps.chg 35 (Value.slice (some (Addr.mk 3 0 none)) (j + 1) (j + 1)) (Heap.alloc (Heap.set (Heap.alloc (heapOf [Blk.mk 73 true (fcC x xt xl me l ls g), Blk.mk 77 true (List.flatMap lc (List.take j ls))]) (Blk.mk 77 true [Value.int IntKind.i64 (Ln.to ls[j]), Value.int IntKind.i64 (Ln.size ls[j])])) 1 none) (Blk.mk 77 true (List.flatMap lc (List.take j ls) ++ [Value.int IntKind.i64 (Ln.to ls[j]), Value.int IntKind.i64 (Ln.size ls[j])]))) (by kernel_rfl) (by kernel_rfl) (by kernel_rfl) ?_ (fun cf => o_append (e := 77) 1 (0) (j) _ (j) s1 s2 s3 (by kernel_rfl) (by kernel_rfl) (by kernel_rfl) (by kernel_rfl))
    refine WpOps.keep 3 (Value.slice (some (Addr.mk 3 0 none)) (j + 1) (j + 1)) (by kernel_rfl) (by kernel_rfl) (by kernel_rfl) ?_ (fun cf => (by kernel_rfl))
    refine WpOps.nil ?_
    refine blockK_norm ?_
    refine thenK_at ?_
    refine Wp.text ?_
    refine WpOps.keep 18 (Value.int IntKind.i64 (↑j : Int)) (by kernel_rfl) (by kernel_rfl) (by kernel_rfl) ?_ (fun cf => (by kernel_rfl))
    refine WpOps.keep 19 (Value.int IntKind.i64 (IntKind.wrap IntKind.i64 ((↑j : Int) + 1))) (by kernel_rfl) (by kernel_rfl) (by kernel_rfl) ?_ (fun cf => (by kernel_rfl))
    refine WpOps.keep 4 (Value.int IntKind.i64 (IntKind.wrap IntKind.i64 ((↑j : Int) + 1))) (by kernel_rfl) (by kernel_rfl) (by kernel_rfl) ?_ (fun cf => (by kernel_rfl))
    refine WpOps.nil ?_
    refine thenK_at ?_
    exact ⟨j + 1, by omega, ⟨by omega, hk0⟩, View.of [0, 3] [⟨73, true, fcC x xt xl me l ls g⟩, ⟨77, true, (ls.take (j + 1)).flatMap lc⟩] _ (by decide) rfl ⟨⟨fcC x xt xl me l ls g, by kernel_rfl, CellsOk.eq rfl (fcC_flat ..)⟩, ⟨(ls.take j).flatMap lc ++ lc ls[j], by kernel_rfl, CellsOk.eq (lc_succ ls j hk0).symm (lc_flat _)⟩, trivial⟩
      ⟨⟨by kernel_rfl, rfl⟩, ⟨by kernel_rfl, rfl⟩, ⟨congrArg (Value.int .i64) (wrap_i64 ((j : Int) + 1) (by omega) (by omega)), rfl⟩, trivial⟩⟩
  · have hk0 : j = ls.length := by have := of_decide_eq_false hc; omega
    have e : FS 77 j 0 ((ls.take j).flatMap lc).toArray = lns 77 0 ls := by
      subst hk0
      simp only [lns, List.take_length]
    have hfl : ∀ hp : Heap, hp.get 1 = some ⟨77, true, (ls.take j).flatMap lc⟩ → iceV E hp (.slice (some ⟨1, 0, none⟩) j j) = some (lns 77 0 ls) := fun hp hb => by
      have hr := iceC_row (E := E) (hp := hp) (b := 1) (n := j) (c := j) 3 types77 hb (by rw [flat_len lc 2 (fun _ => rfl), List.length_take]; omega) (lc_flat _)
      rw [e] at hr
      exact hr
    refine Wp.exit ?_
    refine thenK_exit ?_
    refine thenK_exit ?_
    refine blockK_hit ?_
    refine thenK_at ?_
    refine Wp.seq ?_
    refine Wp.text ?_
    refine WpOps.keep 37 (Value.pointer (some (Addr.mk 0 0 none))) (by kernel_rfl) (by kernel_rfl) (by kernel_rfl) ?_ (fun cf => (by kernel_rfl))
    refine WpOps.keep 38 (Value.iface 3 (Value.iface (List.length me) (Value.iface x (Value.agg (List.toArray (List.map (fun n => Value.int IntKind.i64 n) me)))))) (by kernel_rfl) (by kernel_rfl) (by kernel_rfl) ?_ (fun cf => (by kernel_rfl))
    refine WpOps.keep 39 (Value.pointer (some (Addr.mk 0 1 none))) (by kernel_rfl) (by kernel_rfl) (by kernel_rfl) ?_ (fun cf => (by kernel_rfl))
    refine WpOps.keep 40 (Value.iface 98 (Value.iface (List.length l) (Value.iface xt (Value.agg (List.toArray (List.flatMap ec l)))))) (by kernel_rfl) (by kernel_rfl) (by kernel_rfl) ?_ (fun cf => (by kernel_rfl))
    refine WpOps.keep 41 (Value.pointer (some (Addr.mk 0 2 none))) (by kernel_rfl) (by kernel_rfl) (by kernel_rfl) ?_ (fun cf => (by kernel_rfl))
    refine WpOps.keep 42 (Value.iface 76 (Value.iface (List.length ls) (Value.iface xl (Value.agg (List.toArray (List.flatMap lc ls)))))) (by kernel_rfl) (by kernel_rfl) (by kernel_rfl) ?_ (fun cf => (by kernel_rfl))
    refine WpOps.keep 43 (Value.pointer (some (Addr.mk 0 3 none))) (by kernel_rfl) (by kernel_rfl) (by kernel_rfl) ?_ (fun cf => (by kernel_rfl))
    refine WpOps.keep 44 (Value.agg #[Value.iface 3 (Value.iface (List.length (Gr.fr g)) (Value.iface (Gr.fx g) (Value.agg (List.toArray (List.map (fun n => Value.int IntKind.i64 n) (Gr.fr g)))))), Value.iface 3 (Value.iface (List.length (Gr.to g)) (Value.iface (Gr.tx g) (Value.agg (List.toArray (List.map (fun n => Value.int IntKind.i64 n) (Gr.to g)))))), Value.int IntKind.i64 (Gr.number g), Value.int IntKind.i64 (Gr.life g), Value.int IntKind.i64 (Gr.at' g), Value.int IntKind.i64 (Gr.total g), Value.int IntKind.i64 (Gr.report g), Value.bool (Gr.more g), Value.bool (Gr.may g), Value.bool (Gr.wants g), Value.string (Gr.data g)]) (by kernel_rfl) (by kernel_rfl) (by kernel_rfl) ?_ (fun cf => (by kernel_rfl))
    refine WpOps.called 45 36 [Value.iface 3 (Value.iface (List.length me) (Value.iface x (Value.agg (List.toArray (List.map (fun n => Value.int IntKind.i64 n) me))))), Value.iface 98 (Value.iface (List.length l) (Value.iface xt (Value.agg (List.toArray (List.flatMap ec l))))), Value.iface 76 (Value.iface (List.length ls) (Value.iface xl (Value.agg (List.toArray (List.flatMap lc ls))))), Value.agg #[Value.iface 3 (Value.iface (List.length (Gr.fr g)) (Value.iface (Gr.fx g) (Value.agg (List.toArray (List.map (fun n => Value.int IntKind.i64 n) (Gr.fr g)))))), Value.iface 3 (Value.iface (List.length (Gr.to g)) (Value.iface (Gr.tx g) (Value.agg (List.toArray (List.map (fun n => Value.int IntKind.i64 n) (Gr.to g)))))), Value.int IntKind.i64 (Gr.number g), Value.int IntKind.i64 (Gr.life g), Value.int IntKind.i64 (Gr.at' g), Value.int IntKind.i64 (Gr.total g), Value.int IntKind.i64 (Gr.report g), Value.bool (Gr.more g), Value.bool (Gr.may g), Value.bool (Gr.wants g), Value.string (Gr.data g)]] (by kernel_rfl) (by kernel_rfl) (by kernel_rfl) (by kernel_rfl) (fun cf => (by kernel_rfl)) ?_
    refine WpCall.consume [0, 1] (c36) (by kernel_rfl) (by kernel_rfl) ?_
    refine WpOps.keep 36 (Value.tuple #[FS 24 n1 x1 q1, Value.int IntKind.i64 line, FS 24 n4 x4 q4, Value.int IntKind.i64 err]) (by kernel_rfl) (by kernel_rfl) (by kernel_rfl) ?_ (fun cf => (by kernel_rfl))
    refine WpOps.keep 46 (Value.iface 24 (Value.iface n1 (Value.iface x1 (Value.agg q1)))) (by kernel_rfl) (by kernel_rfl) (by kernel_rfl) ?_ (fun cf => (by kernel_rfl))
    refine WpOps.keep 47 (Value.int IntKind.i64 line) (by kernel_rfl) (by kernel_rfl) (by kernel_rfl) ?_ (fun cf => (by kernel_rfl))
    refine WpOps.keep 48 (Value.iface 24 (Value.iface n4 (Value.iface x4 (Value.agg q4)))) (by kernel_rfl) (by kernel_rfl) (by kernel_rfl) ?_ (fun cf => (by kernel_rfl))
    refine WpOps.keep 49 (Value.int IntKind.i64 err) (by kernel_rfl) (by kernel_rfl) (by kernel_rfl) ?_ (fun cf => (by kernel_rfl))
    refine WpOps.keep 5 (Value.iface 24 (Value.iface n1 (Value.iface x1 (Value.agg q1)))) (by kernel_rfl) (by kernel_rfl) (by kernel_rfl) ?_ (fun cf => (by kernel_rfl))
    refine WpOps.keep 6 (Value.int IntKind.i64 line) (by kernel_rfl) (by kernel_rfl) (by kernel_rfl) ?_ (fun cf => (by kernel_rfl))
    refine WpOps.keep 7 (Value.iface 24 (Value.iface n4 (Value.iface x4 (Value.agg q4)))) (by kernel_rfl) (by kernel_rfl) (by kernel_rfl) ?_ (fun cf => (by kernel_rfl))
    refine WpOps.keep 8 (Value.int IntKind.i64 err) (by kernel_rfl) (by kernel_rfl) (by kernel_rfl) ?_ (fun cf => (by kernel_rfl))
    refine WpOps.nil ?_
    refine thenK_at ?_
    refine Wp.seq ?_
    refine Wp.region (by kernel_rfl) ?_
    refine WpOps.keep 51 (Value.pointer (some (Addr.mk 0 0 none))) (by kernel_rfl) (by kernel_rfl) (by kernel_rfl) ?_ (fun cf => (by kernel_rfl))
    refine WpOps.keep 52 (Value.iface 3 (Value.iface (List.length me) (Value.iface x (Value.agg (List.toArray (List.map (fun n => Value.int IntKind.i64 n) me)))))) (by kernel_rfl) (by kernel_rfl) (by kernel_rfl) ?_ (fun cf => (by kernel_rfl))
    refine WpOps.keep 53 (Value.pointer (some (Addr.mk 0 1 none))) (by kernel_rfl) (by kernel_rfl) (by kernel_rfl) ?_ (fun cf => (by kernel_rfl))
    refine WpOps.keep 54 (Value.iface 98 (Value.iface (List.length l) (Value.iface xt (Value.agg (List.toArray (List.flatMap ec l)))))) (by kernel_rfl) (by kernel_rfl) (by kernel_rfl) ?_ (fun cf => (by kernel_rfl))
    refine WpOps.framed 55 38 [Value.iface 98 (Value.iface (List.length l) (Value.iface xt (Value.agg (List.toArray (List.flatMap ec l)))))] (by kernel_rfl) (by kernel_rfl) (by kernel_rfl) (by kernel_rfl) (by kernel_rfl) (fun cf => (by kernel_rfl)) ?_
    refine WpFun.of (c38) ?_
    refine WpOps.keep 56 (Value.slice (some (Addr.mk 1 0 none)) j j) (by kernel_rfl) (by kernel_rfl) (by kernel_rfl) ?_ (fun cf => (by kernel_rfl))
    refine WpOps.keep 57 (Value.pointer (some (Addr.mk 0 3 none))) (by kernel_rfl) (by kernel_rfl) (by kernel_rfl) ?_ (fun cf => (by kernel_rfl))
    refine WpOps.keep 58 (Value.agg #[Value.iface 3 (Value.iface (List.length (Gr.fr g)) (Value.iface (Gr.fx g) (Value.agg (List.toArray (List.map (fun n => Value.int IntKind.i64 n) (Gr.fr g)))))), Value.iface 3 (Value.iface (List.length (Gr.to g)) (Value.iface (Gr.tx g) (Value.agg (List.toArray (List.map (fun n => Value.int IntKind.i64 n) (Gr.to g)))))), Value.int IntKind.i64 (Gr.number g), Value.int IntKind.i64 (Gr.life g), Value.int IntKind.i64 (Gr.at' g), Value.int IntKind.i64 (Gr.total g), Value.int IntKind.i64 (Gr.report g), Value.bool (Gr.more g), Value.bool (Gr.may g), Value.bool (Gr.wants g), Value.string (Gr.data g)]) (by kernel_rfl) (by kernel_rfl) (by kernel_rfl) ?_ (fun cf => (by kernel_rfl))
    refine WpOps.framed 59 16 [Value.agg #[Value.iface 3 (Value.iface (List.length (Gr.fr g)) (Value.iface (Gr.fx g) (Value.agg (List.toArray (List.map (fun n => Value.int IntKind.i64 n) (Gr.fr g)))))), Value.iface 3 (Value.iface (List.length (Gr.to g)) (Value.iface (Gr.tx g) (Value.agg (List.toArray (List.map (fun n => Value.int IntKind.i64 n) (Gr.to g)))))), Value.int IntKind.i64 (Gr.number g), Value.int IntKind.i64 (Gr.life g), Value.int IntKind.i64 (Gr.at' g), Value.int IntKind.i64 (Gr.total g), Value.int IntKind.i64 (Gr.report g), Value.bool (Gr.more g), Value.bool (Gr.may g), Value.bool (Gr.wants g), Value.string (Gr.data g)]] (by kernel_rfl) (by kernel_rfl) (by kernel_rfl) (by kernel_rfl) (by kernel_rfl) (fun cf => (by kernel_rfl)) ?_
    refine WpFun.of (c1) ?_
    refine WpOps.called 60 37 [Value.iface 3 (Value.iface (List.length me) (Value.iface x (Value.agg (List.toArray (List.map (fun n => Value.int IntKind.i64 n) me))))), Value.iface 135 (Value.iface (List.length (List.map e0 l)) (Value.iface y (Value.agg (List.toArray (List.flatMap ec (List.map e0 l)))))), Value.slice (some (Addr.mk 1 0 none)) j j, Value.agg (List.toArray (gc (toR g)))] (by kernel_rfl) (by kernel_rfl) (by kernel_rfl) (by kernel_rfl) (fun cf => (by kernel_rfl)) ?_
    refine WpCall.consumeN (args2 := [sl x me, ents 135 y (l.map e0), lns 77 0 ls, gv (toR g)]) [0] c37 (mapO_c (by kernel_rfl) (mapO_c (by kernel_rfl) (mapO_c (hfl _ (by kernel_rfl)) (mapO_c (by kernel_rfl) rfl)))) (NilA.refls _) (by kernel_rfl) ?_
    refine WpOps.keep 50 (Value.tuple #[FS 32 n3 x3 q3, Value.int IntKind.i64 line, FS 32 n6 x6 q6, Value.int IntKind.i64 err]) (by kernel_rfl) (by kernel_rfl) (by kernel_rfl) ?_ (fun cf => (by kernel_rfl))
    refine WpOps.keep 61 (Value.iface 32 (Value.iface n3 (Value.iface x3 (Value.agg q3)))) (by kernel_rfl) (by kernel_rfl) (by kernel_rfl) ?_ (fun cf => (by kernel_rfl))
    refine WpOps.keep 62 (Value.int IntKind.i64 line) (by kernel_rfl) (by kernel_rfl) (by kernel_rfl) ?_ (fun cf => (by kernel_rfl))
    refine WpOps.keep 63 (Value.iface 32 (Value.iface n6 (Value.iface x6 (Value.agg q6)))) (by kernel_rfl) (by kernel_rfl) (by kernel_rfl) ?_ (fun cf => (by kernel_rfl))
    refine WpOps.keep 64 (Value.int IntKind.i64 err) (by kernel_rfl) (by kernel_rfl) (by kernel_rfl) ?_ (fun cf => (by kernel_rfl))
    refine WpOps.keep 9 (Value.iface 32 (Value.iface n3 (Value.iface x3 (Value.agg q3)))) (by kernel_rfl) (by kernel_rfl) (by kernel_rfl) ?_ (fun cf => (by kernel_rfl))
    refine WpOps.keep 10 (Value.int IntKind.i64 line) (by kernel_rfl) (by kernel_rfl) (by kernel_rfl) ?_ (fun cf => (by kernel_rfl))
    refine WpOps.keep 11 (Value.iface 32 (Value.iface n6 (Value.iface x6 (Value.agg q6)))) (by kernel_rfl) (by kernel_rfl) (by kernel_rfl) ?_ (fun cf => (by kernel_rfl))
    refine WpOps.keep 12 (Value.int IntKind.i64 err) (by kernel_rfl) (by kernel_rfl) (by kernel_rfl) ?_ (fun cf => (by kernel_rfl))
    refine WpOps.nil ?_
    refine thenK_at ?_
    refine Wp.seq ?_
    refine Wp.text ?_
    refine WpOps.keep 65 (Value.int IntKind.i64 line) (by kernel_rfl) (by kernel_rfl) (by kernel_rfl) ?_ (fun cf => (by kernel_rfl))
    refine WpOps.keep 66 (Value.int IntKind.i64 line) (by kernel_rfl) (by kernel_rfl) (by kernel_rfl) ?_ (fun cf => (by kernel_rfl))
    refine WpOps.keep 67 (Value.bool true) (by kernel_rfl) (by kernel_rfl) (by kernel_rfl) ?_ (fun cf => by_fact z1 ((by kernel_rfl)))
    refine WpOps.keep 68 (Value.bool true) (by kernel_rfl) (by kernel_rfl) (by kernel_rfl) ?_ (fun cf => (by kernel_rfl))
    refine WpOps.keep 69 (Value.int IntKind.i64 err) (by kernel_rfl) (by kernel_rfl) (by kernel_rfl) ?_ (fun cf => (by kernel_rfl))
    refine WpOps.keep 70 (Value.int IntKind.i64 err) (by kernel_rfl) (by kernel_rfl) (by kernel_rfl) ?_ (fun cf => (by kernel_rfl))
    refine WpOps.keep 71 (Value.bool true) (by kernel_rfl) (by kernel_rfl) (by kernel_rfl) ?_ (fun cf => by_fact z2 ((by kernel_rfl)))
    refine WpOps.keep 72 (Value.bool true) (by kernel_rfl) (by kernel_rfl) (by kernel_rfl) ?_ (fun cf => (by kernel_rfl))
    refine WpOps.keep 73 (Value.bool true) (by kernel_rfl) (by kernel_rfl) (by kernel_rfl) ?_ (fun cf => (by kernel_rfl))
    refine WpOps.keep 74 (Value.iface 24 (Value.iface n1 (Value.iface x1 (Value.agg q1)))) (by kernel_rfl) (by kernel_rfl) (by kernel_rfl) ?_ (fun cf => (by kernel_rfl))
    refine WpOps.framed 75 18 [Value.iface 24 (Value.iface n1 (Value.iface x1 (Value.agg q1)))] (by kernel_rfl) (by kernel_rfl) (by kernel_rfl) (by kernel_rfl) (by kernel_rfl) (fun cf => (by kernel_rfl)) ?_
    refine WpFun.of (a1) ?_
    refine WpOps.keep 76 (Value.iface 32 (Value.iface n3 (Value.iface x3 (Value.agg q3)))) (by kernel_rfl) (by kernel_rfl) (by kernel_rfl) ?_ (fun cf => (by kernel_rfl))
    refine WpOps.framed 77 17 [Value.iface 32 (Value.iface n2 (Value.iface x2 (Value.agg q2))), Value.iface 32 (Value.iface n3 (Value.iface x3 (Value.agg q3)))] (by kernel_rfl) (by kernel_rfl) (by kernel_rfl) (by kernel_rfl) (by kernel_rfl) (fun cf => (by kernel_rfl)) ?_
    refine WpFun.of (a2) ?_
    refine WpOps.keep 78 (Value.bool true) (by kernel_rfl) (by kernel_rfl) (by kernel_rfl) ?_ (fun cf => (by kernel_rfl))
    refine WpOps.keep 79 (Value.bool true) (by kernel_rfl) (by kernel_rfl) (by kernel_rfl) ?_ (fun cf => (by kernel_rfl))
    refine WpOps.keep 80 (Value.iface 24 (Value.iface n4 (Value.iface x4 (Value.agg q4)))) (by kernel_rfl) (by kernel_rfl) (by kernel_rfl) ?_ (fun cf => (by kernel_rfl))
    refine WpOps.framed 81 18 [Value.iface 24 (Value.iface n4 (Value.iface x4 (Value.agg q4)))] (by kernel_rfl) (by kernel_rfl) (by kernel_rfl) (by kernel_rfl) (by kernel_rfl) (fun cf => (by kernel_rfl)) ?_
    refine WpFun.of (b1) ?_
    refine WpOps.keep 82 (Value.iface 32 (Value.iface n6 (Value.iface x6 (Value.agg q6)))) (by kernel_rfl) (by kernel_rfl) (by kernel_rfl) ?_ (fun cf => (by kernel_rfl))
    refine WpOps.framed 83 17 [Value.iface 32 (Value.iface n5 (Value.iface x5 (Value.agg q5))), Value.iface 32 (Value.iface n6 (Value.iface x6 (Value.agg q6)))] (by kernel_rfl) (by kernel_rfl) (by kernel_rfl) (by kernel_rfl) (by kernel_rfl) (fun cf => (by kernel_rfl)) ?_
    refine WpFun.of (b2) ?_
    refine WpOps.keep 84 (Value.bool true) (by kernel_rfl) (by kernel_rfl) (by kernel_rfl) ?_ (fun cf => (by kernel_rfl))
    refine WpOps.keep 85 (Value.bool true) (by kernel_rfl) (by kernel_rfl) (by kernel_rfl) ?_ (fun cf => (by kernel_rfl))
    refine WpOps.framed 86 19 [] (by kernel_rfl) (by kernel_rfl) (by kernel_rfl) (by kernel_rfl) (by kernel_rfl) (fun cf => (by kernel_rfl)) ?_
    refine WpFun.of (c9) ?_
    refine WpOps.keep 87 (Value.bool true) (by kernel_rfl) (by kernel_rfl) (by kernel_rfl) ?_ (fun cf => (by kernel_rfl))
    refine WpOps.keep 2 (Value.bool true) (by kernel_rfl) (by kernel_rfl) (by kernel_rfl) ?_ (fun cf => (by kernel_rfl))
    refine WpOps.nil ?_
    refine thenK_at ?_
    refine Wp.ret ?_
    refine endK_retn [Value.bool true] (Value.bool true) (by kernel_rfl) (by kernel_rfl) ?_
    kernel_rfl
end
theorem law10 (x xt xl : Nat) (me : List Int) (l : List En) (ls : List Ln) (g : Gr) (hx : x = 2 → me = []) (hm : me.length ≤ 17592186044416) (hxt : xt = 0 ∨ (xt = 2 ∧ l = [])) (ok : ∀ e ∈ l, OkEn e) (og : OkGr g) (hl : l.length * 32 ≤ 140737488351232) (hls : ls.length * 16 ≤ 140737488351232) : Fun E 10 [fcV x xt xl me l ls g] (.bool true) := by
  have c36 := forward36 x xt xl me l ls g hm hxt ok og (by omega) hx
  have ok0 : ∀ e ∈ l.map e0, OkEn e := fun e he => by
    obtain ⟨a, ha, rfl⟩ := List.mem_map.1 he
    exact ⟨(fun h => by cases h), (ok a ha).l⟩
  obtain ⟨y, c38⟩ : ∃ y, Fun E 38 [ents 98 xt l] (ents 135 y (l.map e0)) := by
    rcases Nat.eq_zero_or_pos l.length with h | h
    · obtain rfl := List.eq_nil_of_length_eq_zero h
      exact ⟨2, table38_nil xt⟩
    · exact ⟨0, table38 xt l h hl ok⟩
  have c37 : ∀ z, Fun E 37 [sl x me, ents 135 y (l.map e0), lns 77 z ls, gv (toR g)] (fwV (fwAll 32 0 me (l.map e0) ls (toR g))) := fun z => forward37 x y z me (l.map e0) ls g hm ok0 og (by omega)
  obtain ⟨ti24, ht24⟩ := E24
  obtain ⟨ti32, ht32⟩ := E32
  have n24 : NilW E nilV (FS 24 0 2 #[]) := .c (.inr ⟨rfl, 24, ti24, ht24, rfl⟩)
  have n32 : NilW E nilV (FS 32 0 2 #[]) := .c (.inr ⟨rfl, 32, ti32, ht32, rfl⟩)
  have same : ∀ v : Value, NilW E v v := fun v => .c (.inl rfl)
  have all0 : Fun E 18 [FS 24 0 2 #[]] (FS 32 0 2 #[]) := Fun.nilV (Fun.closed 60 (.slice none 0 0) (by kernel_rfl)) (.w n32) rfl
  have same0 : Fun E 17 [FS 32 0 2 #[], FS 32 0 2 #[]] (.bool true) := Fun.closed 60 _ (by kernel_rfl)
  rcases both x me l ls g with ⟨h1, h2⟩ | ⟨hg, k, h1, h2⟩ | ⟨hg, hp, line, size, o, h1, h2, hc, hs⟩
  · rw [h1] at c36
    rw [h2] at c37
    have d36 := Fun.nilV c36 (.tuple (b := #[FS 24 0 2 #[], .int .i64 0, FS 24 0 2 #[], .int .i64 1]) (.cons n24 (.cons (same _) (.cons n24 (.cons (same _) .nil))))) rfl
    have d37 := fun z => Fun.nilV (c37 z) (.tuple (b := #[FS 32 0 2 #[], .int .i64 0, FS 32 0 2 #[], .int .i64 1]) (.cons n32 (.cons (same _) (.cons n32 (.cons (same _) .nil))))) rfl
    rcases Nat.eq_zero_or_pos ls.length with h | h
    · exact law10_nil x xt xl me l ls g y og c38 (List.eq_nil_of_length_eq_zero h) 0 1 _ _ _ _ _ _ _ _ _ _ _ _ _ _ _ _ _ _ all0 same0 all0 same0 d36 (d37 2)
    · exact law10_one x xt xl me l ls g y og c38 h hls 0 1 _ _ _ _ _ _ _ _ _ _ _ _ _ _ _ _ _ _ all0 same0 all0 same0 d36 (d37 0)
  · rw [h1] at c36
    rw [h2] at c37
    obtain ⟨b1, b2⟩ := all_rep x me g k hm hx og
    have d36 := Fun.nilV c36 (.tuple (b := #[FS 24 0 2 #[], .int .i64 (-1), repV 24 x me g k, .int .i64 0]) (.cons n24 (.cons (same _) (.cons (same _) (.cons (same _) .nil))))) rfl
    have d37 := fun z => Fun.nilV (c37 z) (.tuple (b := #[FS 32 0 2 #[], .int .i64 (-1), repV 32 0 me (toR g) k, .int .i64 0]) (.cons n32 (.cons (same _) (.cons (same _) (.cons (same _) .nil))))) rfl
    rcases Nat.eq_zero_or_pos ls.length with h | h
    · exact law10_nil x xt xl me l ls g y og c38 (List.eq_nil_of_length_eq_zero h) (-1) 0 _ _ _ _ _ _ _ _ _ _ _ _ _ _ _ _ _ _ all0 same0 b1 b2 d36 (d37 2)
    · exact law10_one x xt xl me l ls g y og c38 h hls (-1) 0 _ _ _ _ _ _ _ _ _ _ _ _ _ _ _ _ _ _ all0 same0 b1 b2 d36 (d37 0)
  · rw [h1] at c36
    rw [h2] at c37
    have hd := okG_size hg
    have oo : ∀ p ∈ o, OkGr p := fun p hp => (cut_in (g := lifeDown g) ⟨og.fx, og.tx, og.fl, og.tl⟩ hc p hp).1
    have o1 : 0 < o.length := cut_pos hs hc
    have o2 : o.length ≤ 4000 := cut_len (g := lifeDown g) hd hc
    have b1 := all18 o o1 o2 oo
    have b2 := sameAll17 (o.map toR) (by rw [List.length_map]; omega) (fun p hp => by
      obtain ⟨q, hq, rfl⟩ := List.mem_map.1 hp
      exact ok_toR (oo q hq))
    have d36 := Fun.nilV c36 (.tuple (b := #[grams 24 o, .int .i64 line, FS 24 0 2 #[], .int .i64 0]) (.cons (same _) (.cons (same _) (.cons n24 (.cons (same _) .nil))))) rfl
    have d37 := fun z => Fun.nilV (c37 z) (.tuple (b := #[grams 32 (o.map toR), .int .i64 line, FS 32 0 2 #[], .int .i64 0]) (.cons (same _) (.cons (same _) (.cons n32 (.cons (same _) .nil))))) rfl
    exact law10_one x xt xl me l ls g y og c38 hp hls line 0 _ _ _ _ _ _ _ _ _ _ _ _ _ _ _ _ _ _ b1 b2 all0 same0 d36 (d37 0)
end Go.Proofs.Ytpkkcpglbjbgfaa.D
