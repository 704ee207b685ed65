/- The law DatagramDies. -/
import Derived.Test.YtpkkcpglbjbgfaaFwLem
import Derived.Test.YtpkkcpglbjbgfaaFwCons
import Derived.Test.YtpkkcpglbjbgfaaG14e
namespace Go.Proofs.Ytpkkcpglbjbgfaa.D
open Go.Fw Go.RowKit

theorem f28 : E.funcs 28 = some Try.f28 := by kernel_rfl
def modN (x : Int) (n : Nat) : Int := if x.tmod n < 0 then x.tmod n + n else x.tmod n
theorem modN_in (x : Int) (n : Nat) (hn : 0 < n) : 0 ≤ modN x n ∧ modN x n < n := by
  have h1 := Int.tmod_lt_of_pos x (b := n) (by omega)
  have h2 := Int.lt_tmod_of_pos x (b := n) (by omega)
  unfold modN
  split <;> omega
theorem mod28 (x : Int) (n : Nat) (hn : 0 < n) (h : n ≤ 5000) : Fun E 28 [.int .i64 x, .int .i64 n] (.int .i64 (modN x n)) := by
  refine Fun.of f28 rfl (of_decide_eq_true (by kernel_rfl)) rfl ?_
  have c0 : decide ((n : Int) < 1) = false := decide_eq_false (by omega)
  have n0 : (n : Int) ≠ 0 := by omega
  have h1 := Int.tmod_lt_of_pos x (b := n) (by omega)
  have h2 := Int.lt_tmod_of_pos x (b := n) (by omega)
  refine Wp.seq ?_
  refine Wp.text ?_
  refine WpOps.keep 4 (Value.int IntKind.i64 0) (by kernel_rfl) (by kernel_rfl) (by kernel_rfl) ?_ (fun cf => (by kernel_rfl))
  refine WpOps.nil ?_
  refine thenK_at ?_
  refine Wp.seq ?_
  refine Wp.seq ?_
  refine Wp.text ?_
  refine WpOps.keep 6 (Value.int IntKind.i64 (↑n : Int)) (by kernel_rfl) (by kernel_rfl) (by kernel_rfl) ?_ (fun cf => (by kernel_rfl))
  refine WpOps.keep 7 (Value.bool false) (by kernel_rfl) (by kernel_rfl) (by kernel_rfl) ?_ (fun cf => by_fact c0 ((by kernel_rfl)))
  refine WpOps.nil ?_
  refine thenK_at ?_
  refine Wp.off (by kernel_rfl) ?_
  refine Wp.skip ?_
  refine thenK_at ?_
  refine Wp.seq ?_
  refine Wp.text ?_
  refine WpOps.keep 8 (Value.int IntKind.i64 x) (by kernel_rfl) (by kernel_rfl) (by kernel_rfl) ?_ (fun cf => (by kernel_rfl))
  refine WpOps.keep 9 (Value.int IntKind.i64 (↑n : Int)) (by kernel_rfl) (by kernel_rfl) (by kernel_rfl) ?_ (fun cf => (by kernel_rfl))
  refine WpOps.keep 10 (Value.int IntKind.i64 (Int.tmod x (↑n : Int))) (by kernel_rfl) (by kernel_rfl) (by kernel_rfl) ?_ (fun cf => o_rem n0 (by kernel_rfl) (by kernel_rfl))
  refine WpOps.keep 5 (Value.int IntKind.i64 (Int.tmod x (↑n : Int))) (by kernel_rfl) (by kernel_rfl) (by kernel_rfl) ?_ (fun cf => (by kernel_rfl))
  refine WpOps.nil ?_
  refine thenK_at ?_
  refine Wp.seq ?_
  refine Wp.seq ?_
  refine Wp.text ?_
  refine WpOps.keep 11 (Value.int IntKind.i64 (Int.tmod x (↑n : Int))) (by kernel_rfl) (by kernel_rfl) (by kernel_rfl) ?_ (fun cf => (by kernel_rfl))
  refine WpOps.keep 12 (Value.bool (decide (Int.tmod x (↑n : Int) < 0))) (by kernel_rfl) (by kernel_rfl) (by kernel_rfl) ?_ (fun cf => (by kernel_rfl))
  refine WpOps.nil ?_
  refine thenK_at ?_
  refine Wp.split (decide (Int.tmod x (↑n : Int) < 0)) (by kernel_rfl) (fun hc => ?_) (fun hc => ?_)
  · have hm : modN x n = x.tmod n + n := if_pos (of_decide_eq_true hc)
    have hw : IntKind.i64.wrap (x.tmod n + n) = modN x n := by rw [hm, wr _ (by omega) (by omega)]
    refine Wp.text ?_
    refine WpOps.keep 13 (Value.int IntKind.i64 (Int.tmod x (↑n : Int))) (by kernel_rfl) (by kernel_rfl) (by kernel_rfl) ?_ (fun cf => (by kernel_rfl))
    refine WpOps.keep 14 (Value.int IntKind.i64 (↑n : Int)) (by kernel_rfl) (by kernel_rfl) (by kernel_rfl) ?_ (fun cf => (by kernel_rfl))
    refine WpOps.keep 15 (Value.int IntKind.i64 (IntKind.wrap IntKind.i64 (Int.tmod x (↑n : Int) + (↑n : Int)))) (by kernel_rfl) (by kernel_rfl) (by kernel_rfl) ?_ (fun cf => (by kernel_rfl))
    refine WpOps.keep 5 (Value.int IntKind.i64 (IntKind.wrap IntKind.i64 (Int.tmod x (↑n : Int) + (↑n : Int)))) (by kernel_rfl) (by kernel_rfl) (by kernel_rfl) ?_ (fun cf => (by kernel_rfl))
    refine WpOps.nil ?_
    refine thenK_at ?_
    refine Wp.seq ?_
    refine Wp.text ?_
    refine WpOps.keep 16 (Value.int IntKind.i64 (IntKind.wrap IntKind.i64 (Int.tmod x (↑n : Int) + (↑n : Int)))) (by kernel_rfl) (by kernel_rfl) (by kernel_rfl) ?_ (fun cf => (by kernel_rfl))
    refine WpOps.keep 4 (Value.int IntKind.i64 (IntKind.wrap IntKind.i64 (Int.tmod x (↑n : Int) + (↑n : Int)))) (by kernel_rfl) (by kernel_rfl) (by kernel_rfl) ?_ (fun cf => (by kernel_rfl))
    refine WpOps.nil ?_
    refine thenK_at ?_
    refine Wp.ret ?_
    refine endK_retn [Value.int IntKind.i64 (IntKind.wrap IntKind.i64 (Int.tmod x (↑n : Int) + (↑n : Int)))] (Value.int IntKind.i64 (IntKind.wrap IntKind.i64 (Int.tmod x (↑n : Int) + (↑n : Int)))) (by kernel_rfl) (by kernel_rfl) ?_
    rw [hw]
    rfl
  · have hm : modN x n = x.tmod n := if_neg (of_decide_eq_false hc)
    refine Wp.skip ?_
    refine thenK_at ?_
    refine Wp.seq ?_
    refine Wp.text ?_
    refine WpOps.keep 16 (Value.int IntKind.i64 (Int.tmod x (↑n : Int))) (by kernel_rfl) (by kernel_rfl) (by kernel_rfl) ?_ (fun cf => (by kernel_rfl))
    refine WpOps.keep 4 (Value.int IntKind.i64 (Int.tmod x (↑n : Int))) (by kernel_rfl) (by kernel_rfl) (by kernel_rfl) ?_ (fun cf => (by kernel_rfl))
    refine WpOps.nil ?_
    refine thenK_at ?_
    refine Wp.ret ?_
    refine endK_retn [Value.int IntKind.i64 (Int.tmod x (↑n : Int))] (Value.int IntKind.i64 (Int.tmod x (↑n : Int))) (by kernel_rfl) (by kernel_rfl) ?_
    rw [hm]
    rfl
/-- What a router gives on. -/
theorem fw_out (x : Nat) (me : List Int) (l : List En) (ls : List Ln) (g : Gr) : ∃ out line back err, fwV (fwAll 24 x me l ls g) = .tuple #[out, .int .i64 line, back, .int .i64 err] ∧
    (((err != 0) = true) ∨ (err = 0 ∧ line = -1) ∨ (err = 0 ∧ 0 ≤ line ∧ ∃ o size, out = grams 24 o ∧ okG g = true ∧ 1 < g.life ∧ 1 ≤ size ∧ size ≤ 4000 ∧ cutL (lifeDown g) size = some o)) := by
  refine ⟨(fwAll 24 x me l ls g).out, (fwAll 24 x me l ls g).line, (fwAll 24 x me l ls g).back, (fwAll 24 x me l ls g).err, rfl, ?_⟩
  unfold fwAll
  split
  · rename_i ho
    unfold okF at ho
    simp only [Bool.and_eq_true, Bool.not_eq_true'] at ho
    obtain ⟨⟨⟨h1, h2⟩, h3⟩, h4⟩ := ho
    unfold fwd
    split
    · exact .inr (.inl ⟨rfl, rfl⟩)
    · rename_i hl
      split
      · exact .inr (.inl ⟨rfl, rfl⟩)
      · rename_i e he
        obtain ⟨e1, e2, _⟩ := found_ok h4 he
        split
        · exact .inl rfl
        · rename_i ht
          obtain ⟨s1, s2⟩ := line_ok h2 (i := e.to.toNat) (by omega)
          split
          · exact .inr (.inl ⟨rfl, rfl⟩)
          · rename_i o hc
            exact .inr (.inr ⟨rfl, e1, o, _, rfl, h3, by omega, s1, s2, hc⟩)
  · exact .inl rfl
theorem cut_in {g : Gr} {size : Int} {o : List Gr} (og : OkGr g) (hc : cutL g size = some o) : ∀ p ∈ o, OkGr p ∧ p.life = g.life := by
  unfold cutL at hc
  split at hc
  · obtain rfl := Option.some.inj hc
    intro p hp
    obtain rfl := List.mem_singleton.1 hp
    refine ⟨⟨fun h => ?_, fun h => ?_, og.fl, og.tl⟩, rfl⟩
    · have : g.fx = 2 := by unfold ownG nx at h; dsimp only at h; split at h <;> omega
      exact og.fx this
    · have : g.tx = 2 := by unfold ownG nx at h; dsimp only at h; split at h <;> omega
      exact og.tx this
  · split at hc
    · obtain rfl := Option.some.inj hc
      intro p hp
      unfold pcs at hp
      obtain ⟨k, _, rfl⟩ := List.mem_map.1 hp
      refine ⟨⟨fun h => ?_, fun h => ?_, og.fl, og.tl⟩, rfl⟩
      · have : g.fx = 2 := by unfold piece ownG nx at h; dsimp only at h; split at h <;> omega
        exact og.fx this
      · have : g.tx = 2 := by unfold piece ownG nx at h; dsimp only at h; split at h <;> omega
        exact og.tx this
    · cases hc
theorem cut_len {g : Gr} {size : Int} {o : List Gr} (hd : g.data.size ≤ 4000) (hc : cutL g size = some o) : o.length ≤ 4000 := by
  unfold cutL at hc
  split at hc
  · obtain rfl := Option.some.inj hc
    exact (by decide : 1 ≤ 4000)
  · split at hc
    · rename_i h
      obtain rfl := Option.some.inj hc
      rw [pcs_len]
      unfold many
      have h0 : 0 < s8 size := Nat.pos_of_ne_zero h.2
      refine Nat.le_trans (Nat.le_of_lt_succ ((Nat.div_lt_iff_lt_mul h0).2 ?_)) hd
      have : g.data.size * 1 ≤ g.data.size * s8 size := Nat.mul_le_mul_left _ h0
      rw [Nat.succ_mul]
      omega
    · cases hc
theorem okG_life {g : Gr} (h : okG g = true) : 0 ≤ g.life ∧ g.life ≤ 60 := by
  unfold okG at h
  simp only [Bool.and_eq_true] at h
  have := h.1.1.1.1.1.1.2
  unfold inR at this
  rcases hx : decide (0 ≤ g.life) with _ | _
  · rw [hx] at this; cases this
  · rw [hx, cond_true] at this
    exact ⟨of_decide_eq_true hx, of_decide_eq_true this⟩
structure DG where
  i : Nat
  n : Nat
  g : Gr
def DI (g0 : Gr) (d : DG) : Prop := d.i ≤ 80 ∧ d.n ≤ d.i ∧ OkGr d.g ∧ ((d.n = 0 ∧ d.g = g0) ∨ (1 ≤ d.g.life ∧ d.g.life + d.n = g0.life))
theorem f12 : E.funcs 12 = some Try.f12 := by kernel_rfl
theorem law12 (g0 : Gr) (og0 : OkGr g0) (xt : Nat) (tb : List Int) : Fun E 12 [gv g0, sl xt tb] (.bool true) := by
  refine Fun.of f12 rfl (of_decide_eq_true (by kernel_rfl)) rfl ?_
  have c9 := sane19
  refine Wp.seq ?_
  refine Wp.text ?_
  refine WpOps.made 2 (Value.pointer (some (Addr.mk 0 0 none))) (Blk.mk 24 true [Value.iface 3 (Value.iface (List.length (Gr.fr g0)) (Value.iface (Gr.fx g0) (Value.agg (List.toArray (List.map (fun n => Value.int IntKind.i64 n) (Gr.fr g0)))))), Value.iface 3 (Value.iface (List.length (Gr.to g0)) (Value.iface (Gr.tx g0) (Value.agg (List.toArray (List.map (fun n => Value.int IntKind.i64 n) (Gr.to g0)))))), Value.int IntKind.i64 (Gr.number g0), Value.int IntKind.i64 (Gr.life g0), Value.int IntKind.i64 (Gr.at' g0), Value.int IntKind.i64 (Gr.total g0), Value.int IntKind.i64 (Gr.report g0), Value.bool (Gr.more g0), Value.bool (Gr.may g0), Value.bool (Gr.wants g0), Value.string (Gr.data g0)]) (by kernel_rfl) (by kernel_rfl) (by kernel_rfl) ?_ (fun cf => (by kernel_rfl))
  refine WpOps.keep 4 (Value.bool false) (by kernel_rfl) (by kernel_rfl) (by kernel_rfl) ?_ (fun cf => (by kernel_rfl))
  refine WpOps.nil ?_
  refine thenK_at ?_
  refine Wp.seq ?_
  refine Wp.text ?_
  refine WpOps.keep 14 (Value.pointer (some (Addr.mk 0 3 none))) (by kernel_rfl) (by kernel_rfl) (by kernel_rfl) ?_ (fun cf => (by kernel_rfl))
  refine WpOps.keep 15 (Value.int IntKind.i64 (Gr.life g0)) (by kernel_rfl) (by kernel_rfl) (by kernel_rfl) ?_ (fun cf => (by kernel_rfl))
  refine WpOps.keep 5 (Value.int IntKind.i64 (Gr.life g0)) (by kernel_rfl) (by kernel_rfl) (by kernel_rfl) ?_ (fun cf => (by kernel_rfl))
  refine WpOps.nil ?_
  refine thenK_at ?_
  refine Wp.seq ?_
  refine Wp.text ?_
  refine WpOps.keep 6 (Value.int IntKind.i64 0) (by kernel_rfl) (by kernel_rfl) (by kernel_rfl) ?_ (fun cf => (by kernel_rfl))
  refine WpOps.nil ?_
  refine thenK_at ?_
  refine Wp.seq ?_
  refine Wp.seq ?_
  refine Wp.text ?_
  refine WpOps.keep 7 (Value.int IntKind.i64 0) (by kernel_rfl) (by kernel_rfl) (by kernel_rfl) ?_ (fun cf => (by kernel_rfl))
  refine WpOps.nil ?_
  refine thenK_at ?_
  refine Wp.block ?_
  refine Wp.loop (G := DG) (fun d => layj [(1, sl xt tb), (2, .pointer (some ⟨0, 0, none⟩)), (5, .int .i64 g0.life), (6, .int .i64 d.n), (7, .int .i64 d.i)]) (fun d => heapOf [⟨24, true, gc d.g⟩]) (fun d => 80 - d.i) (DI g0) ⟨0, 0, g0⟩
    (View.of [0] [⟨24, true, gc g0⟩] _ (by decide) rfl ⟨⟨gc g0, by kernel_rfl, CellsOk.eq rfl (gc_flat g0)⟩, trivial⟩ ⟨⟨by kernel_rfl, rfl⟩, ⟨by kernel_rfl, rfl⟩, ⟨by kernel_rfl, rfl⟩, ⟨by kernel_rfl, rfl⟩, ⟨by kernel_rfl, rfl⟩, trivial⟩) ⟨Nat.zero_le _, Nat.le_refl _, og0, .inl ⟨rfl, rfl⟩⟩ ?_
  rintro ⟨i, n, g⟩ ⟨hi, hn, og, hI⟩
  dsimp only at hi hn og hI ⊢
  have zM : decide ((n : Int) ≤ if g0.life > 0 then g0.life else 0) = true := by
    refine decide_eq_true ?_
    split <;> omega
  refine Wp.seq ?_
  refine Wp.seq ?_
  refine Wp.text ?_
  refine WpOps.keep 16 (Value.int IntKind.i64 (↑i : Int)) (by kernel_rfl) (by kernel_rfl) (by kernel_rfl) ?_ (fun cf => (by kernel_rfl))
  refine WpOps.keep 17 (Value.bool (decide ((↑i : Int) < 80))) (by kernel_rfl) (by kernel_rfl) (by kernel_rfl) ?_ (fun cf => (by kernel_rfl))
  refine WpOps.nil ?_
  refine thenK_at ?_
  refine Wp.split (decide ((↑i : Int) < 80)) (by kernel_rfl) (fun hc => ?_) (fun hc => ?_)
  · have hi2 : i < 80 := by have := of_decide_eq_true hc; omega
    obtain ⟨t0, t1⟩ := modN_in i 2 (by decide)
    have cm := mod28 i 2 (by decide) (by decide)
    refine Wp.skip ?_
    refine thenK_at ?_
    refine Wp.seq ?_
    refine Wp.block ?_
    refine Wp.seq ?_
    refine Wp.text ?_
    refine WpOps.keep 20 (Value.int IntKind.i64 (↑i : Int)) (by kernel_rfl) (by kernel_rfl) (by kernel_rfl) ?_ (fun cf => (by kernel_rfl))
    refine WpOps.framed 21 28 [Value.int IntKind.i64 (↑i : Int), Value.int IntKind.i64 2] (by kernel_rfl) (by kernel_rfl) (by kernel_rfl) (by kernel_rfl) (by kernel_rfl) (fun cf => (by kernel_rfl)) ?_
    refine WpFun.of (cm) ?_
    refine WpOps.keep 22 (Value.agg #[Value.slice none 0 0, Value.int IntKind.i64 (modN (↑i : Int) 2)]) (by kernel_rfl) (by kernel_rfl) (by kernel_rfl) ?_ (fun cf => (by kernel_rfl))
    refine WpOps.made 23 (Value.slice (some (Addr.mk 1 0 none)) 1 1) (Blk.mk 98 true [Value.slice none 0 0, Value.int IntKind.i64 (modN (↑i : Int) 2)]) (by kernel_rfl) (by kernel_rfl) (by kernel_rfl) ?_ (fun cf => (by kernel_rfl))
    refine WpOps.keep 8 (Value.slice (some (Addr.mk 1 0 none)) 1 1) (by kernel_rfl) (by kernel_rfl) (by kernel_rfl) ?_ (fun cf => (by kernel_rfl))
    refine WpOps.nil ?_
    refine thenK_at ?_
    refine Wp.seq ?_
    refine Wp.text ?_
    refine WpOps.keep 9 (Value.int IntKind.i64 4000) (by kernel_rfl) (by kernel_rfl) (by kernel_rfl) ?_ (fun cf => (by kernel_rfl))
    refine WpOps.nil ?_
    refine thenK_at ?_
    refine Wp.seq ?_
    refine Wp.seq ?_
    refine Wp.text ?_
    refine WpOps.keep 24 (Value.int IntKind.i64 (↑i : Int)) (by kernel_rfl) (by kernel_rfl) (by kernel_rfl) ?_ (fun cf => (by kernel_rfl))
    refine WpOps.keep 25 (Value.iface 3 (Value.iface (List.length tb) (Value.iface xt (Value.agg (List.toArray (List.map (fun n => Value.int IntKind.i64 n) tb)))))) (by kernel_rfl) (by kernel_rfl) (by kernel_rfl) ?_ (fun cf => (by kernel_rfl))
    refine WpOps.keep 26 (Value.int IntKind.i64 (↑(List.length tb) : Int)) (by kernel_rfl) (by kernel_rfl) (by kernel_rfl) ?_ (fun cf => (by kernel_rfl))
    refine WpOps.keep 27 (Value.bool (decide ((↑i : Int) < (↑(List.length tb) : Int)))) (by kernel_rfl) (by kernel_rfl) (by kernel_rfl) ?_ (fun cf => (by kernel_rfl))
    refine WpOps.nil ?_
    refine thenK_at ?_
    refine Wp.split (decide ((↑i : Int) < (↑(List.length tb) : Int))) (by kernel_rfl) (fun hd => ?_) (fun hd => ?_)
    · have hb : 0 ≤ (i : Int) ∧ (i : Int) < tb.length := ⟨Int.natCast_nonneg _, of_decide_eq_true hd⟩
      have hv := sl_at tb i (by omega)
      have cm2 := mod28 (tb.getD i 0) 4000 (by decide) (by decide)
      have c := forward36 0 0 0 [7] [⟨2, [], modN i 2⟩] [⟨0, IntKind.i64.wrap (1 + modN (tb.getD i 0) 4000)⟩, ⟨1, 4000⟩] g (by decide) (.inl rfl) (fun e he => by
        obtain rfl := List.mem_singleton.1 he
        exact ⟨fun _ => rfl, Nat.zero_le _⟩) og (by simp) (fun h => by cases h)
      obtain ⟨out, line, back, err, e1, e2⟩ := fw_out 0 [7] [⟨2, [], modN i 2⟩] [⟨0, IntKind.i64.wrap (1 + modN (tb.getD i 0) 4000)⟩, ⟨1, 4000⟩] g
      rw [e1] at c
      obtain ⟨ti, ht⟩ := E3
      refine Wp.text ?_
      refine WpOps.keep 28 (Value.iface 3 (Value.iface (List.length tb) (Value.iface xt (Value.agg (List.toArray (List.map (fun n => Value.int IntKind.i64 n) tb)))))) (by kernel_rfl) (by kernel_rfl) (by kernel_rfl) ?_ (fun cf => (by kernel_rfl))
      refine WpOps.keep 29 (Value.int IntKind.i64 (↑i : Int)) (by kernel_rfl) (by kernel_rfl) (by kernel_rfl) ?_ (fun cf => (by kernel_rfl))
      refine WpOps.keep 30 (Value.iface 3 (Value.iface (Int.toNat (↑i : Int) * 1) (Value.agg (List.toArray (List.map (fun n => Value.int IntKind.i64 n) tb))))) (by kernel_rfl) (by kernel_rfl) (by kernel_rfl) ?_ (fun cf => o_indexI (e := 3) (size := 1) (a := (↑i : Int)) hb (by kernel_rfl) (by kernel_rfl) (by kernel_rfl) (by kernel_rfl))
      refine WpOps.keep 31 (Value.int IntKind.i64 (List.getD tb i 0)) (by kernel_rfl) (by kernel_rfl) (by kernel_rfl) ?_ (fun cf => o_loadI1 (Int.toNat (↑i : Int) * 1) hv (by kernel_rfl) (by kernel_rfl))
      refine WpOps.framed 32 28 [Value.int IntKind.i64 (List.getD tb i 0), Value.int IntKind.i64 4000] (by kernel_rfl) (by kernel_rfl) (by kernel_rfl) (by kernel_rfl) (by kernel_rfl) (fun cf => (by kernel_rfl)) ?_
      refine WpFun.of (cm2) ?_
      refine WpOps.keep 33 (Value.int IntKind.i64 (IntKind.wrap IntKind.i64 (1 + modN (List.getD tb i 0) 4000))) (by kernel_rfl) (by kernel_rfl) (by kernel_rfl) ?_ (fun cf => (by kernel_rfl))
      refine WpOps.keep 9 (Value.int IntKind.i64 (IntKind.wrap IntKind.i64 (1 + modN (List.getD tb i 0) 4000))) (by kernel_rfl) (by kernel_rfl) (by kernel_rfl) ?_ (fun cf => (by kernel_rfl))
      refine WpOps.nil ?_
      refine thenK_at ?_
      refine Wp.seq ?_
      refine Wp.text ?_
      refine WpOps.made 35 (Value.slice (some (Addr.mk 2 0 none)) 1 1) (Blk.mk 3 true [Value.int IntKind.i64 7]) (by kernel_rfl) (by kernel_rfl) (by kernel_rfl) ?_ (fun cf => (by kernel_rfl))
      refine WpOps.keep 36 (Value.slice (some (Addr.mk 1 0 none)) 1 1) (by kernel_rfl) (by kernel_rfl) (by kernel_rfl) ?_ (fun cf => (by kernel_rfl))
      refine WpOps.keep 37 (Value.int IntKind.i64 (IntKind.wrap IntKind.i64 (1 + modN (List.getD tb i 0) 4000))) (by kernel_rfl) (by kernel_rfl) (by kernel_rfl) ?_ (fun cf => (by kernel_rfl))
      refine WpOps.keep 38 (Value.agg #[Value.int IntKind.i64 0, Value.int IntKind.i64 (IntKind.wrap IntKind.i64 (1 + modN (List.getD tb i 0) 4000))]) (by kernel_rfl) (by kernel_rfl) (by kernel_rfl) ?_ (fun cf => (by kernel_rfl))
      refine WpOps.keep 39 (Value.agg #[Value.int IntKind.i64 1, Value.int IntKind.i64 4000]) (by kernel_rfl) (by kernel_rfl) (by kernel_rfl) ?_ (fun cf => (by kernel_rfl))
      refine WpOps.made 40 (Value.slice (some (Addr.mk 3 0 none)) 2 2) (Blk.mk 76 true [Value.int IntKind.i64 0, Value.int IntKind.i64 (IntKind.wrap IntKind.i64 (1 + modN (List.getD tb i 0) 4000)), Value.int IntKind.i64 1, Value.int IntKind.i64 4000]) (by kernel_rfl) (by kernel_rfl) (by kernel_rfl) ?_ (fun cf => (by kernel_rfl))
      refine WpOps.keep 41 (Value.agg #[Value.iface 3 (Value.iface (List.length (Gr.fr g)) (Value.iface (Gr.fx g) (Value.agg (List.toArray (List.map (fun n => Value.int IntKind.i64 n) (Gr.fr g)))))), Value.iface 3 (Value.iface (List.length (Gr.to g)) (Value.iface (Gr.tx g) (Value.agg (List.toArray (List.map (fun n => Value.int IntKind.i64 n) (Gr.to g)))))), Value.int IntKind.i64 (Gr.number g), Value.int IntKind.i64 (Gr.life g), Value.int IntKind.i64 (Gr.at' g), Value.int IntKind.i64 (Gr.total g), Value.int IntKind.i64 (Gr.report g), Value.bool (Gr.more g), Value.bool (Gr.may g), Value.bool (Gr.wants g), Value.string (Gr.data g)]) (by kernel_rfl) (by kernel_rfl) (by kernel_rfl) ?_ (fun cf => (by kernel_rfl))
      refine WpOps.called 42 36 [Value.slice (some (Addr.mk 2 0 none)) 1 1, Value.slice (some (Addr.mk 1 0 none)) 1 1, Value.slice (some (Addr.mk 3 0 none)) 2 2, Value.agg #[Value.iface 3 (Value.iface (List.length (Gr.fr g)) (Value.iface (Gr.fx g) (Value.agg (List.toArray (List.map (fun n => Value.int IntKind.i64 n) (Gr.fr g)))))), Value.iface 3 (Value.iface (List.length (Gr.to g)) (Value.iface (Gr.tx g) (Value.agg (List.toArray (List.map (fun n => Value.int IntKind.i64 n) (Gr.to g)))))), Value.int IntKind.i64 (Gr.number g), Value.int IntKind.i64 (Gr.life g), Value.int IntKind.i64 (Gr.at' g), Value.int IntKind.i64 (Gr.total g), Value.int IntKind.i64 (Gr.report g), Value.bool (Gr.more g), Value.bool (Gr.may g), Value.bool (Gr.wants g), Value.string (Gr.data g)]] (by kernel_rfl) (by kernel_rfl) (by kernel_rfl) (by kernel_rfl) (fun cf => (by kernel_rfl)) ?_
      refine WpCall.consumeN (args2 := [FS 3 1 0 #[.int .i64 7], FS 98 1 0 #[.slice none 0 0, .int .i64 (modN i 2)], FS 76 2 0 #[.int .i64 0, .int .i64 (IntKind.i64.wrap (1 + modN (tb.getD i 0) 4000)), .int .i64 1, .int .i64 4000], gv g]) [0] c (by kernel_rfl) (.cons (NilA.rfl' _) (.cons (.fs 98 1 0 _ _ (.cons (.inr ⟨rfl, 3, ti, ht, rfl⟩) (.cons (.inl rfl) .nil))) (.cons (NilA.rfl' _) (.cons (NilA.rfl' _) .nil)))) (by kernel_rfl) ?_
      rcases e2 with he | ⟨rfl, rfl⟩ | ⟨rfl, hl, o, size, rfl, hk, hlife, k1, k2, hcut⟩
      · refine WpOps.keep 34 (Value.tuple #[out, Value.int IntKind.i64 line, back, Value.int IntKind.i64 err]) (by kernel_rfl) (by kernel_rfl) (by kernel_rfl) ?_ (fun cf => (by kernel_rfl))
        refine WpOps.keep 43 (out) (by kernel_rfl) (by kernel_rfl) (by kernel_rfl) ?_ (fun cf => (by kernel_rfl))
        refine WpOps.keep 44 (Value.int IntKind.i64 line) (by kernel_rfl) (by kernel_rfl) (by kernel_rfl) ?_ (fun cf => (by kernel_rfl))
        refine WpOps.keep 45 (back) (by kernel_rfl) (by kernel_rfl) (by kernel_rfl) ?_ (fun cf => (by kernel_rfl))
        refine WpOps.keep 46 (Value.int IntKind.i64 err) (by kernel_rfl) (by kernel_rfl) (by kernel_rfl) ?_ (fun cf => (by kernel_rfl))
        refine WpOps.keep 10 (out) (by kernel_rfl) (by kernel_rfl) (by kernel_rfl) ?_ (fun cf => (by kernel_rfl))
        refine WpOps.keep 11 (Value.int IntKind.i64 line) (by kernel_rfl) (by kernel_rfl) (by kernel_rfl) ?_ (fun cf => (by kernel_rfl))
        refine WpOps.keep 12 (back) (by kernel_rfl) (by kernel_rfl) (by kernel_rfl) ?_ (fun cf => (by kernel_rfl))
        refine WpOps.keep 13 (Value.int IntKind.i64 err) (by kernel_rfl) (by kernel_rfl) (by kernel_rfl) ?_ (fun cf => (by kernel_rfl))
        refine WpOps.nil ?_
        refine thenK_at ?_
        refine Wp.seq ?_
        refine Wp.seq ?_
        refine Wp.text ?_
        refine WpOps.keep 47 (Value.int IntKind.i64 err) (by kernel_rfl) (by kernel_rfl) (by kernel_rfl) ?_ (fun cf => (by kernel_rfl))
        refine WpOps.keep 48 (Value.bool true) (by kernel_rfl) (by kernel_rfl) (by kernel_rfl) ?_ (fun cf => by_fact he ((by kernel_rfl)))
        refine WpOps.keep 49 (Value.bool true) (by kernel_rfl) (by kernel_rfl) (by kernel_rfl) ?_ (fun cf => (by kernel_rfl))
        refine WpOps.unmet 50 (by kernel_rfl) (by kernel_rfl) (by kernel_rfl) ?_
        refine WpOps.unmet 51 (by kernel_rfl) (by kernel_rfl) (by kernel_rfl) ?_
        refine WpOps.keep 52 (Value.bool true) (by kernel_rfl) (by kernel_rfl) (by kernel_rfl) ?_ (fun cf => (by kernel_rfl))
        refine WpOps.keep 53 (Value.bool true) (by kernel_rfl) (by kernel_rfl) (by kernel_rfl) ?_ (fun cf => (by kernel_rfl))
        refine WpOps.unmet 54 (by kernel_rfl) (by kernel_rfl) (by kernel_rfl) ?_
        refine WpOps.unmet 55 (by kernel_rfl) (by kernel_rfl) (by kernel_rfl) ?_
        refine WpOps.unmet 56 (by kernel_rfl) (by kernel_rfl) (by kernel_rfl) ?_
        refine WpOps.keep 57 (Value.bool true) (by kernel_rfl) (by kernel_rfl) (by kernel_rfl) ?_ (fun cf => (by kernel_rfl))
        refine WpOps.nil ?_
        refine thenK_at ?_
        refine Wp.on (by kernel_rfl) ?_
        refine Wp.exit ?_
        refine thenK_exit ?_
        refine blockK_miss (by decide) ?_
        refine thenK_exit ?_
        refine thenK_exit ?_
        refine blockK_hit ?_
        refine thenK_at ?_
        refine Wp.seq ?_
        refine Wp.text ?_
        refine WpOps.keep 66 (Value.int IntKind.i64 (↑n : Int)) (by kernel_rfl) (by kernel_rfl) (by kernel_rfl) ?_ (fun cf => (by kernel_rfl))
        refine WpOps.keep 67 (Value.int IntKind.i64 (Gr.life g0)) (by kernel_rfl) (by kernel_rfl) (by kernel_rfl) ?_ (fun cf => (by kernel_rfl))
        refine WpOps.keep 68 (Value.int IntKind.i64 (if Gr.life g0 > 0 then Gr.life g0 else 0)) (by kernel_rfl) (by kernel_rfl) (by kernel_rfl) ?_ (fun cf => (by kernel_rfl))
        refine WpOps.keep 69 (Value.bool true) (by kernel_rfl) (by kernel_rfl) (by kernel_rfl) ?_ (fun cf => by_fact zM ((by kernel_rfl)))
        refine WpOps.keep 70 (Value.bool true) (by kernel_rfl) (by kernel_rfl) (by kernel_rfl) ?_ (fun cf => (by kernel_rfl))
        refine WpOps.framed 71 19 [] (by kernel_rfl) (by kernel_rfl) (by kernel_rfl) (by kernel_rfl) (by kernel_rfl) (fun cf => (by kernel_rfl)) ?_
        refine WpFun.of (c9) ?_
        refine WpOps.keep 72 (Value.bool true) (by kernel_rfl) (by kernel_rfl) (by kernel_rfl) ?_ (fun cf => (by kernel_rfl))
        refine WpOps.keep 4 (Value.bool true) (by kernel_rfl) (by kernel_rfl) (by kernel_rfl) ?_ (fun cf => (by kernel_rfl))
        refine WpOps.nil ?_
        refine thenK_at ?_
        refine Wp.ret ?_
        refine endK_retn [Value.bool true] (Value.bool true) (by kernel_rfl) (by kernel_rfl) ?_
        kernel_rfl
      · refine WpOps.keep 34 (Value.tuple #[out, Value.int IntKind.i64 (-1), back, Value.int IntKind.i64 0]) (by kernel_rfl) (by kernel_rfl) (by kernel_rfl) ?_ (fun cf => (by kernel_rfl))
        refine WpOps.keep 43 (out) (by kernel_rfl) (by kernel_rfl) (by kernel_rfl) ?_ (fun cf => (by kernel_rfl))
        refine WpOps.keep 44 (Value.int IntKind.i64 (-1)) (by kernel_rfl) (by kernel_rfl) (by kernel_rfl) ?_ (fun cf => (by kernel_rfl))
        refine WpOps.keep 45 (back) (by kernel_rfl) (by kernel_rfl) (by kernel_rfl) ?_ (fun cf => (by kernel_rfl))
        refine WpOps.keep 46 (Value.int IntKind.i64 0) (by kernel_rfl) (by kernel_rfl) (by kernel_rfl) ?_ (fun cf => (by kernel_rfl))
        refine WpOps.keep 10 (out) (by kernel_rfl) (by kernel_rfl) (by kernel_rfl) ?_ (fun cf => (by kernel_rfl))
        refine WpOps.keep 11 (Value.int IntKind.i64 (-1)) (by kernel_rfl) (by kernel_rfl) (by kernel_rfl) ?_ (fun cf => (by kernel_rfl))
        refine WpOps.keep 12 (back) (by kernel_rfl) (by kernel_rfl) (by kernel_rfl) ?_ (fun cf => (by kernel_rfl))
        refine WpOps.keep 13 (Value.int IntKind.i64 0) (by kernel_rfl) (by kernel_rfl) (by kernel_rfl) ?_ (fun cf => (by kernel_rfl))
        refine WpOps.nil ?_
        refine thenK_at ?_
        refine Wp.seq ?_
        refine Wp.seq ?_
        refine Wp.text ?_
        refine WpOps.keep 47 (Value.int IntKind.i64 0) (by kernel_rfl) (by kernel_rfl) (by kernel_rfl) ?_ (fun cf => (by kernel_rfl))
        refine WpOps.keep 48 (Value.bool false) (by kernel_rfl) (by kernel_rfl) (by kernel_rfl) ?_ (fun cf => (by kernel_rfl))
        refine WpOps.keep 49 (Value.bool false) (by kernel_rfl) (by kernel_rfl) (by kernel_rfl) ?_ (fun cf => (by kernel_rfl))
        refine WpOps.keep 50 (Value.int IntKind.i64 (-1)) (by kernel_rfl) (by kernel_rfl) (by kernel_rfl) ?_ (fun cf => (by kernel_rfl))
        refine WpOps.keep 51 (Value.bool true) (by kernel_rfl) (by kernel_rfl) (by kernel_rfl) ?_ (fun cf => (by kernel_rfl))
        refine WpOps.keep 52 (Value.bool true) (by kernel_rfl) (by kernel_rfl) (by kernel_rfl) ?_ (fun cf => (by kernel_rfl))
        refine WpOps.keep 53 (Value.bool true) (by kernel_rfl) (by kernel_rfl) (by kernel_rfl) ?_ (fun cf => (by kernel_rfl))
        refine WpOps.unmet 54 (by kernel_rfl) (by kernel_rfl) (by kernel_rfl) ?_
        refine WpOps.unmet 55 (by kernel_rfl) (by kernel_rfl) (by kernel_rfl) ?_
        refine WpOps.unmet 56 (by kernel_rfl) (by kernel_rfl) (by kernel_rfl) ?_
        refine WpOps.keep 57 (Value.bool true) (by kernel_rfl) (by kernel_rfl) (by kernel_rfl) ?_ (fun cf => (by kernel_rfl))
        refine WpOps.nil ?_
        refine thenK_at ?_
        refine Wp.on (by kernel_rfl) ?_
        refine Wp.exit ?_
        refine thenK_exit ?_
        refine blockK_miss (by decide) ?_
        refine thenK_exit ?_
        refine thenK_exit ?_
        refine blockK_hit ?_
        refine thenK_at ?_
        refine Wp.seq ?_
        refine Wp.text ?_
        refine WpOps.keep 66 (Value.int IntKind.i64 (↑n : Int)) (by kernel_rfl) (by kernel_rfl) (by kernel_rfl) ?_ (fun cf => (by kernel_rfl))
        refine WpOps.keep 67 (Value.int IntKind.i64 (Gr.life g0)) (by kernel_rfl) (by kernel_rfl) (by kernel_rfl) ?_ (fun cf => (by kernel_rfl))
        refine WpOps.keep 68 (Value.int IntKind.i64 (if Gr.life g0 > 0 then Gr.life g0 else 0)) (by kernel_rfl) (by kernel_rfl) (by kernel_rfl) ?_ (fun cf => (by kernel_rfl))
        refine WpOps.keep 69 (Value.bool true) (by kernel_rfl) (by kernel_rfl) (by kernel_rfl) ?_ (fun cf => by_fact zM ((by kernel_rfl)))
        refine WpOps.keep 70 (Value.bool true) (by kernel_rfl) (by kernel_rfl) (by kernel_rfl) ?_ (fun cf => (by kernel_rfl))
        refine WpOps.framed 71 19 [] (by kernel_rfl) (by kernel_rfl) (by kernel_rfl) (by kernel_rfl) (by kernel_rfl) (fun cf => (by kernel_rfl)) ?_
        refine WpFun.of (c9) ?_
        refine WpOps.keep 72 (Value.bool true) (by kernel_rfl) (by kernel_rfl) (by kernel_rfl) ?_ (fun cf => (by kernel_rfl))
        refine WpOps.keep 4 (Value.bool true) (by kernel_rfl) (by kernel_rfl) (by kernel_rfl) ?_ (fun cf => (by kernel_rfl))
        refine WpOps.nil ?_
        refine thenK_at ?_
        refine Wp.ret ?_
        refine endK_retn [Value.bool true] (Value.bool true) (by kernel_rfl) (by kernel_rfl) ?_
        kernel_rfl
      · have zl : decide (line < 0) = false := decide_eq_false (by omega)
        by_cases h0 : o.length = 0
        · have z0 : (((o.length : Nat) : Int) == 0) = true := by rw [h0]; rfl
          refine WpOps.keep 34 (Value.tuple #[grams 24 o, Value.int IntKind.i64 line, back, Value.int IntKind.i64 0]) (by kernel_rfl) (by kernel_rfl) (by kernel_rfl) ?_ (fun cf => (by kernel_rfl))
          refine WpOps.keep 43 (Value.iface 24 (Value.iface (List.length o) (Value.iface 0 (Value.agg (List.toArray (cellsG o)))))) (by kernel_rfl) (by kernel_rfl) (by kernel_rfl) ?_ (fun cf => (by kernel_rfl))
          refine WpOps.keep 44 (Value.int IntKind.i64 line) (by kernel_rfl) (by kernel_rfl) (by kernel_rfl) ?_ (fun cf => (by kernel_rfl))
          refine WpOps.keep 45 (back) (by kernel_rfl) (by kernel_rfl) (by kernel_rfl) ?_ (fun cf => (by kernel_rfl))
          refine WpOps.keep 46 (Value.int IntKind.i64 0) (by kernel_rfl) (by kernel_rfl) (by kernel_rfl) ?_ (fun cf => (by kernel_rfl))
          refine WpOps.keep 10 (Value.iface 24 (Value.iface (List.length o) (Value.iface 0 (Value.agg (List.toArray (cellsG o)))))) (by kernel_rfl) (by kernel_rfl) (by kernel_rfl) ?_ (fun cf => (by kernel_rfl))
          refine WpOps.keep 11 (Value.int IntKind.i64 line) (by kernel_rfl) (by kernel_rfl) (by kernel_rfl) ?_ (fun cf => (by kernel_rfl))
          refine WpOps.keep 12 (back) (by kernel_rfl) (by kernel_rfl) (by kernel_rfl) ?_ (fun cf => (by kernel_rfl))
          refine WpOps.keep 13 (Value.int IntKind.i64 0) (by kernel_rfl) (by kernel_rfl) (by kernel_rfl) ?_ (fun cf => (by kernel_rfl))
          refine WpOps.nil ?_
          refine thenK_at ?_
          refine Wp.seq ?_
          refine Wp.seq ?_
          refine Wp.text ?_
          refine WpOps.keep 47 (Value.int IntKind.i64 0) (by kernel_rfl) (by kernel_rfl) (by kernel_rfl) ?_ (fun cf => (by kernel_rfl))
          refine WpOps.keep 48 (Value.bool false) (by kernel_rfl) (by kernel_rfl) (by kernel_rfl) ?_ (fun cf => (by kernel_rfl))
          refine WpOps.keep 49 (Value.bool false) (by kernel_rfl) (by kernel_rfl) (by kernel_rfl) ?_ (fun cf => (by kernel_rfl))
          refine WpOps.keep 50 (Value.int IntKind.i64 line) (by kernel_rfl) (by kernel_rfl) (by kernel_rfl) ?_ (fun cf => (by kernel_rfl))
          refine WpOps.keep 51 (Value.bool false) (by kernel_rfl) (by kernel_rfl) (by kernel_rfl) ?_ (fun cf => by_fact zl ((by kernel_rfl)))
          refine WpOps.keep 52 (Value.bool false) (by kernel_rfl) (by kernel_rfl) (by kernel_rfl) ?_ (fun cf => (by kernel_rfl))
          refine WpOps.keep 53 (Value.bool false) (by kernel_rfl) (by kernel_rfl) (by kernel_rfl) ?_ (fun cf => (by kernel_rfl))
          refine WpOps.keep 54 (Value.iface 24 (Value.iface (List.length o) (Value.iface 0 (Value.agg (List.toArray (cellsG o)))))) (by kernel_rfl) (by kernel_rfl) (by kernel_rfl) ?_ (fun cf => (by kernel_rfl))
          refine WpOps.keep 55 (Value.int IntKind.i64 (↑(List.length o) : Int)) (by kernel_rfl) (by kernel_rfl) (by kernel_rfl) ?_ (fun cf => (by kernel_rfl))
          refine WpOps.keep 56 (Value.bool true) (by kernel_rfl) (by kernel_rfl) (by kernel_rfl) ?_ (fun cf => by_fact z0 ((by kernel_rfl)))
          refine WpOps.keep 57 (Value.bool true) (by kernel_rfl) (by kernel_rfl) (by kernel_rfl) ?_ (fun cf => (by kernel_rfl))
          refine WpOps.nil ?_
          refine thenK_at ?_
          refine Wp.on (by kernel_rfl) ?_
          refine Wp.exit ?_
          refine thenK_exit ?_
          refine blockK_miss (by decide) ?_
          refine thenK_exit ?_
          refine thenK_exit ?_
          refine blockK_hit ?_
          refine thenK_at ?_
          refine Wp.seq ?_
          refine Wp.text ?_
          refine WpOps.keep 66 (Value.int IntKind.i64 (↑n : Int)) (by kernel_rfl) (by kernel_rfl) (by kernel_rfl) ?_ (fun cf => (by kernel_rfl))
          refine WpOps.keep 67 (Value.int IntKind.i64 (Gr.life g0)) (by kernel_rfl) (by kernel_rfl) (by kernel_rfl) ?_ (fun cf => (by kernel_rfl))
          refine WpOps.keep 68 (Value.int IntKind.i64 (if Gr.life g0 > 0 then Gr.life g0 else 0)) (by kernel_rfl) (by kernel_rfl) (by kernel_rfl) ?_ (fun cf => (by kernel_rfl))
          refine WpOps.keep 69 (Value.bool true) (by kernel_rfl) (by kernel_rfl) (by kernel_rfl) ?_ (fun cf => by_fact zM ((by kernel_rfl)))
          refine WpOps.keep 70 (Value.bool true) (by kernel_rfl) (by kernel_rfl) (by kernel_rfl) ?_ (fun cf => (by kernel_rfl))
          refine WpOps.framed 71 19 [] (by kernel_rfl) (by kernel_rfl) (by kernel_rfl) (by kernel_rfl) (by kernel_rfl) (fun cf => (by kernel_rfl)) ?_
          refine WpFun.of (c9) ?_
          refine WpOps.keep 72 (Value.bool true) (by kernel_rfl) (by kernel_rfl) (by kernel_rfl) ?_ (fun cf => (by kernel_rfl))
          refine WpOps.keep 4 (Value.bool true) (by kernel_rfl) (by kernel_rfl) (by kernel_rfl) ?_ (fun cf => (by kernel_rfl))
          refine WpOps.nil ?_
          refine thenK_at ?_
          refine Wp.ret ?_
          refine endK_retn [Value.bool true] (Value.bool true) (by kernel_rfl) (by kernel_rfl) ?_
          kernel_rfl
        · have z0 : (((o.length : Nat) : Int) == 0) = false := beq_eq_false_iff_ne.2 (by omega)
          have hd4 := okG_size hk
          have ho4 : o.length ≤ 4000 := cut_len (g := lifeDown g) hd4 hcut
          have i6 : IntKind.i64.wrap ((o.length : Int) - 1) = ((o.length - 1 : Nat) : Int) := by rw [wr _ (by omega) (by omega)]; omega
          have hx : 0 ≤ IntKind.i64.wrap ((o.length : Int) - 1) ∧ IntKind.i64.wrap ((o.length : Int) - 1) < o.length := by rw [i6]; omega
          have hlt : o.length - 1 < o.length := by omega
          have hv2 : cellsAt (cellsG o) ((IntKind.i64.wrap ((o.length : Int) - 1)).toNat * 11) 11 = some (gc (o[o.length - 1]'hlt)) := by
            rw [i6]
            exact cells_at o (o.length - 1) hlt
          obtain ⟨op, lp⟩ := cut_in (g := lifeDown g) ⟨og.fx, og.tx, og.fl, og.tl⟩ hcut _ (List.getElem_mem hlt)
          have hlf : (lifeDown g).life = g.life - 1 := by
            have := okG_life hk
            show IntKind.i64.wrap (g.life - 1) = _
            rw [wr _ (by omega) (by omega)]
          refine WpOps.keep 34 (Value.tuple #[grams 24 o, Value.int IntKind.i64 line, back, Value.int IntKind.i64 0]) (by kernel_rfl) (by kernel_rfl) (by kernel_rfl) ?_ (fun cf => (by kernel_rfl))
          refine WpOps.keep 43 (Value.iface 24 (Value.iface (List.length o) (Value.iface 0 (Value.agg (List.toArray (cellsG o)))))) (by kernel_rfl) (by kernel_rfl) (by kernel_rfl) ?_ (fun cf => (by kernel_rfl))
          refine WpOps.keep 44 (Value.int IntKind.i64 line) (by kernel_rfl) (by kernel_rfl) (by kernel_rfl) ?_ (fun cf => (by kernel_rfl))
          refine WpOps.keep 45 (back) (by kernel_rfl) (by kernel_rfl) (by kernel_rfl) ?_ (fun cf => (by kernel_rfl))
          refine WpOps.keep 46 (Value.int IntKind.i64 0) (by kernel_rfl) (by kernel_rfl) (by kernel_rfl) ?_ (fun cf => (by kernel_rfl))
          refine WpOps.keep 10 (Value.iface 24 (Value.iface (List.length o) (Value.iface 0 (Value.agg (List.toArray (cellsG o)))))) (by kernel_rfl) (by kernel_rfl) (by kernel_rfl) ?_ (fun cf => (by kernel_rfl))
          refine WpOps.keep 11 (Value.int IntKind.i64 line) (by kernel_rfl) (by kernel_rfl) (by kernel_rfl) ?_ (fun cf => (by kernel_rfl))
          refine WpOps.keep 12 (back) (by kernel_rfl) (by kernel_rfl) (by kernel_rfl) ?_ (fun cf => (by kernel_rfl))
          refine WpOps.keep 13 (Value.int IntKind.i64 0) (by kernel_rfl) (by kernel_rfl) (by kernel_rfl) ?_ (fun cf => (by kernel_rfl))
          refine WpOps.nil ?_
          refine thenK_at ?_
          refine Wp.seq ?_
          refine Wp.seq ?_
          refine Wp.text ?_
          refine WpOps.keep 47 (Value.int IntKind.i64 0) (by kernel_rfl) (by kernel_rfl) (by kernel_rfl) ?_ (fun cf => (by kernel_rfl))
          refine WpOps.keep 48 (Value.bool false) (by kernel_rfl) (by kernel_rfl) (by kernel_rfl) ?_ (fun cf => (by kernel_rfl))
          refine WpOps.keep 49 (Value.bool false) (by kernel_rfl) (by kernel_rfl) (by kernel_rfl) ?_ (fun cf => (by kernel_rfl))
          refine WpOps.keep 50 (Value.int IntKind.i64 line) (by kernel_rfl) (by kernel_rfl) (by kernel_rfl) ?_ (fun cf => (by kernel_rfl))
          refine WpOps.keep 51 (Value.bool false) (by kernel_rfl) (by kernel_rfl) (by kernel_rfl) ?_ (fun cf => by_fact zl ((by kernel_rfl)))
          refine WpOps.keep 52 (Value.bool false) (by kernel_rfl) (by kernel_rfl) (by kernel_rfl) ?_ (fun cf => (by kernel_rfl))
          refine WpOps.keep 53 (Value.bool false) (by kernel_rfl) (by kernel_rfl) (by kernel_rfl) ?_ (fun cf => (by kernel_rfl))
          refine WpOps.keep 54 (Value.iface 24 (Value.iface (List.length o) (Value.iface 0 (Value.agg (List.toArray (cellsG o)))))) (by kernel_rfl) (by kernel_rfl) (by kernel_rfl) ?_ (fun cf => (by kernel_rfl))
          refine WpOps.keep 55 (Value.int IntKind.i64 (↑(List.length o) : Int)) (by kernel_rfl) (by kernel_rfl) (by kernel_rfl) ?_ (fun cf => (by kernel_rfl))
          refine WpOps.keep 56 (Value.bool false) (by kernel_rfl) (by kernel_rfl) (by kernel_rfl) ?_ (fun cf => by_fact z0 ((by kernel_rfl)))
          refine WpOps.keep 57 (Value.bool false) (by kernel_rfl) (by kernel_rfl) (by kernel_rfl) ?_ (fun cf => (by kernel_rfl))
          refine WpOps.nil ?_
          refine thenK_at ?_
          refine Wp.off (by kernel_rfl) ?_
          refine Wp.skip ?_
          refine thenK_at ?_
          refine Wp.seq ?_
          refine Wp.text ?_
          refine WpOps.keep 58 (Value.int IntKind.i64 (↑n : Int)) (by kernel_rfl) (by kernel_rfl) (by kernel_rfl) ?_ (fun cf => (by kernel_rfl))
          refine WpOps.keep 59 (Value.int IntKind.i64 (IntKind.wrap IntKind.i64 ((↑n : Int) + 1))) (by kernel_rfl) (by kernel_rfl) (by kernel_rfl) ?_ (fun cf => (by kernel_rfl))
          refine WpOps.keep 6 (Value.int IntKind.i64 (IntKind.wrap IntKind.i64 ((↑n : Int) + 1))) (by kernel_rfl) (by kernel_rfl) (by kernel_rfl) ?_ (fun cf => (by kernel_rfl))
          refine WpOps.nil ?_
          refine thenK_at ?_
          refine Wp.text ?_
          refine WpOps.keep 60 (Value.iface 24 (Value.iface (List.length o) (Value.iface 0 (Value.agg (List.toArray (cellsG o)))))) (by kernel_rfl) (by kernel_rfl) (by kernel_rfl) ?_ (fun cf => (by kernel_rfl))
          refine WpOps.keep 61 (Value.iface 24 (Value.iface (List.length o) (Value.iface 0 (Value.agg (List.toArray (cellsG o)))))) (by kernel_rfl) (by kernel_rfl) (by kernel_rfl) ?_ (fun cf => (by kernel_rfl))
          refine WpOps.keep 62 (Value.int IntKind.i64 (↑(List.length o) : Int)) (by kernel_rfl) (by kernel_rfl) (by kernel_rfl) ?_ (fun cf => (by kernel_rfl))
          refine WpOps.keep 63 (Value.int IntKind.i64 (IntKind.wrap IntKind.i64 ((↑(List.length o) : Int) - 1))) (by kernel_rfl) (by kernel_rfl) (by kernel_rfl) ?_ (fun cf => (by kernel_rfl))
          refine WpOps.keep 64 (Value.iface 24 (Value.iface (Int.toNat (IntKind.wrap IntKind.i64 ((↑(List.length o) : Int) - 1)) * 11) (Value.agg (List.toArray (cellsG o))))) (by kernel_rfl) (by kernel_rfl) (by kernel_rfl) ?_ (fun cf => o_indexI (e := 24) (size := 11) (a := IntKind.wrap IntKind.i64 ((↑(List.length o) : Int) - 1)) hx (by kernel_rfl) (by kernel_rfl) (by kernel_rfl) (by kernel_rfl))
          refine WpOps.keep 65 (Value.agg (List.toArray (gc o[List.length o - 1]))) (by kernel_rfl) (by kernel_rfl) (by kernel_rfl) ?_ (fun cf => o_loadIA (Int.toNat (IntKind.wrap IntKind.i64 ((↑(List.length o) : Int) - 1)) * 11) hv2 (by kernel_rfl) (by kernel_rfl))
          refine WpOps.laid (Value.tuple #[]) (0) (Blk.mk 24 true [Value.iface 3 (Value.iface (List.length (Gr.fr o[List.length o - 1])) (Value.iface (Gr.fx o[List.length o - 1]) (Value.agg (List.toArray (List.map (fun n => Value.int IntKind.i64 n) (Gr.fr o[List.length o - 1])))))), Value.iface 3 (Value.iface (List.length (Gr.to o[List.length o - 1])) (Value.iface (Gr.tx o[List.length o - 1]) (Value.agg (List.toArray (List.map (fun n => Value.int IntKind.i64 n) (Gr.to o[List.length o - 1])))))), Value.int IntKind.i64 (Gr.number o[List.length o - 1]), Value.int IntKind.i64 (Gr.life o[List.length o - 1]), Value.int IntKind.i64 (Gr.at' o[List.length o - 1]), Value.int IntKind.i64 (Gr.total o[List.length o - 1]), Value.int IntKind.i64 (Gr.report o[List.length o - 1]), Value.bool (Gr.more o[List.length o - 1]), Value.bool (Gr.may o[List.length o - 1]), Value.bool (Gr.wants o[List.length o - 1]), Value.string (Gr.data o[List.length o - 1])]) (by kernel_rfl) (by kernel_rfl) (by kernel_rfl) ?_ (fun cf => (by kernel_rfl))
          refine WpOps.nil ?_
          refine blockK_norm ?_
          refine thenK_at ?_
          refine Wp.text ?_
          refine WpOps.keep 18 (Value.int IntKind.i64 (↑i : Int)) (by kernel_rfl) (by kernel_rfl) (by kernel_rfl) ?_ (fun cf => (by kernel_rfl))
          refine WpOps.keep 19 (Value.int IntKind.i64 (IntKind.wrap IntKind.i64 ((↑i : Int) + 1))) (by kernel_rfl) (by kernel_rfl) (by kernel_rfl) ?_ (fun cf => (by kernel_rfl))
          refine WpOps.keep 7 (Value.int IntKind.i64 (IntKind.wrap IntKind.i64 ((↑i : Int) + 1))) (by kernel_rfl) (by kernel_rfl) (by kernel_rfl) ?_ (fun cf => (by kernel_rfl))
          refine WpOps.nil ?_
          refine thenK_at ?_
          exact ⟨⟨i + 1, n + 1, o[o.length - 1]'hlt⟩, by dsimp only; omega, ⟨by dsimp only; omega, by dsimp only; omega, op, .inr (by
              dsimp only
              rw [lp, hlf]
              rcases hI with ⟨h1, h2⟩ | h1
              · subst h1 h2
                omega
              · omega)⟩, View.of [0] [⟨24, true, gc (o[o.length - 1]'hlt)⟩] _ (by decide) rfl ⟨⟨gc (o[o.length - 1]'hlt), by kernel_rfl, CellsOk.eq rfl (gc_flat _)⟩, trivial⟩ ⟨⟨by kernel_rfl, rfl⟩, ⟨by kernel_rfl, rfl⟩, ⟨by kernel_rfl, rfl⟩, ⟨congrArg (Value.int .i64) (wr _ (by omega) (by omega)), rfl⟩, ⟨congrArg (Value.int .i64) (wr _ (by omega) (by omega)), rfl⟩, trivial⟩⟩
    · have c := forward36 0 0 0 [7] [⟨2, [], modN i 2⟩] [⟨0, 4000⟩, ⟨1, 4000⟩] g (by decide) (.inl rfl) (fun e he => by
        obtain rfl := List.mem_singleton.1 he
        exact ⟨fun _ => rfl, Nat.zero_le _⟩) og (by simp) (fun h => by cases h)
      obtain ⟨out, line, back, err, e1, e2⟩ := fw_out 0 [7] [⟨2, [], modN i 2⟩] [⟨0, 4000⟩, ⟨1, 4000⟩] g
      rw [e1] at c
      obtain ⟨ti, ht⟩ := E3
      refine Wp.skip ?_
      refine thenK_at ?_
      refine Wp.seq ?_
      refine Wp.text ?_
      refine WpOps.made 35 (Value.slice (some (Addr.mk 2 0 none)) 1 1) (Blk.mk 3 true [Value.int IntKind.i64 7]) (by kernel_rfl) (by kernel_rfl) (by kernel_rfl) ?_ (fun cf => (by kernel_rfl))
      refine WpOps.keep 36 (Value.slice (some (Addr.mk 1 0 none)) 1 1) (by kernel_rfl) (by kernel_rfl) (by kernel_rfl) ?_ (fun cf => (by kernel_rfl))
      refine WpOps.keep 37 (Value.int IntKind.i64 4000) (by kernel_rfl) (by kernel_rfl) (by kernel_rfl) ?_ (fun cf => (by kernel_rfl))
      refine WpOps.keep 38 (Value.agg #[Value.int IntKind.i64 0, Value.int IntKind.i64 4000]) (by kernel_rfl) (by kernel_rfl) (by kernel_rfl) ?_ (fun cf => (by kernel_rfl))
      refine WpOps.keep 39 (Value.agg #[Value.int IntKind.i64 1, Value.int IntKind.i64 4000]) (by kernel_rfl) (by kernel_rfl) (by kernel_rfl) ?_ (fun cf => (by kernel_rfl))
      refine WpOps.made 40 (Value.slice (some (Addr.mk 3 0 none)) 2 2) (Blk.mk 76 true [Value.int IntKind.i64 0, Value.int IntKind.i64 4000, Value.int IntKind.i64 1, Value.int IntKind.i64 4000]) (by kernel_rfl) (by kernel_rfl) (by kernel_rfl) ?_ (fun cf => (by kernel_rfl))
      refine WpOps.keep 41 (Value.agg #[Value.iface 3 (Value.iface (List.length (Gr.fr g)) (Value.iface (Gr.fx g) (Value.agg (List.toArray (List.map (fun n => Value.int IntKind.i64 n) (Gr.fr g)))))), Value.iface 3 (Value.iface (List.length (Gr.to g)) (Value.iface (Gr.tx g) (Value.agg (List.toArray (List.map (fun n => Value.int IntKind.i64 n) (Gr.to g)))))), Value.int IntKind.i64 (Gr.number g), Value.int IntKind.i64 (Gr.life g), Value.int IntKind.i64 (Gr.at' g), Value.int IntKind.i64 (Gr.total g), Value.int IntKind.i64 (Gr.report g), Value.bool (Gr.more g), Value.bool (Gr.may g), Value.bool (Gr.wants g), Value.string (Gr.data g)]) (by kernel_rfl) (by kernel_rfl) (by kernel_rfl) ?_ (fun cf => (by kernel_rfl))
      refine WpOps.called 42 36 [Value.slice (some (Addr.mk 2 0 none)) 1 1, Value.slice (some (Addr.mk 1 0 none)) 1 1, Value.slice (some (Addr.mk 3 0 none)) 2 2, Value.agg #[Value.iface 3 (Value.iface (List.length (Gr.fr g)) (Value.iface (Gr.fx g) (Value.agg (List.toArray (List.map (fun n => Value.int IntKind.i64 n) (Gr.fr g)))))), Value.iface 3 (Value.iface (List.length (Gr.to g)) (Value.iface (Gr.tx g) (Value.agg (List.toArray (List.map (fun n => Value.int IntKind.i64 n) (Gr.to g)))))), Value.int IntKind.i64 (Gr.number g), Value.int IntKind.i64 (Gr.life g), Value.int IntKind.i64 (Gr.at' g), Value.int IntKind.i64 (Gr.total g), Value.int IntKind.i64 (Gr.report g), Value.bool (Gr.more g), Value.bool (Gr.may g), Value.bool (Gr.wants g), Value.string (Gr.data g)]] (by kernel_rfl) (by kernel_rfl) (by kernel_rfl) (by kernel_rfl) (fun cf => (by kernel_rfl)) ?_
      refine WpCall.consumeN (args2 := [FS 3 1 0 #[.int .i64 7], FS 98 1 0 #[.slice none 0 0, .int .i64 (modN i 2)], FS 76 2 0 #[.int .i64 0, .int .i64 (4000), .int .i64 1, .int .i64 4000], gv g]) [0] c (by kernel_rfl) (.cons (NilA.rfl' _) (.cons (.fs 98 1 0 _ _ (.cons (.inr ⟨rfl, 3, ti, ht, rfl⟩) (.cons (.inl rfl) .nil))) (.cons (NilA.rfl' _) (.cons (NilA.rfl' _) .nil)))) (by kernel_rfl) ?_
      rcases e2 with he | ⟨rfl, rfl⟩ | ⟨rfl, hl, o, size, rfl, hk, hlife, k1, k2, hcut⟩
      · refine WpOps.keep 34 (Value.tuple #[out, Value.int IntKind.i64 line, back, Value.int IntKind.i64 err]) (by kernel_rfl) (by kernel_rfl) (by kernel_rfl) ?_ (fun cf => (by kernel_rfl))
        refine WpOps.keep 43 (out) (by kernel_rfl) (by kernel_rfl) (by kernel_rfl) ?_ (fun cf => (by kernel_rfl))
        refine WpOps.keep 44 (Value.int IntKind.i64 line) (by kernel_rfl) (by kernel_rfl) (by kernel_rfl) ?_ (fun cf => (by kernel_rfl))
        refine WpOps.keep 45 (back) (by kernel_rfl) (by kernel_rfl) (by kernel_rfl) ?_ (fun cf => (by kernel_rfl))
        refine WpOps.keep 46 (Value.int IntKind.i64 err) (by kernel_rfl) (by kernel_rfl) (by kernel_rfl) ?_ (fun cf => (by kernel_rfl))
        refine WpOps.keep 10 (out) (by kernel_rfl) (by kernel_rfl) (by kernel_rfl) ?_ (fun cf => (by kernel_rfl))
        refine WpOps.keep 11 (Value.int IntKind.i64 line) (by kernel_rfl) (by kernel_rfl) (by kernel_rfl) ?_ (fun cf => (by kernel_rfl))
        refine WpOps.keep 12 (back) (by kernel_rfl) (by kernel_rfl) (by kernel_rfl) ?_ (fun cf => (by kernel_rfl))
        refine WpOps.keep 13 (Value.int IntKind.i64 err) (by kernel_rfl) (by kernel_rfl) (by kernel_rfl) ?_ (fun cf => (by kernel_rfl))
        refine WpOps.nil ?_
        refine thenK_at ?_
        refine Wp.seq ?_
        refine Wp.seq ?_
        refine Wp.text ?_
        refine WpOps.keep 47 (Value.int IntKind.i64 err) (by kernel_rfl) (by kernel_rfl) (by kernel_rfl) ?_ (fun cf => (by kernel_rfl))
        refine WpOps.keep 48 (Value.bool true) (by kernel_rfl) (by kernel_rfl) (by kernel_rfl) ?_ (fun cf => by_fact he ((by kernel_rfl)))
        refine WpOps.keep 49 (Value.bool true) (by kernel_rfl) (by kernel_rfl) (by kernel_rfl) ?_ (fun cf => (by kernel_rfl))
        refine WpOps.unmet 50 (by kernel_rfl) (by kernel_rfl) (by kernel_rfl) ?_
        refine WpOps.unmet 51 (by kernel_rfl) (by kernel_rfl) (by kernel_rfl) ?_
        refine WpOps.keep 52 (Value.bool true) (by kernel_rfl) (by kernel_rfl) (by kernel_rfl) ?_ (fun cf => (by kernel_rfl))
        refine WpOps.keep 53 (Value.bool true) (by kernel_rfl) (by kernel_rfl) (by kernel_rfl) ?_ (fun cf => (by kernel_rfl))
        refine WpOps.unmet 54 (by kernel_rfl) (by kernel_rfl) (by kernel_rfl) ?_
        refine WpOps.unmet 55 (by kernel_rfl) (by kernel_rfl) (by kernel_rfl) ?_
        refine WpOps.unmet 56 (by kernel_rfl) (by kernel_rfl) (by kernel_rfl) ?_
        refine WpOps.keep 57 (Value.bool true) (by kernel_rfl) (by kernel_rfl) (by kernel_rfl) ?_ (fun cf => (by kernel_rfl))
        refine WpOps.nil ?_
        refine thenK_at ?_
        refine Wp.on (by kernel_rfl) ?_
        refine Wp.exit ?_
        refine thenK_exit ?_
        refine blockK_miss (by decide) ?_
        refine thenK_exit ?_
        refine thenK_exit ?_
        refine blockK_hit ?_
        refine thenK_at ?_
        refine Wp.seq ?_
        refine Wp.text ?_
        refine WpOps.keep 66 (Value.int IntKind.i64 (↑n : Int)) (by kernel_rfl) (by kernel_rfl) (by kernel_rfl) ?_ (fun cf => (by kernel_rfl))
        refine WpOps.keep 67 (Value.int IntKind.i64 (Gr.life g0)) (by kernel_rfl) (by kernel_rfl) (by kernel_rfl) ?_ (fun cf => (by kernel_rfl))
        refine WpOps.keep 68 (Value.int IntKind.i64 (if Gr.life g0 > 0 then Gr.life g0 else 0)) (by kernel_rfl) (by kernel_rfl) (by kernel_rfl) ?_ (fun cf => (by kernel_rfl))
        refine WpOps.keep 69 (Value.bool true) (by kernel_rfl) (by kernel_rfl) (by kernel_rfl) ?_ (fun cf => by_fact zM ((by kernel_rfl)))
        refine WpOps.keep 70 (Value.bool true) (by kernel_rfl) (by kernel_rfl) (by kernel_rfl) ?_ (fun cf => (by kernel_rfl))
        refine WpOps.framed 71 19 [] (by kernel_rfl) (by kernel_rfl) (by kernel_rfl) (by kernel_rfl) (by kernel_rfl) (fun cf => (by kernel_rfl)) ?_
        refine WpFun.of (c9) ?_
        refine WpOps.keep 72 (Value.bool true) (by kernel_rfl) (by kernel_rfl) (by kernel_rfl) ?_ (fun cf => (by kernel_rfl))
        refine WpOps.keep 4 (Value.bool true) (by kernel_rfl) (by kernel_rfl) (by kernel_rfl) ?_ (fun cf => (by kernel_rfl))
        refine WpOps.nil ?_
        refine thenK_at ?_
        refine Wp.ret ?_
        refine endK_retn [Value.bool true] (Value.bool true) (by kernel_rfl) (by kernel_rfl) ?_
        kernel_rfl
      · refine WpOps.keep 34 (Value.tuple #[out, Value.int IntKind.i64 (-1), back, Value.int IntKind.i64 0]) (by kernel_rfl) (by kernel_rfl) (by kernel_rfl) ?_ (fun cf => (by kernel_rfl))
        refine WpOps.keep 43 (out) (by kernel_rfl) (by kernel_rfl) (by kernel_rfl) ?_ (fun cf => (by kernel_rfl))
        refine WpOps.keep 44 (Value.int IntKind.i64 (-1)) (by kernel_rfl) (by kernel_rfl) (by kernel_rfl) ?_ (fun cf => (by kernel_rfl))
        refine WpOps.keep 45 (back) (by kernel_rfl) (by kernel_rfl) (by kernel_rfl) ?_ (fun cf => (by kernel_rfl))
        refine WpOps.keep 46 (Value.int IntKind.i64 0) (by kernel_rfl) (by kernel_rfl) (by kernel_rfl) ?_ (fun cf => (by kernel_rfl))
        refine WpOps.keep 10 (out) (by kernel_rfl) (by kernel_rfl) (by kernel_rfl) ?_ (fun cf => (by kernel_rfl))
        refine WpOps.keep 11 (Value.int IntKind.i64 (-1)) (by kernel_rfl) (by kernel_rfl) (by kernel_rfl) ?_ (fun cf => (by kernel_rfl))
        refine WpOps.keep 12 (back) (by kernel_rfl) (by kernel_rfl) (by kernel_rfl) ?_ (fun cf => (by kernel_rfl))
        refine WpOps.keep 13 (Value.int IntKind.i64 0) (by kernel_rfl) (by kernel_rfl) (by kernel_rfl) ?_ (fun cf => (by kernel_rfl))
        refine WpOps.nil ?_
        refine thenK_at ?_
        refine Wp.seq ?_
        refine Wp.seq ?_
        refine Wp.text ?_
        refine WpOps.keep 47 (Value.int IntKind.i64 0) (by kernel_rfl) (by kernel_rfl) (by kernel_rfl) ?_ (fun cf => (by kernel_rfl))
        refine WpOps.keep 48 (Value.bool false) (by kernel_rfl) (by kernel_rfl) (by kernel_rfl) ?_ (fun cf => (by kernel_rfl))
        refine WpOps.keep 49 (Value.bool false) (by kernel_rfl) (by kernel_rfl) (by kernel_rfl) ?_ (fun cf => (by kernel_rfl))
        refine WpOps.keep 50 (Value.int IntKind.i64 (-1)) (by kernel_rfl) (by kernel_rfl) (by kernel_rfl) ?_ (fun cf => (by kernel_rfl))
        refine WpOps.keep 51 (Value.bool true) (by kernel_rfl) (by kernel_rfl) (by kernel_rfl) ?_ (fun cf => (by kernel_rfl))
        refine WpOps.keep 52 (Value.bool true) (by kernel_rfl) (by kernel_rfl) (by kernel_rfl) ?_ (fun cf => (by kernel_rfl))
        refine WpOps.keep 53 (Value.bool true) (by kernel_rfl) (by kernel_rfl) (by kernel_rfl) ?_ (fun cf => (by kernel_rfl))
        refine WpOps.unmet 54 (by kernel_rfl) (by kernel_rfl) (by kernel_rfl) ?_
        refine WpOps.unmet 55 (by kernel_rfl) (by kernel_rfl) (by kernel_rfl) ?_
        refine WpOps.unmet 56 (by kernel_rfl) (by kernel_rfl) (by kernel_rfl) ?_
        refine WpOps.keep 57 (Value.bool true) (by kernel_rfl) (by kernel_rfl) (by kernel_rfl) ?_ (fun cf => (by kernel_rfl))
        refine WpOps.nil ?_
        refine thenK_at ?_
        refine Wp.on (by kernel_rfl) ?_
        refine Wp.exit ?_
        refine thenK_exit ?_
        refine blockK_miss (by decide) ?_
        refine thenK_exit ?_
        refine thenK_exit ?_
        refine blockK_hit ?_
        refine thenK_at ?_
        refine Wp.seq ?_
        refine Wp.text ?_
        refine WpOps.keep 66 (Value.int IntKind.i64 (↑n : Int)) (by kernel_rfl) (by kernel_rfl) (by kernel_rfl) ?_ (fun cf => (by kernel_rfl))
        refine WpOps.keep 67 (Value.int IntKind.i64 (Gr.life g0)) (by kernel_rfl) (by kernel_rfl) (by kernel_rfl) ?_ (fun cf => (by kernel_rfl))
        refine WpOps.keep 68 (Value.int IntKind.i64 (if Gr.life g0 > 0 then Gr.life g0 else 0)) (by kernel_rfl) (by kernel_rfl) (by kernel_rfl) ?_ (fun cf => (by kernel_rfl))
        refine WpOps.keep 69 (Value.bool true) (by kernel_rfl) (by kernel_rfl) (by kernel_rfl) ?_ (fun cf => by_fact zM ((by kernel_rfl)))
        refine WpOps.keep 70 (Value.bool true) (by kernel_rfl) (by kernel_rfl) (by kernel_rfl) ?_ (fun cf => (by kernel_rfl))
        refine WpOps.framed 71 19 [] (by kernel_rfl) (by kernel_rfl) (by kernel_rfl) (by kernel_rfl) (by kernel_rfl) (fun cf => (by kernel_rfl)) ?_
        refine WpFun.of (c9) ?_
        refine WpOps.keep 72 (Value.bool true) (by kernel_rfl) (by kernel_rfl) (by kernel_rfl) ?_ (fun cf => (by kernel_rfl))
        refine WpOps.keep 4 (Value.bool true) (by kernel_rfl) (by kernel_rfl) (by kernel_rfl) ?_ (fun cf => (by kernel_rfl))
        refine WpOps.nil ?_
        refine thenK_at ?_
        refine Wp.ret ?_
        refine endK_retn [Value.bool true] (Value.bool true) (by kernel_rfl) (by kernel_rfl) ?_
        kernel_rfl
      · have zl : decide (line < 0) = false := decide_eq_false (by omega)
        by_cases h0 : o.length = 0
        · have z0 : (((o.length : Nat) : Int) == 0) = true := by rw [h0]; rfl
          refine WpOps.keep 34 (Value.tuple #[grams 24 o, Value.int IntKind.i64 line, back, Value.int IntKind.i64 0]) (by kernel_rfl) (by kernel_rfl) (by kernel_rfl) ?_ (fun cf => (by kernel_rfl))
          refine WpOps.keep 43 (Value.iface 24 (Value.iface (List.length o) (Value.iface 0 (Value.agg (List.toArray (cellsG o)))))) (by kernel_rfl) (by kernel_rfl) (by kernel_rfl) ?_ (fun cf => (by kernel_rfl))
          refine WpOps.keep 44 (Value.int IntKind.i64 line) (by kernel_rfl) (by kernel_rfl) (by kernel_rfl) ?_ (fun cf => (by kernel_rfl))
          refine WpOps.keep 45 (back) (by kernel_rfl) (by kernel_rfl) (by kernel_rfl) ?_ (fun cf => (by kernel_rfl))
          refine WpOps.keep 46 (Value.int IntKind.i64 0) (by kernel_rfl) (by kernel_rfl) (by kernel_rfl) ?_ (fun cf => (by kernel_rfl))
          refine WpOps.keep 10 (Value.iface 24 (Value.iface (List.length o) (Value.iface 0 (Value.agg (List.toArray (cellsG o)))))) (by kernel_rfl) (by kernel_rfl) (by kernel_rfl) ?_ (fun cf => (by kernel_rfl))
          refine WpOps.keep 11 (Value.int IntKind.i64 line) (by kernel_rfl) (by kernel_rfl) (by kernel_rfl) ?_ (fun cf => (by kernel_rfl))
          refine WpOps.keep 12 (back) (by kernel_rfl) (by kernel_rfl) (by kernel_rfl) ?_ (fun cf => (by kernel_rfl))
          refine WpOps.keep 13 (Value.int IntKind.i64 0) (by kernel_rfl) (by kernel_rfl) (by kernel_rfl) ?_ (fun cf => (by kernel_rfl))
          refine WpOps.nil ?_
          refine thenK_at ?_
          refine Wp.seq ?_
          refine Wp.seq ?_
          refine Wp.text ?_
          refine WpOps.keep 47 (Value.int IntKind.i64 0) (by kernel_rfl) (by kernel_rfl) (by kernel_rfl) ?_ (fun cf => (by kernel_rfl))
          refine WpOps.keep 48 (Value.bool false) (by kernel_rfl) (by kernel_rfl) (by kernel_rfl) ?_ (fun cf => (by kernel_rfl))
          refine WpOps.keep 49 (Value.bool false) (by kernel_rfl) (by kernel_rfl) (by kernel_rfl) ?_ (fun cf => (by kernel_rfl))
          refine WpOps.keep 50 (Value.int IntKind.i64 line) (by kernel_rfl) (by kernel_rfl) (by kernel_rfl) ?_ (fun cf => (by kernel_rfl))
          refine WpOps.keep 51 (Value.bool false) (by kernel_rfl) (by kernel_rfl) (by kernel_rfl) ?_ (fun cf => by_fact zl ((by kernel_rfl)))
          refine WpOps.keep 52 (Value.bool false) (by kernel_rfl) (by kernel_rfl) (by kernel_rfl) ?_ (fun cf => (by kernel_rfl))
          refine WpOps.keep 53 (Value.bool false) (by kernel_rfl) (by kernel_rfl) (by kernel_rfl) ?_ (fun cf => (by kernel_rfl))
          refine WpOps.keep 54 (Value.iface 24 (Value.iface (List.length o) (Value.iface 0 (Value.agg (List.toArray (cellsG o)))))) (by kernel_rfl) (by kernel_rfl) (by kernel_rfl) ?_ (fun cf => (by kernel_rfl))
          refine WpOps.keep 55 (Value.int IntKind.i64 (↑(List.length o) : Int)) (by kernel_rfl) (by kernel_rfl) (by kernel_rfl) ?_ (fun cf => (by kernel_rfl))
          refine WpOps.keep 56 (Value.bool true) (by kernel_rfl) (by kernel_rfl) (by kernel_rfl) ?_ (fun cf => by_fact z0 ((by kernel_rfl)))
          refine WpOps.keep 57 (Value.bool true) (by kernel_rfl) (by kernel_rfl) (by kernel_rfl) ?_ (fun cf => (by kernel_rfl))
          refine WpOps.nil ?_
          refine thenK_at ?_
          refine Wp.on (by kernel_rfl) ?_
          refine Wp.exit ?_
          refine thenK_exit ?_
          refine blockK_miss (by decide) ?_
          refine thenK_exit ?_
          refine thenK_exit ?_
          refine blockK_hit ?_
          refine thenK_at ?_
          refine Wp.seq ?_
          refine Wp.text ?_
          refine WpOps.keep 66 (Value.int IntKind.i64 (↑n : Int)) (by kernel_rfl) (by kernel_rfl) (by kernel_rfl) ?_ (fun cf => (by kernel_rfl))
          refine WpOps.keep 67 (Value.int IntKind.i64 (Gr.life g0)) (by kernel_rfl) (by kernel_rfl) (by kernel_rfl) ?_ (fun cf => (by kernel_rfl))
          refine WpOps.keep 68 (Value.int IntKind.i64 (if Gr.life g0 > 0 then Gr.life g0 else 0)) (by kernel_rfl) (by kernel_rfl) (by kernel_rfl) ?_ (fun cf => (by kernel_rfl))
          refine WpOps.keep 69 (Value.bool true) (by kernel_rfl) (by kernel_rfl) (by kernel_rfl) ?_ (fun cf => by_fact zM ((by kernel_rfl)))
          refine WpOps.keep 70 (Value.bool true) (by kernel_rfl) (by kernel_rfl) (by kernel_rfl) ?_ (fun cf => (by kernel_rfl))
          refine WpOps.framed 71 19 [] (by kernel_rfl) (by kernel_rfl) (by kernel_rfl) (by kernel_rfl) (by kernel_rfl) (fun cf => (by kernel_rfl)) ?_
          refine WpFun.of (c9) ?_
          refine WpOps.keep 72 (Value.bool true) (by kernel_rfl) (by kernel_rfl) (by kernel_rfl) ?_ (fun cf => (by kernel_rfl))
          refine WpOps.keep 4 (Value.bool true) (by kernel_rfl) (by kernel_rfl) (by kernel_rfl) ?_ (fun cf => (by kernel_rfl))
          refine WpOps.nil ?_
          refine thenK_at ?_
          refine Wp.ret ?_
          refine endK_retn [Value.bool true] (Value.bool true) (by kernel_rfl) (by kernel_rfl) ?_
          kernel_rfl
        · have z0 : (((o.length : Nat) : Int) == 0) = false := beq_eq_false_iff_ne.2 (by omega)
          have hd4 := okG_size hk
          have ho4 : o.length ≤ 4000 := cut_len (g := lifeDown g) hd4 hcut
          have i6 : IntKind.i64.wrap ((o.length : Int) - 1) = ((o.length - 1 : Nat) : Int) := by rw [wr _ (by omega) (by omega)]; omega
          have hx : 0 ≤ IntKind.i64.wrap ((o.length : Int) - 1) ∧ IntKind.i64.wrap ((o.length : Int) - 1) < o.length := by rw [i6]; omega
          have hlt : o.length - 1 < o.length := by omega
          have hv2 : cellsAt (cellsG o) ((IntKind.i64.wrap ((o.length : Int) - 1)).toNat * 11) 11 = some (gc (o[o.length - 1]'hlt)) := by
            rw [i6]
            exact cells_at o (o.length - 1) hlt
          obtain ⟨op, lp⟩ := cut_in (g := lifeDown g) ⟨og.fx, og.tx, og.fl, og.tl⟩ hcut _ (List.getElem_mem hlt)
          have hlf : (lifeDown g).life = g.life - 1 := by
            have := okG_life hk
            show IntKind.i64.wrap (g.life - 1) = _
            rw [wr _ (by omega) (by omega)]
          refine WpOps.keep 34 (Value.tuple #[grams 24 o, Value.int IntKind.i64 line, back, Value.int IntKind.i64 0]) (by kernel_rfl) (by kernel_rfl) (by kernel_rfl) ?_ (fun cf => (by kernel_rfl))
          refine WpOps.keep 43 (Value.iface 24 (Value.iface (List.length o) (Value.iface 0 (Value.agg (List.toArray (cellsG o)))))) (by kernel_rfl) (by kernel_rfl) (by kernel_rfl) ?_ (fun cf => (by kernel_rfl))
          refine WpOps.keep 44 (Value.int IntKind.i64 line) (by kernel_rfl) (by kernel_rfl) (by kernel_rfl) ?_ (fun cf => (by kernel_rfl))
          refine WpOps.keep 45 (back) (by kernel_rfl) (by kernel_rfl) (by kernel_rfl) ?_ (fun cf => (by kernel_rfl))
          refine WpOps.keep 46 (Value.int IntKind.i64 0) (by kernel_rfl) (by kernel_rfl) (by kernel_rfl) ?_ (fun cf => (by kernel_rfl))
          refine WpOps.keep 10 (Value.iface 24 (Value.iface (List.length o) (Value.iface 0 (Value.agg (List.toArray (cellsG o)))))) (by kernel_rfl) (by kernel_rfl) (by kernel_rfl) ?_ (fun cf => (by kernel_rfl))
          refine WpOps.keep 11 (Value.int IntKind.i64 line) (by kernel_rfl) (by kernel_rfl) (by kernel_rfl) ?_ (fun cf => (by kernel_rfl))
          refine WpOps.keep 12 (back) (by kernel_rfl) (by kernel_rfl) (by kernel_rfl) ?_ (fun cf => (by kernel_rfl))
          refine WpOps.keep 13 (Value.int IntKind.i64 0) (by kernel_rfl) (by kernel_rfl) (by kernel_rfl) ?_ (fun cf => (by kernel_rfl))
          refine WpOps.nil ?_
          refine thenK_at ?_
          refine Wp.seq ?_
          refine Wp.seq ?_
          refine Wp.text ?_
          refine WpOps.keep 47 (Value.int IntKind.i64 0) (by kernel_rfl) (by kernel_rfl) (by kernel_rfl) ?_ (fun cf => (by kernel_rfl))
          refine WpOps.keep 48 (Value.bool false) (by kernel_rfl) (by kernel_rfl) (by kernel_rfl) ?_ (fun cf => (by kernel_rfl))
          refine WpOps.keep 49 (Value.bool false) (by kernel_rfl) (by kernel_rfl) (by kernel_rfl) ?_ (fun cf => (by kernel_rfl))
          refine WpOps.keep 50 (Value.int IntKind.i64 line) (by kernel_rfl) (by kernel_rfl) (by kernel_rfl) ?_ (fun cf => (by kernel_rfl))
          refine WpOps.keep 51 (Value.bool false) (by kernel_rfl) (by kernel_rfl) (by kernel_rfl) ?_ (fun cf => by_fact zl ((by kernel_rfl)))
          refine WpOps.keep 52 (Value.bool false) (by kernel_rfl) (by kernel_rfl) (by kernel_rfl) ?_ (fun cf => (by kernel_rfl))
          refine WpOps.keep 53 (Value.bool false) (by kernel_rfl) (by kernel_rfl) (by kernel_rfl) ?_ (fun cf => (by kernel_rfl))
          refine WpOps.keep 54 (Value.iface 24 (Value.iface (List.length o) (Value.iface 0 (Value.agg (List.toArray (cellsG o)))))) (by kernel_rfl) (by kernel_rfl) (by kernel_rfl) ?_ (fun cf => (by kernel_rfl))
          refine WpOps.keep 55 (Value.int IntKind.i64 (↑(List.length o) : Int)) (by kernel_rfl) (by kernel_rfl) (by kernel_rfl) ?_ (fun cf => (by kernel_rfl))
          refine WpOps.keep 56 (Value.bool false) (by kernel_rfl) (by kernel_rfl) (by kernel_rfl) ?_ (fun cf => by_fact z0 ((by kernel_rfl)))
          refine WpOps.keep 57 (Value.bool false) (by kernel_rfl) (by kernel_rfl) (by kernel_rfl) ?_ (fun cf => (by kernel_rfl))
          refine WpOps.nil ?_
          refine thenK_at ?_
          refine Wp.off (by kernel_rfl) ?_
          refine Wp.skip ?_
          refine thenK_at ?_
          refine Wp.seq ?_
          refine Wp.text ?_
          refine WpOps.keep 58 (Value.int IntKind.i64 (↑n : Int)) (by kernel_rfl) (by kernel_rfl) (by kernel_rfl) ?_ (fun cf => (by kernel_rfl))
          refine WpOps.keep 59 (Value.int IntKind.i64 (IntKind.wrap IntKind.i64 ((↑n : Int) + 1))) (by kernel_rfl) (by kernel_rfl) (by kernel_rfl) ?_ (fun cf => (by kernel_rfl))
          refine WpOps.keep 6 (Value.int IntKind.i64 (IntKind.wrap IntKind.i64 ((↑n : Int) + 1))) (by kernel_rfl) (by kernel_rfl) (by kernel_rfl) ?_ (fun cf => (by kernel_rfl))
          refine WpOps.nil ?_
          refine thenK_at ?_
          refine Wp.text ?_
          refine WpOps.keep 60 (Value.iface 24 (Value.iface (List.length o) (Value.iface 0 (Value.agg (List.toArray (cellsG o)))))) (by kernel_rfl) (by kernel_rfl) (by kernel_rfl) ?_ (fun cf => (by kernel_rfl))
          refine WpOps.keep 61 (Value.iface 24 (Value.iface (List.length o) (Value.iface 0 (Value.agg (List.toArray (cellsG o)))))) (by kernel_rfl) (by kernel_rfl) (by kernel_rfl) ?_ (fun cf => (by kernel_rfl))
          refine WpOps.keep 62 (Value.int IntKind.i64 (↑(List.length o) : Int)) (by kernel_rfl) (by kernel_rfl) (by kernel_rfl) ?_ (fun cf => (by kernel_rfl))
          refine WpOps.keep 63 (Value.int IntKind.i64 (IntKind.wrap IntKind.i64 ((↑(List.length o) : Int) - 1))) (by kernel_rfl) (by kernel_rfl) (by kernel_rfl) ?_ (fun cf => (by kernel_rfl))
          refine WpOps.keep 64 (Value.iface 24 (Value.iface (Int.toNat (IntKind.wrap IntKind.i64 ((↑(List.length o) : Int) - 1)) * 11) (Value.agg (List.toArray (cellsG o))))) (by kernel_rfl) (by kernel_rfl) (by kernel_rfl) ?_ (fun cf => o_indexI (e := 24) (size := 11) (a := IntKind.wrap IntKind.i64 ((↑(List.length o) : Int) - 1)) hx (by kernel_rfl) (by kernel_rfl) (by kernel_rfl) (by kernel_rfl))
          refine WpOps.keep 65 (Value.agg (List.toArray (gc o[List.length o - 1]))) (by kernel_rfl) (by kernel_rfl) (by kernel_rfl) ?_ (fun cf => o_loadIA (Int.toNat (IntKind.wrap IntKind.i64 ((↑(List.length o) : Int) - 1)) * 11) hv2 (by kernel_rfl) (by kernel_rfl))
          refine WpOps.laid (Value.tuple #[]) (0) (Blk.mk 24 true [Value.iface 3 (Value.iface (List.length (Gr.fr o[List.length o - 1])) (Value.iface (Gr.fx o[List.length o - 1]) (Value.agg (List.toArray (List.map (fun n => Value.int IntKind.i64 n) (Gr.fr o[List.length o - 1])))))), Value.iface 3 (Value.iface (List.length (Gr.to o[List.length o - 1])) (Value.iface (Gr.tx o[List.length o - 1]) (Value.agg (List.toArray (List.map (fun n => Value.int IntKind.i64 n) (Gr.to o[List.length o - 1])))))), Value.int IntKind.i64 (Gr.number o[List.length o - 1]), Value.int IntKind.i64 (Gr.life o[List.length o - 1]), Value.int IntKind.i64 (Gr.at' o[List.length o - 1]), Value.int IntKind.i64 (Gr.total o[List.length o - 1]), Value.int IntKind.i64 (Gr.report o[List.length o - 1]), Value.bool (Gr.more o[List.length o - 1]), Value.bool (Gr.may o[List.length o - 1]), Value.bool (Gr.wants o[List.length o - 1]), Value.string (Gr.data o[List.length o - 1])]) (by kernel_rfl) (by kernel_rfl) (by kernel_rfl) ?_ (fun cf => (by kernel_rfl))
          refine WpOps.nil ?_
          refine blockK_norm ?_
          refine thenK_at ?_
          refine Wp.text ?_
          refine WpOps.keep 18 (Value.int IntKind.i64 (↑i : Int)) (by kernel_rfl) (by kernel_rfl) (by kernel_rfl) ?_ (fun cf => (by kernel_rfl))
          refine WpOps.keep 19 (Value.int IntKind.i64 (IntKind.wrap IntKind.i64 ((↑i : Int) + 1))) (by kernel_rfl) (by kernel_rfl) (by kernel_rfl) ?_ (fun cf => (by kernel_rfl))
          refine WpOps.keep 7 (Value.int IntKind.i64 (IntKind.wrap IntKind.i64 ((↑i : Int) + 1))) (by kernel_rfl) (by kernel_rfl) (by kernel_rfl) ?_ (fun cf => (by kernel_rfl))
          refine WpOps.nil ?_
          refine thenK_at ?_
          exact ⟨⟨i + 1, n + 1, o[o.length - 1]'hlt⟩, by dsimp only; omega, ⟨by dsimp only; omega, by dsimp only; omega, op, .inr (by
              dsimp only
              rw [lp, hlf]
              rcases hI with ⟨h1, h2⟩ | h1
              · subst h1 h2
                omega
              · omega)⟩, View.of [0] [⟨24, true, gc (o[o.length - 1]'hlt)⟩] _ (by decide) rfl ⟨⟨gc (o[o.length - 1]'hlt), by kernel_rfl, CellsOk.eq rfl (gc_flat _)⟩, trivial⟩ ⟨⟨by kernel_rfl, rfl⟩, ⟨by kernel_rfl, rfl⟩, ⟨by kernel_rfl, rfl⟩, ⟨congrArg (Value.int .i64) (wr _ (by omega) (by omega)), rfl⟩, ⟨congrArg (Value.int .i64) (wr _ (by omega) (by omega)), rfl⟩, trivial⟩⟩
  · refine Wp.exit ?_
    refine thenK_exit ?_
    refine thenK_exit ?_
    refine blockK_hit ?_
    refine thenK_at ?_
    refine Wp.seq ?_
    refine Wp.text ?_
    refine WpOps.keep 66 (Value.int IntKind.i64 (↑n : Int)) (by kernel_rfl) (by kernel_rfl) (by kernel_rfl) ?_ (fun cf => (by kernel_rfl))
    refine WpOps.keep 67 (Value.int IntKind.i64 (Gr.life g0)) (by kernel_rfl) (by kernel_rfl) (by kernel_rfl) ?_ (fun cf => (by kernel_rfl))
    refine WpOps.keep 68 (Value.int IntKind.i64 (if Gr.life g0 > 0 then Gr.life g0 else 0)) (by kernel_rfl) (by kernel_rfl) (by kernel_rfl) ?_ (fun cf => (by kernel_rfl))
    refine WpOps.keep 69 (Value.bool true) (by kernel_rfl) (by kernel_rfl) (by kernel_rfl) ?_ (fun cf => by_fact zM ((by kernel_rfl)))
    refine WpOps.keep 70 (Value.bool true) (by kernel_rfl) (by kernel_rfl) (by kernel_rfl) ?_ (fun cf => (by kernel_rfl))
    refine WpOps.framed 71 19 [] (by kernel_rfl) (by kernel_rfl) (by kernel_rfl) (by kernel_rfl) (by kernel_rfl) (fun cf => (by kernel_rfl)) ?_
    refine WpFun.of (c9) ?_
    refine WpOps.keep 72 (Value.bool true) (by kernel_rfl) (by kernel_rfl) (by kernel_rfl) ?_ (fun cf => (by kernel_rfl))
    refine WpOps.keep 4 (Value.bool true) (by kernel_rfl) (by kernel_rfl) (by kernel_rfl) ?_ (fun cf => (by kernel_rfl))
    refine WpOps.nil ?_
    refine thenK_at ?_
    refine Wp.ret ?_
    refine endK_retn [Value.bool true] (Value.bool true) (by kernel_rfl) (by kernel_rfl) ?_
    kernel_rfl
end Go.Proofs.Ytpkkcpglbjbgfaa.D
