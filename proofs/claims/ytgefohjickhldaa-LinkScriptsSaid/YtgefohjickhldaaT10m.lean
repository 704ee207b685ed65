/- The law LinkScripts. -/
import Derived.Test.YtgefohjickhldaaFwLem
import Derived.Test.YtgefohjickhldaaFwMat
import Derived.Test.YtgefohjickhldaaFwTold
import Derived.Test.YtgefohjickhldaaF10d
import Derived.Test.YtgefohjickhldaaT10l
import Derived.Test.YtgefohjickhldaaT10q
import Derived.Test.YtgefohjickhldaaM10x
namespace Go.Proofs.Ytgefohjickhldaa.D
open Go.Fw Go.RowKit

/-- An event that is handed in. -/
structure EvI where
  w : Int
  k : Int
  a : Int
  b : Int
  c : Int
  d : ByteArray
  z : d.size ≤ 140737488351232
def eic (e : EvI) : List Value := [.int .i64 e.w, .int .i64 e.k, .int .i64 e.a, .int .i64 e.b, .int .i64 e.c, .string e.d]
def eics (l : List EvI) : List Value := l.flatMap eic
theorem eics_len : ∀ l : List EvI, (eics l).length = l.length * 6
  | [] => rfl
  | e :: l => by
    have ih := eics_len l
    unfold eics at ih ⊢
    rw [List.flatMap_cons, List.length_append, ih, List.length_cons, Nat.succ_mul, Nat.add_comm]
    rfl
theorem eics_drop : ∀ (l : List EvI) (i : Nat), i < l.length → ∃ e, (eics l).drop (i * 6) = eic e ++ eics (l.drop (i + 1)) ∧ i * 6 + 6 ≤ (eics l).length
  | e :: l, 0, _ => ⟨e, rfl, by rw [eics_len, List.length_cons]; omega⟩
  | e :: l, i + 1, h => by
    obtain ⟨e', h1, h2⟩ := eics_drop l i (by simpa using h)
    have h3 : eics (e :: l) = eic e ++ eics l := rfl
    have h4 : (eic e).length = 6 := rfl
    refine ⟨e', ?_, ?_⟩
    · rw [h3, show (i + 1) * 6 = 6 + i * 6 by omega, ← List.drop_drop, ← h4, List.drop_left]
      exact h1
    · rw [h3, List.length_append]
      omega
theorem eics_cell {l : List EvI} {i : Nat} (h : i < l.length) : ∃ e : EvI, cellsAt (eics l) ((i : Int).toNat * 6) 6 = some [.int .i64 e.w, .int .i64 e.k, .int .i64 e.a, .int .i64 e.b, .int .i64 e.c, .string e.d] := by
  obtain ⟨e, h1, h2⟩ := eics_drop l i h
  refine ⟨e, ?_⟩
  rw [show (i : Int).toNat = i by omega]
  unfold cellsAt
  rw [if_pos h2, h1]
  rfl
def behindOn (h : Heap) (s' : St) (pre' : List ByteArray) : Heap :=
  (((((h.set 0 (some (oB s' pre'.length h.next (h.next + 1) s'.ans.length (evl s'.ans).toArray))).set 1 none).set 2 none).alloc (qB (pre' ++ s'.queue))).alloc (qB s'.out))
theorem WpCall.on {s s' : St} {pre pre' : List ByteArray} {nA : Nat} {cA : Array Value} {w k a b c e : Int} {d : ByteArray} {h : Heap} {K : Value → Heap → Prop} (ct : LentP E 22 [.pointer (some ⟨0, 0, none⟩), evv w k a b c d] (onIn s pre nA cA) (onV e s') (onOut s' pre')) (h0 : h.get 0 = some (oB s pre.length 1 2 nA cA))
    (h1 : h.get 1 = some (qB (pre ++ s.queue))) (h2 : h.get 2 = some (qB s.out)) (kk : K (onV e s') (behindOn h s' pre')) : WpCall E 22 [.pointer (some ⟨0, 0, none⟩), evv w k a b c d] h K := by
  refine WpCall.lentP [0, 1, 2] ct (by decide) ⟨⟨_, h0, rfl, ok_oB _ _ _ _ _ _ (by decide : 1 < 3) (by decide : 2 < 3)⟩, ⟨_, h1, CellsOk.eq rfl (ss_flat _)⟩, ⟨_, h2, CellsOk.eq rfl (ss_flat _)⟩, trivial⟩ rfl (onV e s')
    [some (oB s' pre'.length h.next (h.next + 1) s'.ans.length (evl s'.ans).toArray), none, none, some (qB (pre' ++ s'.queue)), some (qB s'.out)]
    (.cons ?_ (.cons rfl (.cons rfl (.cons (congrArg some (unB_flat (ss_flat _))) (.cons (congrArg some (unB_flat (ss_flat _))) .nil))))) rfl _ rfl kk
  rfl
theorem WpCall.same {s r : St} {pre : List ByteArray} {nA : Nat} {cA : Array Value} {h : Heap} {K : Value → Heap → Prop} (a b c d : Nat) (ct : Lent E 25 [.pointer (some ⟨0, 0, none⟩), .pointer (some ⟨3, 0, none⟩)] (bothIn s r pre nA cA) (.bool true) (bothIn s r pre nA cA)) (hd : [a, b, c, d].Nodup) (h0 : h.get a = some (oB s pre.length b c nA cA))
    (h1 : h.get b = some (qB (pre ++ s.queue))) (h2 : h.get c = some (qB s.out)) (h3 : h.get d = some (rB r)) (kk : K (.bool true) ((((h.set a (some (oB s pre.length b c nA cA))).set b (some (qB (pre ++ s.queue)))).set c (some (qB s.out))).set d (some (rB r)))) : WpCall E 25 [.pointer (some ⟨a, 0, none⟩), .pointer (some ⟨d, 0, none⟩)] h K := by
  refine WpCall.lent [a, b, c, d] ct hd ⟨⟨_, h0, rfl, ok_oB _ _ _ _ _ _ (by decide : 1 < 4) (by decide : 2 < 4)⟩, ⟨_, h1, CellsOk.eq rfl (ss_flat _)⟩, ⟨_, h2, CellsOk.eq rfl (ss_flat _)⟩, ⟨_, h3, rC_at r⟩, trivial⟩ rfl (.bool true)
    [oB s pre.length b c nA cA, qB (pre ++ s.queue), qB s.out, rB r]
    (.cons rfl (.cons (unB_flat (ss_flat _)) (.cons (unB_flat (ss_flat _)) (.cons rfl .nil)))) rfl _ rfl kk
theorem viewB {n : Nat} {sl : Slots} {l : List (Nat × Value)} {h : Heap} {s r : St} {pre : List ByteArray} {nA : Nat} {cA : Array Value} (a b c d : Nat) {cells : List Value} (hd : [a, b, c, d].Nodup) (h0 : h.get a = some ⟨73, true, cells⟩) (hc : cells = stC s (rowQ s pre.length b) (rowO s c) (FS 61 nA 3 cA)) (h1 : h.get b = some (qB (pre ++ s.queue))) (h2 : h.get c = some (qB s.out)) (h3 : h.get d = some (rB r))
    (hs : SlotsT E h [a, b, c, d] 4 sl l) : View 0 E n sl h (layj l) (heapO [some (oB s pre.length 1 2 nA cA), some (qB (pre ++ s.queue)), some (qB s.out), some (rB r)]) := by
  subst hc
  refine View.ofO [a, b, c, d] [some (oB s pre.length 1 2 nA cA), some (qB (pre ++ s.queue)), some (qB s.out), some (rB r)] l hd rfl ⟨OneO.cells _ h0 ?_, OneO.flat _ h1 rfl (ss_flat _), OneO.flat _ h2 rfl (ss_flat _), OneO.flat _ h3 rfl rfl, trivial⟩ hs
  have nn : ∀ n : Int, TC E (h.less [a, b, c, d]) [a, b, c, d] 4 (.int .i64 n) (.int .i64 n) := fun n => .un rfl rfl
  have bb : ∀ n : Bool, TC E (h.less [a, b, c, d]) [a, b, c, d] 4 (.bool n) (.bool n) := fun n => .un rfl rfl
  exact .cons (nn _) (.cons (nn _) (.cons (nn _) (.cons (nn _) (.cons (bb _) (.cons (nn _) (.cons (nn _) (.cons (nn _) (.cons (nn _) (.cons (nn _) (.cons (nn _) (.cons (bb _) (.cons (bb _) (.cons (.un rfl rfl) (.cons (.un rfl rfl) (.cons (.un rfl rfl) .nil)))))))))))))))
theorem viewN {n : Nat} {sl : Slots} {l : List (Nat × Value)} {h : Heap} {f : Bool} {w wt t : Nat} (hn : h.next = 3) (h0 : h.get 1 = some (nB f w wt t)) (h3 : h.get 2 = some (nR f w wt t))
    (hs : SlotsT E h [1, 3, 4, 2] 4 sl l) : View 0 E n sl h (layj l) (heapO [some (oB (St.new f w wt t) 0 1 2 0 #[]), some (qB []), some (qB []), some (rB (St.new f w wt t))]) := by
  obtain ⟨ti, ht⟩ := ty9
  obtain ⟨ti', ht'⟩ := ty61
  have nn : ∀ n : Int, TC E (h.less [1, 3, 4, 2]) [1, 3, 4, 2] 4 (.int .i64 n) (.int .i64 n) := fun n => .un rfl rfl
  have bb : ∀ n : Bool, TC E (h.less [1, 3, 4, 2]) [1, 3, 4, 2] 4 (.bool n) (.bool n) := fun n => .un rfl rfl
  refine View.ofO [1, 3, 4, 2] [some (oB (St.new f w wt t) 0 1 2 0 #[]), some (qB []), some (qB []), some (rB (St.new f w wt t))] l (show [1, 3, 4, 2].Nodup by decide) rfl ⟨OneO.cells _ h0 ?_, OneO.ph (by omega), OneO.ph (by omega), OneO.cells _ h3 ?_, trivial⟩ hs
  · exact .cons (nn _) (.cons (nn _) (.cons (nn _) (.cons (nn _) (.cons (bb _) (.cons (nn _) (.cons (nn _) (.cons (nn _) (.cons (nn _) (.cons (nn _) (.cons (nn _) (.cons (bb _) (.cons (bb _) (.cons (.bare 1 0 rfl rfl (show 1 < 4 by decide)) (.cons (.bare 2 0 rfl rfl (show 2 < 4 by decide)) (.cons (.ice (.slice none 0 0) rfl (NilC.nil3 (e := (61 : Nat)) ht')) .nil)))))))))))))))
  · exact .cons (bb _) (.cons (bb _) (.cons (nn _) (.cons (nn _) (.cons (nn _) (.cons (nn _) (.cons (nn _) (.cons (nn _) (.cons (nn _) (.cons (nn _) (.cons (bb _) (.cons (bb _) (.cons (.ice (.slice none 0 0) rfl (NilC.nil3 (e := (9 : Nat)) ht)) (.cons (.ice (.slice none 0 0) rfl (NilC.nil3 (e := (9 : Nat)) ht)) (.cons (nn _) (.cons (nn _) .nil)))))))))))))))
theorem St.new_ok {f : Bool} {w wt t : Nat} (hw : 1 ≤ w ∧ w ≤ 7) (hwt : 1 ≤ wt ∧ wt ≤ 50) (ht : 1 ≤ t ∧ t ≤ 10) : St.Ok (St.new f w wt t) :=
  ⟨hw, hwt, ht, Nat.zero_le _, Nat.zero_le _, Nat.zero_le _, Nat.zero_le _, Nat.zero_le _, Nat.zero_le _, Nat.zero_le _, Nat.zero_le _, Nat.zero_le _, fun _ => rfl⟩
theorem St.flo_n : ∀ (m : Nat) (s : St), (St.floN m s).ans.length ≤ s.ans.length + m
  | 0, s => Nat.le_refl _
  | m + 1, s => by
    unfold St.floN
    split
    · have h := St.flo_n m s.flo1
      have h1 : s.flo1.ans.length = s.ans.length + 1 := by
        unfold St.flo1
        dsimp only
        split <;> exact St.snd_n
      omega
    · omega
theorem St.ons_n (s : St) (z : Bool) (w k : Int) (d : ByteArray) (h : s.Ok) : (s.ons z w k d).2.ans.length ≤ 100 := by
  have h0 : St.Ok { s with ans := [] } := h.cut
  have ho := h.out
  have hw := h.win
  have key : ∀ s' : St, s'.Ok → s'.ans.length ≤ 20 → s'.flo.ans.length ≤ 100 := fun s' h1 h2 => by
    have h3 := St.flo_n s'.queue.length s'
    have h4 := h1.queue
    unfold St.flo
    omega
  have e0 : ({ s with ans := [] } : St).ans.length = 0 := rfl
  have e1 : ({ s with ans := [] } : St).out.length = s.out.length := rfl
  unfold St.ons
  split
  · have h1 := St.usr_n (s := { s with ans := [] }) k d
    split
    · exact key _ (h0.usr k d) (by omega)
    · omega
  split
  · have h1 := St.frmB_n (s := { s with ans := [] }) z d
    exact key _ (h0.frmB z d) (by omega)
  split
  · have h1 := St.tic_n (s := { s with ans := [] }) z
    exact key _ (h0.tic z) (by omega)
  · exact Nat.zero_le _
/-- Where the law stands. -/
structure G7 where
  i : Nat
  s : St
  r : St
  pre : List ByteArray
  nA : Nat
  cA : Array Value
theorem f7 : E.funcs 7 = some Try.f7 := by kernel_rfl
theorem law7 (f : Bool) (w wt t : Int) (x : Nat) (l : List EvI) (hl : l.length * 56 ≤ 140737488351232) : Fun E 7 [uvv f w wt t, FS 61 l.length x (eics l).toArray] (.bool true) := by
  have c12 := sane12
  cases hn : uNo w wt t with
  | true =>
    have c1 := made21no f w wt t hn
    unfold uvv at *
    refine Fun.of f7 rfl (of_decide_eq_true (by kernel_rfl)) rfl ?_
    refine Wp.seq (Wp.text (md 2 (vP 0 0) (Blk.mk 53 true [Value.bool f, vI w, vI wt, vI t]) (kp 4 vF (WpOps.nil (thenK_at (Wp.seq (Wp.text (kp 14 (.agg #[Value.bool f, vI w, vI wt, vI t]) (cl 15 21 [Value.agg #[Value.bool f, vI w, vI wt, vI t]] ?_)))))))))
    refine WpCall.consume [0] (c1) (by kernel_rfl) (by kernel_rfl) ?_
    refine kp 13 (.tuple #[Value.pointer none, Value.pointer none, vT]) (kp 16 (.pointer none) (kp 17 (.pointer none) (kp 18 vT (kp 5 (.pointer none) (kp 6 (.pointer none) (kp 7 vT (WpOps.nil (thenK_at (Wp.seq (Wp.seq (Wp.text (kp 19 vT (kp 20 vF (kp 21 vF (kp 22 (.pointer none) (kp 23 vT (kp 24 vT (WpOps.nil (thenK_at (on' (Wp.seq (Wp.text (kp 25 vT (kp 26 vT (fr 27 12 [] (WpFun.of (c12) (kp 28 vT (kp 4 vT (WpOps.nil (thenK_at (Wp.ret (thenK_ret (endK_retn [vT] vT (by kernel_rfl) (by kernel_rfl) ?_)))))))))))))))))))))))))))))))))
    rfl
  | false =>
    obtain ⟨w1, w2, w3, w4, w5, w6⟩ := uNo_false hn
    obtain ⟨W, rfl⟩ := Int.eq_ofNat_of_zero_le (by omega : 0 ≤ w)
    obtain ⟨WT, rfl⟩ := Int.eq_ofNat_of_zero_le (by omega : 0 ≤ wt)
    obtain ⟨T, rfl⟩ := Int.eq_ofNat_of_zero_le (by omega : 0 ≤ t)
    have c1 := made21 f W WT T hn
    unfold uvv at *
    refine Fun.of f7 rfl (of_decide_eq_true (by kernel_rfl)) rfl ?_
    refine Wp.seq (Wp.text (md 2 (vP 0 0) (Blk.mk 53 true [Value.bool f, vI W, vI WT, vI T]) (kp 4 vF (WpOps.nil (thenK_at (Wp.seq (Wp.text (kp 14 (.agg #[Value.bool f, vI W, vI WT, vI T]) (cl 15 21 [Value.agg #[Value.bool f, vI W, vI WT, vI T]] ?_)))))))))
    refine WpCall.lent [] (c1) (by decide) trivial (by kernel_rfl) (Value.tuple #[Value.pointer (some (Addr.mk (List.getD [1, 2] 0 0) 0 none)), Value.pointer (some (Addr.mk (List.getD [1, 2] 1 0) 0 none)), Value.bool true]) ([Blk.mk 73 true [Value.int .i64 (St.left (St.new f W WT T)), Value.int .i64 (St.wait (St.new f W WT T)), Value.int .i64 (St.tried (St.new f W WT T)), Value.int .i64 (St.tries (St.new f W WT T)), Value.bool (St.first (St.new f W WT T)), Value.int .i64 (St.win (St.new f W WT T)), Value.int .i64 (St.state (St.new f W WT T)), Value.int .i64 (St.gen (St.new f W WT T)), Value.int .i64 (St.sent (St.new f W WT T)), Value.int .i64 (St.acked (St.new f W WT T)), Value.int .i64 (St.wanted (St.new f W WT T)), Value.bool (St.rej (St.new f W WT T)), Value.bool (St.ren (St.new f W WT T)), Value.slice none 0 0, Value.slice none 0 0, Value.slice none 0 0], Blk.mk 92 true [Value.bool true, Value.bool (St.first (St.new f W WT T)), Value.int .i64 (St.win (St.new f W WT T)), Value.int .i64 (St.wait (St.new f W WT T)), Value.int .i64 (St.tries (St.new f W WT T)), Value.int .i64 (St.state (St.new f W WT T)), Value.int .i64 (St.gen (St.new f W WT T)), Value.int .i64 (St.sent (St.new f W WT T)), Value.int .i64 (St.acked (St.new f W WT T)), Value.int .i64 (St.wanted (St.new f W WT T)), Value.bool (St.rej (St.new f W WT T)), Value.bool (St.ren (St.new f W WT T)), Value.slice none 0 0, Value.slice none 0 0, Value.int .i64 (St.left (St.new f W WT T)), Value.int .i64 (St.tried (St.new f W WT T))]]) (.cons (by kernel_rfl) (.cons (by kernel_rfl) .nil)) (by kernel_rfl) (Heap.alloc (Heap.alloc (Heap.alloc Heap.none (Blk.mk 53 true [Value.bool f, Value.int .i64 W, Value.int .i64 WT, Value.int .i64 T])) (Blk.mk 73 true [Value.int .i64 (St.left (St.new f W WT T)), Value.int .i64 (St.wait (St.new f W WT T)), Value.int .i64 (St.tried (St.new f W WT T)), Value.int .i64 (St.tries (St.new f W WT T)), Value.bool (St.first (St.new f W WT T)), Value.int .i64 (St.win (St.new f W WT T)), Value.int .i64 (St.state (St.new f W WT T)), Value.int .i64 (St.gen (St.new f W WT T)), Value.int .i64 (St.sent (St.new f W WT T)), Value.int .i64 (St.acked (St.new f W WT T)), Value.int .i64 (St.wanted (St.new f W WT T)), Value.bool (St.rej (St.new f W WT T)), Value.bool (St.ren (St.new f W WT T)), Value.slice none 0 0, Value.slice none 0 0, Value.slice none 0 0])) (Blk.mk 92 true [Value.bool true, Value.bool (St.first (St.new f W WT T)), Value.int .i64 (St.win (St.new f W WT T)), Value.int .i64 (St.wait (St.new f W WT T)), Value.int .i64 (St.tries (St.new f W WT T)), Value.int .i64 (St.state (St.new f W WT T)), Value.int .i64 (St.gen (St.new f W WT T)), Value.int .i64 (St.sent (St.new f W WT T)), Value.int .i64 (St.acked (St.new f W WT T)), Value.int .i64 (St.wanted (St.new f W WT T)), Value.bool (St.rej (St.new f W WT T)), Value.bool (St.ren (St.new f W WT T)), Value.slice none 0 0, Value.slice none 0 0, Value.int .i64 (St.left (St.new f W WT T)), Value.int .i64 (St.tried (St.new f W WT T))])) (by kernel_rfl) ?_
    refine kp 13 (.tuple #[Value.pointer (some (Addr.mk (List.getD [1, 2] 0 0) 0 none)), Value.pointer (some (Addr.mk (List.getD [1, 2] 1 0) 0 none)), vT]) (kp 16 (vP 1 0) (kp 17 (vP 2 0) (kp 18 vT (kp 5 (vP 1 0) (kp 6 (vP 2 0) (kp 7 vT (WpOps.nil (thenK_at (Wp.seq (Wp.seq (Wp.text (kp 19 vT (kp 20 vF (kp 21 vF (kp 22 (vP 1 0) (kp 23 vF (kp 24 vF (WpOps.nil (thenK_at (off' (Wp.skip (thenK_at (Wp.seq (Wp.seq (Wp.text (kp 8 (vI 0) (WpOps.nil (thenK_at (Wp.block ?_)))))))))))))))))))))))))))))
    refine Wp.loop (G := G7) (fun g => layj [(1, FS 61 l.length x (eics l).toArray), (5, .pointer (some ⟨0, 0, none⟩)), (6, .pointer (some ⟨3, 0, none⟩)), (8, .int .i64 g.i)])
      (fun g => heapO [some (oB g.s g.pre.length 1 2 g.nA g.cA), some (qB (g.pre ++ g.s.queue)), some (qB g.s.out), some (rB g.r)]) (fun g => l.length - g.i) (fun g => g.i ≤ l.length ∧ St.Alike g.r g.s ∧ St.Ok g.s ∧ St.Ok g.r)
      ⟨0, St.new f W WT T, St.new f W WT T, [], 0, #[]⟩ ?_ ⟨Nat.zero_le _, ⟨0, false, rfl, .inl rfl, fun _ => rfl⟩, St.new_ok (by omega) (by omega) (by omega), St.new_ok (by omega) (by omega) (by omega)⟩ ?_
    · exact viewN (by kernel_rfl) (by kernel_rfl) (by kernel_rfl) ⟨.w (.un (by kernel_rfl) rfl), .w (.un (by kernel_rfl) rfl), .w (.un (by kernel_rfl) rfl), .w (.un (by kernel_rfl) rfl), trivial⟩
    rintro ⟨i, s, r, pre, nA, cA⟩ ⟨hi, hal, hok, hokr⟩
    dsimp only at hi hal hok hokr ⊢
    by_cases hc : i < l.length ∧ i < 300
    · obtain ⟨hc1, hc2⟩ := hc
      have d1 : decide ((i : Int) < (l.length : Int)) = true := decide_eq_true (by omega)
      have d2 : decide ((i : Int) < 300) = true := decide_eq_true (by omega)
      have g1 : (0 : Int) ≤ (i : Int) ∧ (i : Int) < (l.length : Int) := by omega
      obtain ⟨⟨w, k, a, b, c, d, z⟩, g2⟩ := eics_cell hc1
      dsimp only at g2
      have w2 : IntKind.i64.wrap ((i : Int) + 1) = ((i + 1 : Nat) : Int) := by rw [wr _ (by omega) (by omega)]; omega
      obtain ⟨pre', c2⟩ := on22 s pre nA cA w k a b c d z hok
      have c3 := on23 r w k a b c d hokr
      obtain ⟨he, t', n', hr', hrel⟩ := hal.ons w k d
      have o1 := hok.ons false w k d
      have o2 := hokr.ons true w k d
      have n1 := St.ons_n s false w k d hok
      rw [he, hr'] at c3
      rw [hr'] at o2
      generalize (s.ons false w k d).1 = e at *
      generalize (s.ons false w k d).2 = s' at *
      have hA : s'.ans.length ≤ 100000 := by omega
      clear he hr'
      have hw : 1 ≤ s'.win := o1.win.1
      have c4 : Lent E 23 [.pointer (some ⟨0, 0, none⟩), evv w k a b c d] [rB r] (uV e s') [rB (s'.mix t' n')] := c3
      have c5 := events24 s'.ans hA
      have c6 : Lent E 25 [.pointer (some ⟨0, 0, none⟩), .pointer (some ⟨3, 0, none⟩)] (bothIn s' (s'.mix t' n') pre' s'.ans.length (evl s'.ans).toArray) (.bool true) (bothIn s' (s'.mix t' n') pre' s'.ans.length (evl s'.ans).toArray) := same25 s' t' n' pre' _ _ hw
      clear c3
      have hal' : St.Alike (s'.mix t' n') s' := ⟨t', n', rfl, hrel⟩
      generalize s'.mix t' n' = r' at *
      have hf1 : (⟨9, true, ss (pre' ++ s'.queue)⟩ : Blk).cells.all flat = true := ss_flat _
      have hf2 : (⟨9, true, ss s'.out⟩ : Blk).cells.all flat = true := ss_flat _
      have de : (e != e) = false := bne_self_eq_false _
      unfold oB stC rowQ rowO qB rB rC sv
      refine Wp.seq (Wp.seq (Wp.text (kp 29 (vI i) (kp 30 (.iface 61 (Value.iface (List.length l) (Value.iface x (Value.agg (List.toArray (eics l)))))) (kp 31 (vI (List.length l)) (kp 32 vT (kp 33 vT (kp 34 (vI i) (kp 35 vT (kp 36 vT (WpOps.nil (thenK_at (on' (Wp.skip (thenK_at (Wp.seq (Wp.block (Wp.seq (Wp.text (kp 40 (vP 0 0) (kp 41 (.iface 61 (Value.iface (List.length l) (Value.iface x (Value.agg (List.toArray (eics l)))))) (kp 42 (vI i) (kp 43 (.iface 61 (Value.iface (Int.toNat (↑i : Int) * 6) (Value.agg (List.toArray (eics l))))) (kp 44 (.agg #[vI w, vI k, vI a, vI b, vI c, Value.string d]) (cl 45 22 [vP 0 0, Value.agg #[vI w, vI k, vI a, vI b, vI c, Value.string d]] ?_) (hop := fun _ => o_loadIA (Int.toNat (↑i : Int) * 6) g2)) (hop := fun _ => o_indexI (e := 61) (size := 6) (a := (↑i : Int)) g1))))))))))))))) (hop := fun _ => by_fact d2)))) (hop := fun _ => by_fact d1)))))))
      refine WpCall.on c2 (by kernel_rfl) (by kernel_rfl) (by kernel_rfl) ?_
      clear c2
      unfold evv uV at c4
      unfold lv at c4 c5
      unfold behindOn onV
      unfold oB stC rowQ rowO at *
      unfold qB rB rC sv at *
      refine kp 39 (.tuple #[FS 61 (List.length (St.ans s')) 3 (List.toArray (evl (St.ans s'))), vI e]) (kp 46 (lv (St.ans s')) (kp 47 (vI e) (kp 9 (lv (St.ans s')) (kp 10 (vI e) (WpOps.nil (thenK_at (Wp.seq (Wp.text (kp 49 (vP 3 0) (kp 50 (.iface 61 (Value.iface (List.length l) (Value.iface x (Value.agg (List.toArray (eics l)))))) (kp 51 (vI i) (kp 52 (.iface 61 (Value.iface (Int.toNat (↑i : Int) * 6) (Value.agg (List.toArray (eics l))))) (kp 53 (.agg #[vI w, vI k, vI a, vI b, vI c, Value.string d]) (cl 54 23 [vP 3 0, Value.agg #[vI w, vI k, vI a, vI b, vI c, Value.string d]] ?_) (hop := fun _ => o_loadIA (Int.toNat (↑i : Int) * 6) g2)) (hop := fun _ => o_indexI (e := 61) (size := 6) (a := (↑i : Int)) g1)))))))))))))
      refine WpCall.lent [3] (c4) (by decide) ⟨⟨[Value.bool true, Value.bool (St.first r), Value.int .i64 (St.win r), Value.int .i64 (St.wait r), Value.int .i64 (St.tries r), Value.int .i64 (St.state r), Value.int .i64 (St.gen r), Value.int .i64 (St.sent r), Value.int .i64 (St.acked r), Value.int .i64 (St.wanted r), Value.bool (St.rej r), Value.bool (St.ren r), Value.iface 9 (Value.iface (List.length (St.queue r)) (Value.iface 3 (Value.agg (List.toArray (ss (St.queue r)))))), Value.iface 9 (Value.iface (List.length (St.out r)) (Value.iface 3 (Value.agg (List.toArray (ss (St.out r)))))), Value.int .i64 (St.left r), Value.int .i64 (St.tried r)], (by kernel_rfl), (by kernel_rfl), (by kernel_rfl)⟩, trivial⟩ (by kernel_rfl) (Value.tuple #[Value.iface 61 (Value.iface (List.length (St.ans s')) (Value.iface 3 (Value.agg (List.toArray (evl (St.ans s')))))), Value.int .i64 e]) ([Blk.mk 92 true [Value.bool true, Value.bool (St.first r'), Value.int .i64 (St.win r'), Value.int .i64 (St.wait r'), Value.int .i64 (St.tries r'), Value.int .i64 (St.state r'), Value.int .i64 (St.gen r'), Value.int .i64 (St.sent r'), Value.int .i64 (St.acked r'), Value.int .i64 (St.wanted r'), Value.bool (St.rej r'), Value.bool (St.ren r'), Value.iface 9 (Value.iface (List.length (St.queue r')) (Value.iface 3 (Value.agg (List.toArray (ss (St.queue r')))))), Value.iface 9 (Value.iface (List.length (St.out r')) (Value.iface 3 (Value.agg (List.toArray (ss (St.out r')))))), Value.int .i64 (St.left r'), Value.int .i64 (St.tried r')]]) (.cons (by kernel_rfl) .nil) (by kernel_rfl) (Heap.set (Heap.alloc (Heap.alloc (Heap.set (Heap.set (Heap.set (heapO [some (Blk.mk 73 true [Value.int .i64 (St.left s), Value.int .i64 (St.wait s), Value.int .i64 (St.tried s), Value.int .i64 (St.tries s), Value.bool (St.first s), Value.int .i64 (St.win s), Value.int .i64 (St.state s), Value.int .i64 (St.gen s), Value.int .i64 (St.sent s), Value.int .i64 (St.acked s), Value.int .i64 (St.wanted s), Value.bool (St.rej s), Value.bool (St.ren s), Value.slice (some (Addr.mk 1 (List.length pre) none)) (List.length (St.queue s)) (List.length (St.queue s)), Value.slice (some (Addr.mk 2 0 none)) (List.length (St.out s)) (List.length (St.out s)), FS 61 nA 3 cA]), some (Blk.mk 9 true (ss (pre ++ St.queue s))), some (Blk.mk 9 true (ss (St.out s))), some (Blk.mk 92 true [Value.bool true, Value.bool (St.first r), Value.int .i64 (St.win r), Value.int .i64 (St.wait r), Value.int .i64 (St.tries r), Value.int .i64 (St.state r), Value.int .i64 (St.gen r), Value.int .i64 (St.sent r), Value.int .i64 (St.acked r), Value.int .i64 (St.wanted r), Value.bool (St.rej r), Value.bool (St.ren r), FS 9 (List.length (St.queue r)) 3 (List.toArray (ss (St.queue r))), FS 9 (List.length (St.out r)) 3 (List.toArray (ss (St.out r))), Value.int .i64 (St.left r), Value.int .i64 (St.tried r)])]) 0 (some (Blk.mk 73 true [Value.int .i64 (St.left s'), Value.int .i64 (St.wait s'), Value.int .i64 (St.tried s'), Value.int .i64 (St.tries s'), Value.bool (St.first s'), Value.int .i64 (St.win s'), Value.int .i64 (St.state s'), Value.int .i64 (St.gen s'), Value.int .i64 (St.sent s'), Value.int .i64 (St.acked s'), Value.int .i64 (St.wanted s'), Value.bool (St.rej s'), Value.bool (St.ren s'), Value.slice (some (Addr.mk 4 (List.length pre') none)) (List.length (St.queue s')) (List.length (St.queue s')), Value.slice (some (Addr.mk (4 + 1) 0 none)) (List.length (St.out s')) (List.length (St.out s')), FS 61 (List.length (St.ans s')) 3 (List.toArray (evl (St.ans s')))]))) 1 none) 2 none) (Blk.mk 9 true (ss (pre' ++ St.queue s')))) (Blk.mk 9 true (ss (St.out s')))) 3 (some (Blk.mk 92 true [Value.bool true, Value.bool (St.first r'), Value.int .i64 (St.win r'), Value.int .i64 (St.wait r'), Value.int .i64 (St.tries r'), Value.int .i64 (St.state r'), Value.int .i64 (St.gen r'), Value.int .i64 (St.sent r'), Value.int .i64 (St.acked r'), Value.int .i64 (St.wanted r'), Value.bool (St.rej r'), Value.bool (St.ren r'), Value.iface 9 (Value.iface (List.length (St.queue r')) (Value.iface 3 (Value.agg (List.toArray (ss (St.queue r')))))), Value.iface 9 (Value.iface (List.length (St.out r')) (Value.iface 3 (Value.agg (List.toArray (ss (St.out r')))))), Value.int .i64 (St.left r'), Value.int .i64 (St.tried r')]))) (by kernel_rfl) ?_
      refine kp 48 (.tuple #[Value.iface 61 (Value.iface (List.length (St.ans s')) (Value.iface 3 (Value.agg (List.toArray (evl (St.ans s')))))), vI e]) (kp 55 (lv (St.ans s')) (kp 56 (vI e) (kp 11 (lv (St.ans s')) (kp 12 (vI e) (WpOps.nil (thenK_at (Wp.seq (Wp.text (kp 57 (vI e) (kp 58 (vI e) (kp 59 vF (kp 60 vF (kp 61 (lv (St.ans s')) (kp 62 (lv (St.ans s')) (cl 63 24 [Value.iface 61 (Value.iface (List.length (St.ans s')) (Value.iface 3 (Value.agg (List.toArray (evl (St.ans s')))))), Value.iface 61 (Value.iface (List.length (St.ans s')) (Value.iface 3 (Value.agg (List.toArray (evl (St.ans s'))))))] ?_)))) (hop := fun _ => by_fact de))))))))))))
      refine WpCall.consume [0, 1, 2, 3, 4, 5] (c5) (by kernel_rfl) (by kernel_rfl) ?_
      refine kp 64 vF (kp 65 vF (kp 66 vF (kp 67 (vP 0 0) (kp 68 (vP 3 0) (cl 69 25 [vP 0 0, vP 3 0] ?_)))))
      refine WpCall.same 0 4 5 3 c6 (by decide) (by kernel_rfl) (by kernel_rfl) (by kernel_rfl) (by kernel_rfl) ?_
      clear c6
      unfold oB stC rowQ rowO qB rB rC sv
      refine kp 70 vF (kp 71 vF (WpOps.nil (thenK_at (off' (Wp.skip (blockK_norm (thenK_at (Wp.text (kp 37 (vI i) (kp 38 (vI (IntKind.wrap .i64 ((↑i : Int) + 1))) (kp 8 (vI (IntKind.wrap .i64 ((↑i : Int) + 1))) (WpOps.nil (thenK_at ?_)))))))))))))
      exact ⟨⟨i + 1, s', r', pre', s'.ans.length, (evl s'.ans).toArray⟩, by dsimp only; omega, ⟨hc1, hal', o1, o2⟩, viewB 0 4 5 3 (by decide) (by kernel_rfl) rfl (by kernel_rfl) (by kernel_rfl) (by kernel_rfl) ⟨.w (.un (by kernel_rfl) rfl), .w (.un (by kernel_rfl) rfl), .w (.un (by kernel_rfl) rfl), .w (.un (congrArg (Value.int .i64) w2) rfl), trivial⟩⟩
    · unfold oB stC rowQ rowO qB rB rC sv
      refine Wp.seq (Wp.seq (Wp.text (kp 29 (vI i) (kp 30 (.iface 61 (Value.iface (List.length l) (Value.iface x (Value.agg (List.toArray (eics l)))))) (kp 31 (vI (List.length l)) (kp 32 (.bool (decide ((↑i : Int) < (↑(List.length l) : Int)))) (kp 33 (.bool (decide ((↑i : Int) < (↑(List.length l) : Int)))) ?_)))))))
      refine WpOps.fork 3 (decide ((↑i : Int) < (↑(List.length l) : Int))) [34, 35, 36] 36 (decide ((↑i : Int) < 300)) (false) (by kernel_rfl) (fun g36 => ?_) (fun g36 => ?_) (fun f_36 b36 hb36 => ?_)
      · refine kp 34 (vI i) (kp 35 (.bool (decide ((↑i : Int) < 300))) (kp 36 (.bool (decide ((↑i : Int) < 300))) (WpOps.nil ?_) (hop := fun _ => o_pickT g36)) (hw := wants_tt g36)) (hw := wants_tt g36)
        exact ⟨rfl, (.upd rfl (.upd rfl (.upd rfl .refl))), (by kernel_rfl)⟩
      · refine um 34 (um 35 (kp 36 vF (WpOps.nil ?_) (hop := fun _ => o_pickF g36)) (hw := wants_ft g36)) (hw := wants_ft g36)
        exact ⟨rfl, (.upd rfl (.upd rfl (.upd rfl .refl))), (by kernel_rfl)⟩
      refine WpOps.nil (thenK_at ?_)
      obtain rfl : b36 = false := by
        rw [hb36]
        by_cases h1 : i < l.length
        · rw [show decide ((i : Int) < 300) = false from decide_eq_false (by omega)]
          cases decide ((i : Int) < (l.length : Int)) <;> rfl
        · rw [show decide ((i : Int) < (l.length : Int)) = false from decide_eq_false (by omega)]
          rfl
      refine off' (Wp.exit (thenK_exit (thenK_exit (blockK_hit (thenK_at (Wp.seq (Wp.text (fr 72 12 [] (WpFun.of (c12) (kp 4 vT (WpOps.nil (thenK_at (Wp.ret (endK_retn [vT] vT (by kernel_rfl) (by kernel_rfl) ?_))))))))))))))
      rfl
end Go.Proofs.Ytgefohjickhldaa.D
