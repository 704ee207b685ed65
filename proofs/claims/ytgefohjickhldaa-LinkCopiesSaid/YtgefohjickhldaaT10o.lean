/- The law LinkCopies. -/
import Derived.Test.YtgefohjickhldaaFwLem
import Derived.Test.YtgefohjickhldaaFwMat
import Derived.Test.YtgefohjickhldaaFwTold
import Derived.Test.YtgefohjickhldaaF10d
import Derived.Test.YtgefohjickhldaaT10n
import Derived.Test.YtgefohjickhldaaN10a
namespace Go.Proofs.Ytgefohjickhldaa.D
open Go.Fw Go.RowKit

theorem eics_drop' : ∀ (l : List EvI) (i : Nat) (h : i < l.length), (eics l).drop (i * 6) = eic l[i] ++ eics (l.drop (i + 1)) ∧ i * 6 + 6 ≤ (eics l).length
  | e :: l, 0, _ => ⟨rfl, by rw [eics_len, List.length_cons]; omega⟩
  | e :: l, i + 1, h => by
    obtain ⟨h1, h2⟩ := eics_drop' l i (by simpa using h)
    have h3 : eics (e :: l) = eic e ++ eics l := rfl
    have h4 : (eic e).length = 6 := rfl
    refine ⟨?_, ?_⟩
    · rw [h3, show (i + 1) * 6 = 6 + i * 6 by omega, ← List.drop_drop, ← h4, List.drop_left]
      exact h1
    · rw [h3, List.length_append]
      omega
theorem eics_get {l : List EvI} {i : Nat} (h : i < l.length) : cellsAt (eics l) ((i : Int).toNat * 6) 6 = some (eic l[i]) := by
  obtain ⟨h1, h2⟩ := eics_drop' l i h
  rw [show (i : Int).toNat = i by omega]
  unfold cellsAt
  rw [if_pos h2, h1]
  rfl
/-- A station that meets events. -/
def St.run (s : St) (l : List EvI) : St := l.foldl (fun s e => (s.ons false e.w e.k e.d).2) s
theorem St.run_succ {s : St} {l : List EvI} {i : Nat} (h : i < l.length) : s.run (l.take (i + 1)) = ((s.run (l.take i)).ons false l[i].w l[i].k l[i].d).2 := by
  unfold St.run
  rw [List.take_succ_eq_append_getElem h, List.foldl_append]
  rfl
theorem St.run_ok {s : St} (h : s.Ok) : ∀ l, (s.run l).Ok
  | [] => h
  | e :: l => St.run_ok (s := (s.ons false e.w e.k e.d).2) (h.ons false e.w e.k e.d) l
theorem obTC {hR : Heap} {rl : List Nat} {m p b c B C nA : Nat} {s : St} {cA : Array Value} (h1 : rl.getD b 0 = B) (h2 : rl.getD c 0 = C) (hb : b < m) (hc : c < m) : All2 (TC E hR rl m) (stC s (rowQ s p B) (rowO s C) (FS 61 nA 3 cA)) (oB s p b c nA cA).cells := by
  subst h1 h2
  have nn : ∀ n : Int, TC E hR rl m (.int .i64 n) (.int .i64 n) := fun n => .un rfl rfl
  have bb : ∀ n : Bool, TC E hR rl m (.bool n) (.bool n) := fun n => .un rfl rfl
  exact .cons (nn _) (.cons (nn _) (.cons (nn _) (.cons (nn _) (.cons (bb _) (.cons (nn _) (.cons (nn _) (.cons (nn _) (.cons (nn _) (.cons (nn _) (.cons (nn _) (.cons (bb _) (.cons (bb _) (.cons (.un rfl (decide_eq_true hb)) (.cons (.un rfl (decide_eq_true hc)) (.cons (.un rfl rfl) .nil)))))))))))))))
def behindAt (h : Heap) (a b c : Nat) (s' : St) (pre' : List ByteArray) : Heap :=
  (((((h.set a (some (oB s' pre'.length h.next (h.next + 1) s'.ans.length (evl s'.ans).toArray))).set b none).set c none).alloc (qB (pre' ++ s'.queue))).alloc (qB s'.out))
theorem WpCall.onAt {s s' : St} {pre pre' : List ByteArray} {nA : Nat} {cA : Array Value} {w k x y z e : Int} {d : ByteArray} {h : Heap} {K : Value → Heap → Prop} (a b c : Nat) (ct : LentP E 22 [.pointer (some ⟨0, 0, none⟩), evv w k x y z d] (onIn s pre nA cA) (onV e s') (onOut s' pre')) (hd : [a, b, c].Nodup) (h0 : h.get a = some (oB s pre.length b c nA cA))
    (h1 : h.get b = some (qB (pre ++ s.queue))) (h2 : h.get c = some (qB s.out)) (kk : K (onV e s') (behindAt h a b c s' pre')) : WpCall E 22 [.pointer (some ⟨a, 0, none⟩), evv w k x y z d] h K := by
  refine WpCall.lentP [a, b, c] ct hd ⟨⟨_, h0, rfl, ok_oB _ _ _ _ _ _ (by decide : 1 < 3) (by decide : 2 < 3)⟩, ⟨_, h1, CellsOk.eq rfl (ss_flat _)⟩, ⟨_, h2, CellsOk.eq rfl (ss_flat _)⟩, trivial⟩ rfl (onV e s')
    [some (oB s' pre'.length h.next (h.next + 1) s'.ans.length (evl s'.ans).toArray), none, none, some (qB (pre' ++ s'.queue)), some (qB s'.out)]
    (.cons ?_ (.cons rfl (.cons rfl (.cons (congrArg some (unB_flat (ss_flat _))) (.cons (congrArg some (unB_flat (ss_flat _))) .nil))))) rfl _ rfl kk
  rfl
theorem WpCall.gAt {f : FuncId} {s : St} {pre : List ByteArray} {nA : Nat} {cA : Array Value} {v : Value} {h : Heap} {K : Value → Heap → Prop} (a b c : Nat) (ct : Lent E f [.pointer (some ⟨0, 0, none⟩)] (onIn s pre nA cA) v (onIn s pre nA cA)) (hd : [a, b, c].Nodup) (h0 : h.get a = some (oB s pre.length b c nA cA))
    (h1 : h.get b = some (qB (pre ++ s.queue))) (h2 : h.get c = some (qB s.out)) (hv : unT [a, b, c] v = v) (k : K v (((h.set a (some (oB s pre.length b c nA cA))).set b (some (qB (pre ++ s.queue)))).set c (some (qB s.out)))) : WpCall E f [.pointer (some ⟨a, 0, none⟩)] h K :=
  WpCall.lent [a, b, c] ct hd ⟨⟨_, h0, rfl, ok_oB _ _ _ _ _ _ (by decide : 1 < 3) (by decide : 2 < 3)⟩, ⟨_, h1, CellsOk.eq rfl (ss_flat _)⟩, ⟨_, h2, CellsOk.eq rfl (ss_flat _)⟩, trivial⟩ rfl v [oB s pre.length b c nA cA, qB (pre ++ s.queue), qB s.out]
    (.cons rfl (.cons (unB_flat (ss_flat _)) (.cons (unB_flat (ss_flat _)) .nil))) hv _ rfl k
theorem WpCall.cpAt {s : St} {pre : List ByteArray} {nA : Nat} {cA : Array Value} {h : Heap} {K : Value → Heap → Prop} (hok : s.Ok) (h0 : h.get 0 = some (oB s pre.length 1 2 nA cA)) (h1 : h.get 1 = some (qB (pre ++ s.queue))) (h2 : h.get 2 = some (qB s.out))
    (k : K (.pointer (some ⟨h.next, 0, none⟩)) ((((((h.set 0 (some (oB s pre.length 1 2 nA cA))).set 1 (some (qB (pre ++ s.queue)))).set 2 (some (qB s.out))).alloc (oB s 0 (h.next + 1) (h.next + 2) 0 #[])).alloc (qB s.queue)).alloc (qB s.out))) : WpCall E 27 [.pointer (some ⟨0, 0, none⟩)] h K := by
  refine WpCall.lent [0, 1, 2] (copy27 s pre nA cA hok) (by decide) ⟨⟨_, h0, rfl, ok_oB _ _ _ _ _ _ (by decide : 1 < 3) (by decide : 2 < 3)⟩, ⟨_, h1, CellsOk.eq rfl (ss_flat _)⟩, ⟨_, h2, CellsOk.eq rfl (ss_flat _)⟩, trivial⟩ rfl (.pointer (some ⟨h.next, 0, none⟩)) [oB s pre.length 1 2 nA cA, qB (pre ++ s.queue), qB s.out, oB s 0 (h.next + 1) (h.next + 2) 0 #[], qB s.queue, qB s.out]
    (.cons rfl (.cons (unB_flat (ss_flat _)) (.cons (unB_flat (ss_flat _)) (.cons rfl (.cons (unB_flat (ss_flat _)) (.cons (unB_flat (ss_flat _)) .nil)))))) rfl _ rfl k
theorem viewO1 {n : Nat} {sl : Slots} {l : List (Nat × Value)} {h : Heap} {s : St} {pre : List ByteArray} {nA : Nat} {cA : Array Value} (a b c : Nat) (hd : [a, b, c].Nodup) (h0 : h.get a = some (oB s pre.length b c nA cA)) (h1 : h.get b = some (qB (pre ++ s.queue))) (h2 : h.get c = some (qB s.out))
    (hs : SlotsT E h [a, b, c] 3 sl l) : View 0 E n sl h (layj l) (heapO [some (oB s pre.length 1 2 nA cA), some (qB (pre ++ s.queue)), some (qB s.out)]) :=
  View.ofO [a, b, c] [some (oB s pre.length 1 2 nA cA), some (qB (pre ++ s.queue)), some (qB s.out)] l hd rfl ⟨OneO.cells _ h0 (obTC rfl rfl (show 1 < 3 by decide) (show 2 < 3 by decide)), OneO.flat _ h1 rfl (ss_flat _), OneO.flat _ h2 rfl (ss_flat _), trivial⟩ hs
theorem viewNS {n : Nat} {sl : Slots} {l : List (Nat × Value)} {h : Heap} {f : Bool} {w wt t : Nat} (hn : h.next = 2) (h0 : h.get 1 = some (nB f w wt t))
    (hs : SlotsT E h [1, 2, 3] 3 sl l) : View 0 E n sl h (layj l) (heapO [some (oB (St.new f w wt t) 0 1 2 0 #[]), some (qB []), some (qB [])]) := by
  obtain ⟨ti', ht'⟩ := ty61
  have nn : ∀ n : Int, TC E (h.less [1, 2, 3]) [1, 2, 3] 3 (.int .i64 n) (.int .i64 n) := fun n => .un rfl rfl
  have bb : ∀ n : Bool, TC E (h.less [1, 2, 3]) [1, 2, 3] 3 (.bool n) (.bool n) := fun n => .un rfl rfl
  refine View.ofO [1, 2, 3] [some (oB (St.new f w wt t) 0 1 2 0 #[]), some (qB []), some (qB [])] l (show [1, 2, 3].Nodup by decide) rfl ⟨OneO.cells _ h0 ?_, OneO.ph (by omega), OneO.ph (by omega), trivial⟩ hs
  exact .cons (nn _) (.cons (nn _) (.cons (nn _) (.cons (nn _) (.cons (bb _) (.cons (nn _) (.cons (nn _) (.cons (nn _) (.cons (nn _) (.cons (nn _) (.cons (nn _) (.cons (bb _) (.cons (bb _) (.cons (.bare 1 0 rfl rfl (show 1 < 3 by decide)) (.cons (.bare 2 0 rfl rfl (show 2 < 3 by decide)) (.cons (.ice (.slice none 0 0) rfl (NilC.nil3 (e := (61 : Nat)) ht')) .nil)))))))))))))))
theorem view9 {n : Nat} {sl : Slots} {l : List (Nat × Value)} {h : Heap} {t r : St} {pS pC pD : List ByteArray} {nS nC nD : Nat} {cS cC cD : Array Value} (a b c d e f g i j : Nat) (hd : [a, b, c, d, e, f, g, i, j].Nodup) (h0 : h.get a = some (oB t pS.length b c nS cS)) (h1 : h.get b = some (qB (pS ++ t.queue))) (h2 : h.get c = some (qB t.out)) (h3 : h.get d = some (oB t pC.length e f nC cC)) (h4 : h.get e = some (qB (pC ++ t.queue))) (h5 : h.get f = some (qB t.out)) (h6 : h.get g = some (oB r pD.length i j nD cD)) (h7 : h.get i = some (qB (pD ++ r.queue))) (h8 : h.get j = some (qB r.out))
    (hs : SlotsT E h [a, b, c, d, e, f, g, i, j] 9 sl l) : View 0 E n sl h (layj l) (heapO [some (oB t pS.length 1 2 nS cS), some (qB (pS ++ t.queue)), some (qB t.out), some (oB t pC.length 4 5 nC cC), some (qB (pC ++ t.queue)), some (qB t.out), some (oB r pD.length 7 8 nD cD), some (qB (pD ++ r.queue)), some (qB r.out)]) :=
  View.ofO [a, b, c, d, e, f, g, i, j] [some (oB t pS.length 1 2 nS cS), some (qB (pS ++ t.queue)), some (qB t.out), some (oB t pC.length 4 5 nC cC), some (qB (pC ++ t.queue)), some (qB t.out), some (oB r pD.length 7 8 nD cD), some (qB (pD ++ r.queue)), some (qB r.out)] l hd rfl ⟨OneO.cells _ h0 (obTC rfl rfl (show 1 < 9 by decide) (show 2 < 9 by decide)), OneO.flat _ h1 rfl (ss_flat _), OneO.flat _ h2 rfl (ss_flat _), OneO.cells _ h3 (obTC rfl rfl (show 4 < 9 by decide) (show 5 < 9 by decide)), OneO.flat _ h4 rfl (ss_flat _), OneO.flat _ h5 rfl (ss_flat _), OneO.cells _ h6 (obTC rfl rfl (show 7 < 9 by decide) (show 8 < 9 by decide)), OneO.flat _ h7 rfl (ss_flat _), OneO.flat _ h8 rfl (ss_flat _), trivial⟩ hs
theorem view6 {n : Nat} {sl : Slots} {l : List (Nat × Value)} {h : Heap} {t r : St} {pS pD : List ByteArray} {nS nD : Nat} {cS cD : Array Value} (a b c d e f : Nat) (hd : [a, b, c, d, e, f].Nodup) (h0 : h.get a = some (oB t pS.length b c nS cS)) (h1 : h.get b = some (qB (pS ++ t.queue))) (h2 : h.get c = some (qB t.out)) (h3 : h.get d = some (oB r pD.length e f nD cD)) (h4 : h.get e = some (qB (pD ++ r.queue))) (h5 : h.get f = some (qB r.out))
    (hs : SlotsT E h [a, b, c, d, e, f] 6 sl l) : View 0 E n sl h (layj l) (heapO [some (oB t pS.length 1 2 nS cS), some (qB (pS ++ t.queue)), some (qB t.out), some (oB r pD.length 4 5 nD cD), some (qB (pD ++ r.queue)), some (qB r.out)]) :=
  View.ofO [a, b, c, d, e, f] [some (oB t pS.length 1 2 nS cS), some (qB (pS ++ t.queue)), some (qB t.out), some (oB r pD.length 4 5 nD cD), some (qB (pD ++ r.queue)), some (qB r.out)] l hd rfl ⟨OneO.cells _ h0 (obTC rfl rfl (show 1 < 6 by decide) (show 2 < 6 by decide)), OneO.flat _ h1 rfl (ss_flat _), OneO.flat _ h2 rfl (ss_flat _), OneO.cells _ h3 (obTC rfl rfl (show 4 < 6 by decide) (show 5 < 6 by decide)), OneO.flat _ h4 rfl (ss_flat _), OneO.flat _ h5 rfl (ss_flat _), trivial⟩ hs
structure G9 where
  i : Nat
  t : St
  pS : List ByteArray
  nS : Nat
  cS : Array Value
  pC : List ByteArray
  nC : Nat
  cC : Array Value
theorem f8 : E.funcs 8 = some Try.f8 := by kernel_rfl
structure G8 where
  i : Nat
  s : St
  pre : List ByteArray
  nA : Nat
  cA : Array Value
theorem law8 (f : Bool) (w wt t : Int) (x : Nat) (l : List EvI) (x2 : Nat) (l2 : List EvI) (hl : l.length * 56 ≤ 140737488351232) (hl2 : l2.length * 56 ≤ 140737488351232) : Fun E 8 [uvv f w wt t, FS 61 l.length x (eics l).toArray, FS 61 l2.length x2 (eics l2).toArray] (.bool true) := by
  have c12 := sane12
  cases hn : uNo w wt t with
  | true =>
    have c1 := new26no f w wt t hn
    unfold uvv at *
    refine Fun.of f8 rfl (of_decide_eq_true (by kernel_rfl)) rfl ?_
    refine Wp.seq (Wp.text (md 3 (vP 0 0) (Blk.mk 53 true [Value.bool f, vI w, vI wt, vI t]) (kp 6 vF (WpOps.nil (thenK_at (Wp.seq (Wp.text (kp 19 (vP 0 0) (kp 20 (.bool f) (kp 21 (vP 0 1) (kp 22 (vI w) (kp 23 (vP 0 2) (kp 24 (vI wt) (kp 25 (vP 0 3) (kp 26 (vI t) (cl 27 26 [Value.bool f, vI w, vI wt, vI t] ?_))))))))))))))))
    refine WpCall.consume [0] (c1) (by kernel_rfl) (by kernel_rfl) ?_
    refine kp 18 (.tuple #[Value.pointer none, vI 1]) (kp 28 (.pointer none) (kp 29 (vI 1) (kp 7 (.pointer none) (kp 8 (vI 1) (WpOps.nil (thenK_at (Wp.seq (Wp.seq (Wp.text (kp 30 (vI 1) (kp 31 vT (WpOps.nil (thenK_at (on' (Wp.seq (Wp.text (kp 32 (.pointer none) (kp 33 vT (kp 34 vT (fr 35 12 [] (WpFun.of (c12) (kp 36 vT (kp 6 vT (WpOps.nil (thenK_at (Wp.ret (thenK_ret (endK_retn [vT] vT (by kernel_rfl) (by kernel_rfl) ?_))))))))))))))))))))))))))))
    rfl
  | false =>
    obtain ⟨w1, w2, w3, w4, w5, w6⟩ := uNo_false hn
    obtain ⟨W, rfl⟩ := Int.eq_ofNat_of_zero_le (by omega : 0 ≤ w)
    obtain ⟨WT, rfl⟩ := Int.eq_ofNat_of_zero_le (by omega : 0 ≤ wt)
    obtain ⟨T, rfl⟩ := Int.eq_ofNat_of_zero_le (by omega : 0 ≤ t)
    have c1 := new26 f W WT T hn
    unfold uvv at *
    refine Fun.of f8 rfl (of_decide_eq_true (by kernel_rfl)) rfl ?_
    refine Wp.seq (Wp.text (md 3 (vP 0 0) (Blk.mk 53 true [Value.bool f, vI W, vI WT, vI T]) (kp 6 vF (WpOps.nil (thenK_at (Wp.seq (Wp.text (kp 19 (vP 0 0) (kp 20 (.bool f) (kp 21 (vP 0 1) (kp 22 (vI W) (kp 23 (vP 0 2) (kp 24 (vI WT) (kp 25 (vP 0 3) (kp 26 (vI T) (cl 27 26 [Value.bool f, vI W, vI WT, vI T] ?_))))))))))))))))
    refine WpCall.lent [] (c1) (by decide) trivial (by kernel_rfl) (Value.tuple #[Value.pointer (some (Addr.mk (List.getD [1] 0 0) 0 none)), Value.int .i64 0]) ([Blk.mk 73 true [Value.int .i64 (St.left (St.new f W WT T)), Value.int .i64 (St.wait (St.new f W WT T)), Value.int .i64 (St.tried (St.new f W WT T)), Value.int .i64 (St.tries (St.new f W WT T)), Value.bool (St.first (St.new f W WT T)), Value.int .i64 (St.win (St.new f W WT T)), Value.int .i64 (St.state (St.new f W WT T)), Value.int .i64 (St.gen (St.new f W WT T)), Value.int .i64 (St.sent (St.new f W WT T)), Value.int .i64 (St.acked (St.new f W WT T)), Value.int .i64 (St.wanted (St.new f W WT T)), Value.bool (St.rej (St.new f W WT T)), Value.bool (St.ren (St.new f W WT T)), Value.slice none 0 0, Value.slice none 0 0, Value.slice none 0 0]]) (.cons (by kernel_rfl) .nil) (by kernel_rfl) (Heap.alloc (Heap.alloc Heap.none (Blk.mk 53 true [Value.bool f, Value.int .i64 W, Value.int .i64 WT, Value.int .i64 T])) (Blk.mk 73 true [Value.int .i64 (St.left (St.new f W WT T)), Value.int .i64 (St.wait (St.new f W WT T)), Value.int .i64 (St.tried (St.new f W WT T)), Value.int .i64 (St.tries (St.new f W WT T)), Value.bool (St.first (St.new f W WT T)), Value.int .i64 (St.win (St.new f W WT T)), Value.int .i64 (St.state (St.new f W WT T)), Value.int .i64 (St.gen (St.new f W WT T)), Value.int .i64 (St.sent (St.new f W WT T)), Value.int .i64 (St.acked (St.new f W WT T)), Value.int .i64 (St.wanted (St.new f W WT T)), Value.bool (St.rej (St.new f W WT T)), Value.bool (St.ren (St.new f W WT T)), Value.slice none 0 0, Value.slice none 0 0, Value.slice none 0 0])) (by kernel_rfl) ?_
    refine kp 18 (.tuple #[Value.pointer (some (Addr.mk (List.getD [1] 0 0) 0 none)), vI 0]) (kp 28 (vP 1 0) (kp 29 (vI 0) (kp 7 (vP 1 0) (kp 8 (vI 0) (WpOps.nil (thenK_at (Wp.seq (Wp.seq (Wp.text (kp 30 (vI 0) (kp 31 vF (WpOps.nil (thenK_at (off' (Wp.skip (thenK_at (Wp.seq (Wp.seq (Wp.text (kp 9 (vI 0) (WpOps.nil (thenK_at (Wp.block ?_)))))))))))))))))))))))
    refine Wp.loop (G := G8) (fun g => layj [(1, FS 61 l.length x (eics l).toArray), (2, FS 61 l2.length x2 (eics l2).toArray), (7, .pointer (some ⟨0, 0, none⟩)), (9, .int .i64 g.i)])
      (fun g => heapO [some (oB g.s g.pre.length 1 2 g.nA g.cA), some (qB (g.pre ++ g.s.queue)), some (qB g.s.out)]) (fun g => l.length - g.i) (fun g => g.i ≤ l.length ∧ St.Ok g.s)
      ⟨0, St.new f W WT T, [], 0, #[]⟩ ?_ ⟨Nat.zero_le _, St.new_ok (by omega) (by omega) (by omega)⟩ ?_
    · exact viewNS (by kernel_rfl) (by kernel_rfl) ⟨.w (.un (by kernel_rfl) rfl), .w (.un (by kernel_rfl) rfl), .w (.un (by kernel_rfl) rfl), .w (.un (by kernel_rfl) rfl), trivial⟩
    clear c1
    rintro ⟨i, s, pre, nA, cA⟩ ⟨hi, hok⟩
    dsimp only at hi hok ⊢
    by_cases hc : i < l.length ∧ i < 200
    · obtain ⟨hc1, hc2⟩ := hc
      have d1 : decide ((i : Int) < (l.length : Int)) = true := decide_eq_true (by omega)
      have d2 : decide ((i : Int) < 200) = true := decide_eq_true (by omega)
      have g1 : (0 : Int) ≤ (i : Int) ∧ (i : Int) < (l.length : Int) := by omega
      obtain ⟨⟨w, k, a, b, c, d, z⟩, g2⟩ := eics_cell hc1
      dsimp only at g2
      have w2 : IntKind.i64.wrap ((i : Int) + 1) = ((i + 1 : Nat) : Int) := by rw [wr _ (by omega) (by omega)]; omega
      obtain ⟨pre', c2⟩ := on22 s pre nA cA w k a b c d z hok
      have o1 := hok.ons false w k d
      generalize (s.ons false w k d).1 = e at *
      generalize (s.ons false w k d).2 = s' at *
      unfold oB stC rowQ rowO qB
      refine Wp.seq (Wp.seq (Wp.text (kp 37 (vI i) (kp 38 (.iface 61 (Value.iface (List.length l) (Value.iface x (Value.agg (List.toArray (eics l)))))) (kp 39 (vI (List.length l)) (kp 40 vT (kp 41 vT (kp 42 (vI i) (kp 43 vT (kp 44 vT (WpOps.nil (thenK_at (on' (Wp.skip (thenK_at (Wp.seq (Wp.block (Wp.text (kp 47 (vP 0 0) (kp 48 (.iface 61 (Value.iface (List.length l) (Value.iface x (Value.agg (List.toArray (eics l)))))) (kp 49 (vI i) (kp 50 (.iface 61 (Value.iface (Int.toNat (↑i : Int) * 6) (Value.agg (List.toArray (eics l))))) (kp 51 (.agg #[vI w, vI k, vI a, vI b, vI c, Value.string d]) (cl 52 22 [vP 0 0, Value.agg #[vI w, vI k, vI a, vI b, vI c, Value.string d]] ?_) (hop := fun _ => o_loadIA (Int.toNat (↑i : Int) * 6) g2)) (hop := fun _ => o_indexI (e := 61) (size := 6) (a := (↑i : Int)) g1)))))))))))))) (hop := fun _ => by_fact d2)))) (hop := fun _ => by_fact d1)))))))
      refine WpCall.onAt 0 1 2 c2 (by decide) (by kernel_rfl) (by kernel_rfl) (by kernel_rfl) ?_
      clear c2
      unfold behindAt onV
      refine WpOps.nil (blockK_norm (thenK_at (Wp.text (kp 45 (vI i) (kp 46 (vI (IntKind.wrap .i64 ((↑i : Int) + 1))) (kp 9 (vI (IntKind.wrap .i64 ((↑i : Int) + 1))) (WpOps.nil (thenK_at ?_))))))))
      exact ⟨⟨i + 1, s', pre', s'.ans.length, (evl s'.ans).toArray⟩, by dsimp only; omega, ⟨hc1, o1⟩, viewO1 0 3 4 (by decide) (by kernel_rfl) (by kernel_rfl) (by kernel_rfl) ⟨.w (.un (by kernel_rfl) rfl), .w (.un (by kernel_rfl) rfl), .w (.un (by kernel_rfl) rfl), .w (.un (congrArg (Value.int .i64) w2) rfl), trivial⟩⟩
    · have hb : (bif decide ((i : Int) < (l.length : Int)) then decide ((i : Int) < 200) else false) = false := by
        by_cases h1 : i < l.length
        · rw [show decide ((i : Int) < 200) = false from decide_eq_false (by omega)]
          cases decide ((i : Int) < (l.length : Int)) <;> rfl
        · rw [show decide ((i : Int) < (l.length : Int)) = false from decide_eq_false (by omega)]
          rfl
      unfold oB stC rowQ rowO qB
      refine Wp.seq (Wp.seq (Wp.text (kp 37 (vI i) (kp 38 (.iface 61 (Value.iface (List.length l) (Value.iface x (Value.agg (List.toArray (eics l)))))) (kp 39 (vI (List.length l)) (kp 40 (.bool (decide ((↑i : Int) < (↑(List.length l) : Int)))) (kp 41 (.bool (decide ((↑i : Int) < (↑(List.length l) : Int)))) ?_)))))))
      refine WpOps.fork 3 (decide ((↑i : Int) < (↑(List.length l) : Int))) [42, 43, 44] 44 (decide ((↑i : Int) < 200)) (false) (by kernel_rfl) (fun g44 => ?_) (fun g44 => ?_) (fun f_44 b44 hb44 => ?_)
      · refine kp 42 (vI i) (kp 43 (.bool (decide ((↑i : Int) < 200))) (kp 44 (.bool (decide ((↑i : Int) < 200))) (WpOps.nil ?_) (hop := fun _ => o_pickT g44)) (hw := wants_tt g44)) (hw := wants_tt g44)
        exact ⟨rfl, (.upd rfl (.upd rfl (.upd rfl .refl))), (by kernel_rfl)⟩
      · refine um 42 (um 43 (kp 44 vF (WpOps.nil ?_) (hop := fun _ => o_pickF g44)) (hw := wants_ft g44)) (hw := wants_ft g44)
        exact ⟨rfl, (.upd rfl (.upd rfl (.upd rfl .refl))), (by kernel_rfl)⟩
      refine WpOps.nil (thenK_at ?_)
      obtain rfl : b44 = false := by rw [hb44]; exact hb
      refine off' (Wp.exit (thenK_exit (thenK_exit (blockK_hit (thenK_at (Wp.seq (Wp.text (kp 53 (vP 0 0) (cl 54 27 [vP 0 0] ?_)))))))))
      refine WpCall.cpAt (pre := pre) (nA := nA) (cA := cA) hok (by kernel_rfl) (by kernel_rfl) (by kernel_rfl) ?_
      refine kp 10 (vP 3 0) (WpOps.nil (thenK_at (Wp.seq (Wp.text (kp 55 (vP 0 0) (cl 56 27 [vP 0 0] ?_))))))
      refine WpCall.cpAt (pre := pre) (nA := nA) (cA := cA) hok (by kernel_rfl) (by kernel_rfl) (by kernel_rfl) ?_
      refine kp 11 (vP 6 0) (WpOps.nil (thenK_at (Wp.seq (Wp.seq (Wp.text (kp 57 (vP 3 0) (kp 58 vF (kp 59 vF (kp 60 (vP 6 0) (kp 61 vF (kp 62 vF (WpOps.nil (thenK_at (off' (Wp.skip (thenK_at (Wp.seq (Wp.seq (Wp.text (kp 12 (vI 0) (WpOps.nil (thenK_at (Wp.block ?_)))))))))))))))))))))))
      refine Wp.loop (G := G9) (fun g => layj [(2, FS 61 l2.length x2 (eics l2).toArray), (7, .pointer (some ⟨0, 0, none⟩)), (10, .pointer (some ⟨3, 0, none⟩)), (11, .pointer (some ⟨6, 0, none⟩)), (12, .int .i64 g.i)])
        (fun g => heapO [some (oB g.t g.pS.length 1 2 g.nS g.cS), some (qB (g.pS ++ g.t.queue)), some (qB g.t.out), some (oB g.t g.pC.length 4 5 g.nC g.cC), some (qB (g.pC ++ g.t.queue)), some (qB g.t.out), some (oB s ([] : List ByteArray).length 7 8 0 #[]), some (qB (([] : List ByteArray) ++ s.queue)), some (qB s.out)]) (fun g => l2.length - g.i) (fun g => (g.i ≤ l2.length ∧ g.i ≤ 200) ∧ g.t = s.run (l2.take g.i))
        ⟨0, s, pre, nA, cA, [], 0, #[]⟩ ?_ ⟨⟨Nat.zero_le _, Nat.zero_le _⟩, rfl⟩ ?_
      · exact view9 0 1 2 3 4 5 6 7 8 (by decide) (by kernel_rfl) (by kernel_rfl) (by kernel_rfl) (by kernel_rfl) (by kernel_rfl) (by kernel_rfl) (by kernel_rfl) (by kernel_rfl) (by kernel_rfl)  ⟨.w (.un (by kernel_rfl) rfl), .w (.un (by kernel_rfl) rfl), .w (.un (by kernel_rfl) rfl), .w (.un (by kernel_rfl) rfl), .w (.un (by kernel_rfl) rfl), trivial⟩
      rintro ⟨i, t, pS, nS, cS, pC, nC, cC⟩ ⟨⟨hi, hi2⟩, ht⟩
      dsimp only at hi hi2 ht ⊢
      have hokt : t.Ok := by rw [ht]; exact St.run_ok hok _
      by_cases hc : i < l2.length ∧ i < 200
      · obtain ⟨hc1, hc2⟩ := hc
        have d1 : decide ((i : Int) < (l2.length : Int)) = true := decide_eq_true (by omega)
        have d2 : decide ((i : Int) < 200) = true := decide_eq_true (by omega)
        have g1 : (0 : Int) ≤ (i : Int) ∧ (i : Int) < (l2.length : Int) := by omega
        have g2 := eics_get hc1
        have hrun := St.run_succ (s := s) hc1
        rw [← ht] at hrun
        generalize l2[i] = ev at g2 hrun
        obtain ⟨w, k, a, b, c, d, z⟩ := ev
        unfold eic at g2
        dsimp only at g2 hrun
        have w2 : IntKind.i64.wrap ((i : Int) + 1) = ((i + 1 : Nat) : Int) := by rw [wr _ (by omega) (by omega)]; omega
        obtain ⟨pre1, c2⟩ := on22 t pC nC cC w k a b c d z hokt
        obtain ⟨pre2, c3⟩ := on22 t pS nS cS w k a b c d z hokt
        have o1 := hokt.ons false w k d
        have n1 := St.ons_n t false w k d hokt
        generalize (t.ons false w k d).1 = e at *
        generalize (t.ons false w k d).2 = s' at *
        have c5 := events24 s'.ans (by omega)
        have a1 := state28 s' pre1 s'.ans.length (evl s'.ans).toArray o1.win.1
        have a2 := state28 s' pre2 s'.ans.length (evl s'.ans).toArray o1.win.1
        have b1 := out20 s' pre1 s'.ans.length (evl s'.ans).toArray o1.win.1
        have b2 := out20 s' pre2 s'.ans.length (evl s'.ans).toArray o1.win.1
        have e1 := queue29 s' pre1 s'.ans.length (evl s'.ans).toArray o1.win.1
        have e2 := queue29 s' pre2 s'.ans.length (evl s'.ans).toArray o1.win.1
        have de : (e != e) = false := bne_self_eq_false _
        have df : ((s'.state : Int) != s'.state) = false := bne_self_eq_false _
        have dg : ((s'.out.length : Int) != s'.out.length) = false := bne_self_eq_false _
        have dh : ((s'.queue.length : Int) != s'.queue.length) = false := bne_self_eq_false _
        unfold lv at c5
        refine Wp.seq (Wp.seq (Wp.text (kp 63 (vI i) (kp 64 (.iface 61 (Value.iface (List.length l2) (Value.iface x2 (Value.agg (List.toArray (eics l2)))))) (kp 65 (vI (List.length l2)) (kp 66 vT (kp 67 vT (kp 68 (vI i) (kp 69 vT (kp 70 vT (WpOps.nil (thenK_at (on' (Wp.skip (thenK_at (Wp.seq (Wp.block (Wp.seq (Wp.text (kp 74 (vP 3 0) (kp 75 (.iface 61 (Value.iface (List.length l2) (Value.iface x2 (Value.agg (List.toArray (eics l2)))))) (kp 76 (vI i) (kp 77 (.iface 61 (Value.iface (Int.toNat (↑i : Int) * 6) (Value.agg (List.toArray (eics l2))))) (kp 78 (.agg #[vI w, vI k, vI a, vI b, vI c, Value.string d]) (cl 79 22 [vP 3 0, Value.agg #[vI w, vI k, vI a, vI b, vI c, Value.string d]] ?_) (hop := fun _ => o_loadIA (Int.toNat (↑i : Int) * 6) g2)) (hop := fun _ => o_indexI (e := 61) (size := 6) (a := (↑i : Int)) g1))))))))))))))) (hop := fun _ => by_fact d2)))) (hop := fun _ => by_fact d1)))))))
        refine WpCall.onAt 3 4 5 c2 (by decide) (by kernel_rfl) (by kernel_rfl) (by kernel_rfl) ?_
        unfold behindAt onV
        refine kp 73 (.tuple #[FS 61 (List.length (St.ans s')) 3 (List.toArray (evl (St.ans s'))), vI e]) (kp 80 (lv (St.ans s')) (kp 81 (vI e) (kp 13 (lv (St.ans s')) (kp 14 (vI e) (WpOps.nil (thenK_at (Wp.seq (Wp.text (kp 83 (vP 0 0) (kp 84 (.iface 61 (Value.iface (List.length l2) (Value.iface x2 (Value.agg (List.toArray (eics l2)))))) (kp 85 (vI i) (kp 86 (.iface 61 (Value.iface (Int.toNat (↑i : Int) * 6) (Value.agg (List.toArray (eics l2))))) (kp 87 (.agg #[vI w, vI k, vI a, vI b, vI c, Value.string d]) (cl 88 22 [vP 0 0, Value.agg #[vI w, vI k, vI a, vI b, vI c, Value.string d]] ?_) (hop := fun _ => o_loadIA (Int.toNat (↑i : Int) * 6) g2)) (hop := fun _ => o_indexI (e := 61) (size := 6) (a := (↑i : Int)) g1)))))))))))))
        refine WpCall.onAt 0 1 2 c3 (by decide) (by kernel_rfl) (by kernel_rfl) (by kernel_rfl) ?_
        unfold behindAt onV
        clear c2 c3
        refine kp 82 (.tuple #[FS 61 (List.length (St.ans s')) 3 (List.toArray (evl (St.ans s'))), vI e]) (kp 89 (lv (St.ans s')) (kp 90 (vI e) (kp 15 (lv (St.ans s')) (kp 16 (vI e) (WpOps.nil (thenK_at (Wp.seq (Wp.text (kp 91 (vI e) (kp 92 (vI e) (kp 93 vF (kp 94 vF (kp 95 (lv (St.ans s')) (kp 96 (lv (St.ans s')) (cl 97 24 [Value.iface 61 (Value.iface (List.length (St.ans s')) (Value.iface 3 (Value.agg (List.toArray (evl (St.ans s')))))), Value.iface 61 (Value.iface (List.length (St.ans s')) (Value.iface 3 (Value.agg (List.toArray (evl (St.ans s'))))))] ?_)))) (hop := fun _ => by_fact de))))))))))))
        refine WpCall.consume [0, 1, 2, 3, 4, 5, 6, 7, 8, 9, 10, 11, 12] (c5) (by kernel_rfl) (by kernel_rfl) ?_
        refine kp 98 vF (kp 99 vF (kp 100 vF (kp 101 (vP 3 0) (cl 102 28 [vP 3 0] ?_))))
        refine WpCall.gAt 3 9 10 a1 (by decide) (by kernel_rfl) (by kernel_rfl) (by kernel_rfl) rfl ?_
        refine kp 103 (vP 0 0) (cl 104 28 [vP 0 0] ?_)
        refine WpCall.gAt 0 11 12 a2 (by decide) (by kernel_rfl) (by kernel_rfl) (by kernel_rfl) rfl ?_
        refine kp 105 vF (kp 106 vF (kp 107 vF (kp 108 (vP 3 0) (cl 109 20 [vP 3 0] ?_)))) (hop := fun _ => by_fact df)
        refine WpCall.gAt 3 9 10 b1 (by decide) (by kernel_rfl) (by kernel_rfl) (by kernel_rfl) rfl ?_
        refine kp 110 (vP 0 0) (cl 111 20 [vP 0 0] ?_)
        refine WpCall.gAt 0 11 12 b2 (by decide) (by kernel_rfl) (by kernel_rfl) (by kernel_rfl) rfl ?_
        refine kp 112 vF (kp 113 vF (kp 114 vF (kp 115 (vP 3 0) (cl 116 29 [vP 3 0] ?_)))) (hop := fun _ => by_fact dg)
        refine WpCall.gAt 3 9 10 e1 (by decide) (by kernel_rfl) (by kernel_rfl) (by kernel_rfl) rfl ?_
        refine kp 117 (vP 0 0) (cl 118 29 [vP 0 0] ?_)
        refine WpCall.gAt 0 11 12 e2 (by decide) (by kernel_rfl) (by kernel_rfl) (by kernel_rfl) rfl ?_
        refine kp 119 vF (kp 120 vF (WpOps.nil (thenK_at (off' (Wp.skip (blockK_norm (thenK_at (Wp.text (kp 71 (vI i) (kp 72 (vI (IntKind.wrap .i64 ((↑i : Int) + 1))) (kp 12 (vI (IntKind.wrap .i64 ((↑i : Int) + 1))) (WpOps.nil (thenK_at ?_))))))))))))) (hop := fun _ => by_fact dh)
        exact ⟨⟨i + 1, s', pre2, s'.ans.length, (evl s'.ans).toArray, pre1, s'.ans.length, (evl s'.ans).toArray⟩, by dsimp only; omega, ⟨⟨hc1, hc2⟩, hrun.symm⟩, view9 0 11 12 3 9 10 6 7 8 (by decide) (by kernel_rfl) (by kernel_rfl) (by kernel_rfl) (by kernel_rfl) (by kernel_rfl) (by kernel_rfl) (by kernel_rfl) (by kernel_rfl) (by kernel_rfl)  ⟨.w (.un (by kernel_rfl) rfl), .w (.un (by kernel_rfl) rfl), .w (.un (by kernel_rfl) rfl), .w (.un (by kernel_rfl) rfl), .w (.un (congrArg (Value.int .i64) w2) rfl), trivial⟩⟩
      · have hb : (bif decide ((i : Int) < (l2.length : Int)) then decide ((i : Int) < 200) else false) = false := by
          by_cases h1 : i < l2.length
          · rw [show decide ((i : Int) < 200) = false from decide_eq_false (by omega)]
            cases decide ((i : Int) < (l2.length : Int)) <;> rfl
          · rw [show decide ((i : Int) < (l2.length : Int)) = false from decide_eq_false (by omega)]
            rfl
        have him : i = min l2.length 200 := by omega
        refine Wp.seq (Wp.seq (Wp.text (kp 63 (vI i) (kp 64 (.iface 61 (Value.iface (List.length l2) (Value.iface x2 (Value.agg (List.toArray (eics l2)))))) (kp 65 (vI (List.length l2)) (kp 66 (.bool (decide ((↑i : Int) < (↑(List.length l2) : Int)))) (kp 67 (.bool (decide ((↑i : Int) < (↑(List.length l2) : Int)))) ?_)))))))
        refine WpOps.fork 3 (decide ((↑i : Int) < (↑(List.length l2) : Int))) [68, 69, 70] 70 (decide ((↑i : Int) < 200)) (false) (by kernel_rfl) (fun g70 => ?_) (fun g70 => ?_) (fun f_70 b70 hb70 => ?_)
        · refine kp 68 (vI i) (kp 69 (.bool (decide ((↑i : Int) < 200))) (kp 70 (.bool (decide ((↑i : Int) < 200))) (WpOps.nil ?_) (hop := fun _ => o_pickT g70)) (hw := wants_tt g70)) (hw := wants_tt g70)
          exact ⟨rfl, (.upd rfl (.upd rfl (.upd rfl .refl))), (by kernel_rfl)⟩
        · refine um 68 (um 69 (kp 70 vF (WpOps.nil ?_) (hop := fun _ => o_pickF g70)) (hw := wants_ft g70)) (hw := wants_ft g70)
          exact ⟨rfl, (.upd rfl (.upd rfl (.upd rfl .refl))), (by kernel_rfl)⟩
        refine WpOps.nil (thenK_at ?_)
        obtain rfl : b70 = false := by rw [hb70]; exact hb
        refine off' (Wp.exit (thenK_exit (thenK_exit (blockK_hit (thenK_at (Wp.seq (Wp.seq (Wp.text (kp 17 (vI 0) (WpOps.nil (thenK_at (Wp.block ?_))))))))))))
        refine Wp.loop (G := G8) (fun g => layj [(2, FS 61 l2.length x2 (eics l2).toArray), (7, .pointer (some ⟨0, 0, none⟩)), (11, .pointer (some ⟨3, 0, none⟩)), (17, .int .i64 g.i)])
          (fun g => heapO [some (oB t pS.length 1 2 nS cS), some (qB (pS ++ t.queue)), some (qB t.out), some (oB g.s g.pre.length 4 5 g.nA g.cA), some (qB (g.pre ++ g.s.queue)), some (qB g.s.out)]) (fun g => l2.length - g.i) (fun g => (g.i ≤ l2.length ∧ g.i ≤ 200) ∧ g.s = s.run (l2.take g.i))
          ⟨0, s, [], 0, #[]⟩ ?_ ⟨⟨Nat.zero_le _, Nat.zero_le _⟩, rfl⟩ ?_
        · exact view6 0 1 2 6 7 8 (by decide) (by kernel_rfl) (by kernel_rfl) (by kernel_rfl) (by kernel_rfl) (by kernel_rfl) (by kernel_rfl)  ⟨.w (.un (by kernel_rfl) rfl), .w (.un (by kernel_rfl) rfl), .w (.un (by kernel_rfl) rfl), .w (.un (by kernel_rfl) rfl), trivial⟩
        rintro ⟨j, r, pD, nD, cD⟩ ⟨⟨hj, hj2⟩, hr⟩
        dsimp only at hj hj2 hr ⊢
        have hokr : r.Ok := by rw [hr]; exact St.run_ok hok _
        by_cases hc : j < l2.length ∧ j < 200
        · obtain ⟨hc1, hc2⟩ := hc
          have d1 : decide ((j : Int) < (l2.length : Int)) = true := decide_eq_true (by omega)
          have d2 : decide ((j : Int) < 200) = true := decide_eq_true (by omega)
          have g1 : (0 : Int) ≤ (j : Int) ∧ (j : Int) < (l2.length : Int) := by omega
          have g2 := eics_get hc1
          have hrun := St.run_succ (s := s) hc1
          rw [← hr] at hrun
          generalize l2[j] = ev at g2 hrun
          obtain ⟨w, k, a, b, c, d, z⟩ := ev
          unfold eic at g2
          dsimp only at g2 hrun
          have w2 : IntKind.i64.wrap ((j : Int) + 1) = ((j + 1 : Nat) : Int) := by rw [wr _ (by omega) (by omega)]; omega
          obtain ⟨pre1, c2⟩ := on22 r pD nD cD w k a b c d z hokr
          generalize (r.ons false w k d).1 = e at *
          generalize (r.ons false w k d).2 = s' at *
          refine Wp.seq (Wp.seq (Wp.text (kp 121 (vI j) (kp 122 (.iface 61 (Value.iface (List.length l2) (Value.iface x2 (Value.agg (List.toArray (eics l2)))))) (kp 123 (vI (List.length l2)) (kp 124 vT (kp 125 vT (kp 126 (vI j) (kp 127 vT (kp 128 vT (WpOps.nil (thenK_at (on' (Wp.skip (thenK_at (Wp.seq (Wp.block (Wp.text (kp 131 (vP 3 0) (kp 132 (.iface 61 (Value.iface (List.length l2) (Value.iface x2 (Value.agg (List.toArray (eics l2)))))) (kp 133 (vI j) (kp 134 (.iface 61 (Value.iface (Int.toNat (↑j : Int) * 6) (Value.agg (List.toArray (eics l2))))) (kp 135 (.agg #[vI w, vI k, vI a, vI b, vI c, Value.string d]) (cl 136 22 [vP 3 0, Value.agg #[vI w, vI k, vI a, vI b, vI c, Value.string d]] ?_) (hop := fun _ => o_loadIA (Int.toNat (↑j : Int) * 6) g2)) (hop := fun _ => o_indexI (e := 61) (size := 6) (a := (↑j : Int)) g1)))))))))))))) (hop := fun _ => by_fact d2)))) (hop := fun _ => by_fact d1)))))))
          refine WpCall.onAt 3 4 5 c2 (by decide) (by kernel_rfl) (by kernel_rfl) (by kernel_rfl) ?_
          unfold behindAt onV
          clear c2
          refine WpOps.nil (blockK_norm (thenK_at (Wp.text (kp 129 (vI j) (kp 130 (vI (IntKind.wrap .i64 ((↑j : Int) + 1))) (kp 17 (vI (IntKind.wrap .i64 ((↑j : Int) + 1))) (WpOps.nil (thenK_at ?_))))))))
          exact ⟨⟨j + 1, s', pre1, s'.ans.length, (evl s'.ans).toArray⟩, by dsimp only; omega, ⟨⟨hc1, hc2⟩, hrun.symm⟩, view6 0 1 2 3 6 7 (by decide) (by kernel_rfl) (by kernel_rfl) (by kernel_rfl) (by kernel_rfl) (by kernel_rfl) (by kernel_rfl)  ⟨.w (.un (by kernel_rfl) rfl), .w (.un (by kernel_rfl) rfl), .w (.un (by kernel_rfl) rfl), .w (.un (congrArg (Value.int .i64) w2) rfl), trivial⟩⟩
        · have hb : (bif decide ((j : Int) < (l2.length : Int)) then decide ((j : Int) < 200) else false) = false := by
            by_cases h1 : j < l2.length
            · rw [show decide ((j : Int) < 200) = false from decide_eq_false (by omega)]
              cases decide ((j : Int) < (l2.length : Int)) <;> rfl
            · rw [show decide ((j : Int) < (l2.length : Int)) = false from decide_eq_false (by omega)]
              rfl
          obtain rfl : j = i := by omega
          obtain rfl : r = t := by rw [hr, ht]
          have a1 := state28 r pD nD cD hokr.win.1
          have a2 := state28 r pS nS cS hokr.win.1
          have b1 := out20 r pD nD cD hokr.win.1
          have b2 := out20 r pS nS cS hokr.win.1
          have e1 := generation30 r pD nD cD hokr.win.1
          have e2 := generation30 r pS nS cS hokr.win.1
          have df : ((r.state : Int) == r.state) = true := beq_self_eq_true _
          have dg : ((r.out.length : Int) == r.out.length) = true := beq_self_eq_true _
          have dh : ((r.gen : Int) == r.gen) = true := beq_self_eq_true _
          refine Wp.seq (Wp.seq (Wp.text (kp 121 (vI j) (kp 122 (.iface 61 (Value.iface (List.length l2) (Value.iface x2 (Value.agg (List.toArray (eics l2)))))) (kp 123 (vI (List.length l2)) (kp 124 (.bool (decide ((↑j : Int) < (↑(List.length l2) : Int)))) (kp 125 (.bool (decide ((↑j : Int) < (↑(List.length l2) : Int)))) ?_)))))))
          refine WpOps.fork 3 (decide ((↑j : Int) < (↑(List.length l2) : Int))) [126, 127, 128] 128 (decide ((↑j : Int) < 200)) (false) (by kernel_rfl) (fun g128 => ?_) (fun g128 => ?_) (fun f_128 b128 hb128 => ?_)
          · refine kp 126 (vI j) (kp 127 (.bool (decide ((↑j : Int) < 200))) (kp 128 (.bool (decide ((↑j : Int) < 200))) (WpOps.nil ?_) (hop := fun _ => o_pickT g128)) (hw := wants_tt g128)) (hw := wants_tt g128)
            exact ⟨rfl, (.upd rfl (.upd rfl (.upd rfl .refl))), (by kernel_rfl)⟩
          · refine um 126 (um 127 (kp 128 vF (WpOps.nil ?_) (hop := fun _ => o_pickF g128)) (hw := wants_ft g128)) (hw := wants_ft g128)
            exact ⟨rfl, (.upd rfl (.upd rfl (.upd rfl .refl))), (by kernel_rfl)⟩
          refine WpOps.nil (thenK_at ?_)
          obtain rfl : b128 = false := by rw [hb128]; exact hb
          refine off' (Wp.exit (thenK_exit (thenK_exit (blockK_hit (thenK_at (Wp.seq (Wp.text (kp 137 (vP 3 0) (cl 138 28 [vP 3 0] ?_)))))))))
          refine WpCall.gAt 3 4 5 a1 (by decide) (by kernel_rfl) (by kernel_rfl) (by kernel_rfl) rfl ?_
          refine kp 139 (vP 0 0) (cl 140 28 [vP 0 0] ?_)
          refine WpCall.gAt 0 1 2 a2 (by decide) (by kernel_rfl) (by kernel_rfl) (by kernel_rfl) rfl ?_
          refine kp 141 vT (kp 142 vT (kp 143 (vP 3 0) (cl 144 20 [vP 3 0] ?_))) (hop := fun _ => by_fact df)
          refine WpCall.gAt 3 4 5 b1 (by decide) (by kernel_rfl) (by kernel_rfl) (by kernel_rfl) rfl ?_
          refine kp 145 (vP 0 0) (cl 146 20 [vP 0 0] ?_)
          refine WpCall.gAt 0 1 2 b2 (by decide) (by kernel_rfl) (by kernel_rfl) (by kernel_rfl) rfl ?_
          refine kp 147 vT (kp 148 vT (kp 149 vT (kp 150 (vP 3 0) (cl 151 30 [vP 3 0] ?_)))) (hop := fun _ => by_fact dg)
          refine WpCall.gAt 3 4 5 e1 (by decide) (by kernel_rfl) (by kernel_rfl) (by kernel_rfl) rfl ?_
          refine kp 152 (vP 0 0) (cl 153 30 [vP 0 0] ?_)
          refine WpCall.gAt 0 1 2 e2 (by decide) (by kernel_rfl) (by kernel_rfl) (by kernel_rfl) rfl ?_
          refine kp 154 vT (kp 155 vT (kp 156 vT (fr 157 12 [] (WpFun.of (c12) (kp 158 vT (kp 6 vT (WpOps.nil (thenK_at (Wp.ret (endK_retn [vT] vT (by kernel_rfl) (by kernel_rfl) ?_)))))))))) (hop := fun _ => by_fact dh)
          rfl
end Go.Proofs.Ytgefohjickhldaa.D
