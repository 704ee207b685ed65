/- A station meets an event. -/
import Derived.Test.YtgefohjickhldaaFwLem
import Derived.Test.YtgefohjickhldaaFwTold
import Derived.Test.YtgefohjickhldaaM10i
import Derived.Test.YtgefohjickhldaaT10p
namespace Go.Proofs.Ytgefohjickhldaa.D
open Go.Fw Go.RowKit

def onOut (s : St) (pre : List ByteArray) : List (Option Blk) := [some (oB s pre.length 3 4 s.ans.length (evl s.ans).toArray), none, none, some (qB (pre ++ s.queue)), some (qB s.out)]
def onV (e : Int) (s : St) : Value := .tuple #[FS 61 s.ans.length 3 (evl s.ans).toArray, .int .i64 e]
theorem ToOn {f : FuncId} {fn : Func} {c : Code} {args : List Value} {s s' : St} {pre pre' : List ByteArray} {nA : Nat} {cA : Array Value} {v : Value} (hf : E.funcs f = some fn) (hb : fn.body = some c) (hl : args.length + 1 ≤ fn.ntmps) (ha : args.all (okV 3) = true) (hv : okT 5 v = true)
    (hw : Wp 3 E fn.ntmps c (slots0 (.pointer (some ⟨0, 0, none⟩) :: args)) (heapOf (onIn s pre nA cA)) (endK E fn (LentO E 3 v (onOut s' pre')))) : LentP E f (.pointer (some ⟨0, 0, none⟩) :: args) (onIn s pre nA cA) v (onOut s' pre') := by
  refine ⟨?_, rfl, rfl, (by decide : (3 : Nat) ≤ 5), ?_, ?_, hv⟩
  · have := SCall.enterO (E := E) (bs := (onIn s pre nA cA).map some) (bs' := onOut s' pre') (args := .pointer (some ⟨0, 0, none⟩) :: args) (v := v) hf hb hl rfl rfl (by decide : (3 : Nat) ≤ 5) (by rw [← heapO_of]; exact hw)
    rw [← heapO_of] at this
    exact this
  · show (okV 3 (.pointer (some ⟨0, 0, none⟩)) && args.all (okV 3)) = true
    rw [ha]
    rfl
  · intro x hx
    simp only [onOut, List.mem_cons, List.not_mem_nil, or_false, Option.some.injEq, reduceCtorEq, false_or] at hx
    rcases hx with rfl | rfl | rfl
    · exact ok_oB _ _ _ _ _ _ (by decide : 3 < 5) (by decide : 4 < 5)
    · exact ok_qB _
    · exact ok_qB _
theorem frozen {h : Heap} {rl : List Nat} {a n c : Nat} {l : List Evt} (ha : rl.contains a = false) (hA : h.get a = some (aB l)) (hn : n = l.length) : iceC E (h.less rl) 4 (.slice (some ⟨a, 0, none⟩) n c) = some (FS 61 l.length (if c = 0 then 3 else 0) (evl l).toArray) := by
  subst hn
  refine iceC_row (E := E) (hp := h.less rl) (b := a) (n := l.length) (c := c) (e := 61) (size := 6) (cells := evl l) 3 (by kernel_rfl) ?_ (evl_len l).symm (evl_flat l)
  show (if rl.contains a = true then none else h.get a) = _
  rw [ha]
  exact hA

theorem ty61 : ∃ ti, E.types (61 : Nat) = some ti := by
  have hi : (E.types (61 : Nat)).map TI.size = some 6 := by kernel_rfl
  obtain ⟨ti, ht, _⟩ := Option.map_eq_some_iff.1 hi
  exact ⟨ti, ht⟩
/-- What is answered: a row of one's own, or nil. -/
inductive AnsE (h : Heap) (a : Nat) (l : List Evt) (w : Value) : Prop
  | own : w = .slice (some ⟨a, 0, none⟩) l.length l.length → h.get a = some (aB l) → AnsE h a l w
  | nil : w = .slice none 0 0 → l = [] → AnsE h a l w
theorem AnsE.ice {h : Heap} {a : Nat} {l : List Evt} {w : Value} (r : AnsE h a l w) {rl : List Nat} (ha : rl.contains a = false) : ∃ u, iceC E (h.less rl) 4 w = some u ∧ NilC E u (FS 61 l.length 3 (evl l).toArray) := by
  cases r with
  | own h1 h2 =>
    subst h1
    exact ⟨_, frozen (c := l.length) ha h2 rfl, NilC.row⟩
  | nil h1 h2 =>
    subst h1 h2
    obtain ⟨ti, ht⟩ := ty61
    exact ⟨.slice none 0 0, rfl, NilC.nil3 (e := (61 : Nat)) ht⟩
theorem AnsE.iceW {h : Heap} {a : Nat} {l : List Evt} {w : Value} (r : AnsE h a l w) {rl : List Nat} (ha : rl.contains a = false) : ∃ u, iceW E (h.less rl) w = some u ∧ NilC E u (FS 61 l.length 3 (evl l).toArray) := by
  obtain ⟨u, h1, h2⟩ := r.ice ha
  refine ⟨u, ?_, h2⟩
  cases r with
  | own e _ => subst e; exact h1
  | nil e _ => subst e; exact h1
theorem endO {h : Heap} {v1 w : Value} {s' : St} {pre' : List ByteArray} {e : Int} (q o a : Nat) {cells : List Value} {vq vo va : Value} (h0 : h.get 0 = some ⟨73, true, cells⟩) (hc : cells = stC s' vq vo va) (hd : [0, q, o].Nodup) (ha : [0, 1, 2, q, o].contains a = false) (rq' : RowE h 9 vq q pre'.length s'.queue.length (ss (pre' ++ s'.queue))) (ro' : RowE h 9 vo o 0 s'.out.length (ss s'.out)) (hA : AnsE h a s'.ans va)
    (hv : v1 = .tuple #[w, .int .i64 e]) (hw : AnsE h a s'.ans w) : LentO E 3 (onV e s') (onOut s' pre') v1 h := by
  subst hc hv
  obtain ⟨u1, z1, z2⟩ := hA.ice ha
  obtain ⟨u2, z3, z4⟩ := hw.iceW ha
  refine ⟨[0, 1, 2, q, o], hd, rfl, ⟨OneO.cells _ h0 ?_, rq'.one (ss_flat _), ro'.one (ss_flat _), trivial⟩, ?_⟩
  · have nn : ∀ n : Int, TC E (h.less [0, 1, 2, q, o]) [0, 1, 2, q, o] 5 (.int .i64 n) (.int .i64 n) := fun n => .un rfl rfl
    have bb : ∀ n : Bool, TC E (h.less [0, 1, 2, q, o]) [0, 1, 2, q, o] 5 (.bool n) (.bool n) := fun n => .un rfl rfl
    exact .cons (nn _) (.cons (nn _) (.cons (nn _) (.cons (nn _) (.cons (bb _) (.cons (nn _) (.cons (nn _) (.cons (nn _) (.cons (nn _) (.cons (nn _) (.cons (nn _) (.cons (bb _) (.cons (bb _) (.cons (rq'.cell (b := 3) (by decide : 3 < 5) rfl) (.cons (ro'.cell (b := 4) (by decide : 4 < 5) rfl) (.cons (.ice u1 z1 z2) .nil)))))))))))))))
  · exact .tuple _ _ rfl rfl (.cons (.ice u2 z3 (.c z4)) (.cons (.un rfl rfl) .nil))
theorem flo_of {s : St} {m : Nat} (h : s.Ok) (hn : s.ans.length ≤ m) : Flo s (m + 20) := ⟨h.sent, h.wanted, h.win.2, h.out, h.queue, by have := h.queue; omega⟩
theorem g22 : E.funcs 22 = some Try.f22 := by kernel_rfl
theorem on22a (s : St) (pre : List ByteArray) (nA : Nat) (cA : Array Value) (w k a b c : Int) (d : ByteArray) (hd : d.size ≤ 140737488351232) (hok : s.Ok) (ha : s.ans = []) : ∃ pre', LentP E 22 [.pointer (some ⟨0, 0, none⟩), evv w k a b c d] (onIn s pre nA cA) (onV (s.ons false w k d).1 (s.ons false w k d).2) (onOut (s.ons false w k d).2 pre') := by
  have c0 := none42o s pre nA cA hok.win.1
  have hf1 : (⟨9, true, ss (pre ++ s.queue)⟩ : Blk).cells.all flat = true := ss_flat _
  have hf2 : (⟨9, true, ss s.out⟩ : Blk).cells.all flat = true := ss_flat _
  have oo := hok.out
  have ow := hok.win
  have ea : ({ s with ans := [] } : St) = s := by rw [← ha]
  have hl0 : s.ans.length = 0 := by rw [ha]; rfl
  unfold St.ons
  rw [ea]
  by_cases hw0 : w = 0
  · subst hw0
    rw [if_pos rfl]
    obtain ⟨pre1, c1⟩ := user44 s pre 0 k a b c d hd (by omega) hok
    have o1 := hok.usr k d
    have n1 := St.usr_n (s := s) k d
    have ze : (St.usr k d s).1 ≠ 0 → (St.usr k d s).2.ans = [] := fun h => by rw [St.usr_err k d h, ha]
    generalize St.usr k d s = r at *
    obtain ⟨e1, s1⟩ := r
    dsimp only at c1 o1 n1 ze ⊢
    by_cases he : e1 = 0
    · subst he
      rw [if_pos rfl]
      have c2 := flow47 s1 pre1 21 (by decide) (flo_of o1 (by omega))
      refine ⟨St.floP s1.queue.length s1 pre1, ToOn g22 rfl (of_decide_eq_true (by kernel_rfl)) rfl rfl ?_⟩
      unfold onIn oB stC rowQ rowO at c0 ⊢
      unfold qB at c0 ⊢
      unfold evv
      refine Wp.seq (Wp.text (md 3 (vP 3 0) (Blk.mk 61 true [vI 0, vI k, vI a, vI b, vI c, Value.string d]) (kp 4 vN (kp 5 (vI 0) (WpOps.nil (thenK_at (Wp.seq (Wp.seq (Wp.text (kp 7 (vP 0 0) (cl 8 42 [vP 0 0] (WpCall.gS (s := s) (pre := pre) (nA := nA) (cA := cA) c0 (by kernel_rfl) (by kernel_rfl) (by kernel_rfl) (by kernel_rfl) (WpOps.nil (thenK_at (off' (Wp.skip (thenK_at (Wp.seq (Wp.text (kp 9 (vP 0 0) (kp 10 (vP 0 0) (kp 11 (vP 0 15) (ld (.tuple #[]) (0) (Blk.mk 73 true [vI (St.left s), vI (St.wait s), vI (St.tried s), vI (St.tries s), Value.bool (St.first s), vI (St.win s), vI (St.state s), vI (St.gen s), vI (St.sent s), vI (St.acked s), vI (St.wanted s), Value.bool (St.rej s), Value.bool (St.ren s), Value.slice (some (Addr.mk 1 (List.length pre) none)) (List.length (St.queue s)) (List.length (St.queue s)), Value.slice (some ⟨2, 0, none⟩) (List.length (St.out s)) (List.length (St.out s)), vN]) (WpOps.nil (thenK_at (Wp.seq (Wp.text (kp 6 (vI 0) (WpOps.nil (thenK_at (Wp.seq (Wp.block (Wp.seq (Wp.text (kp 13 (vP 3 0) (kp 14 (vI 0) (kp 15 vT (kp 12 vT ?_))))))))))))))))))))))))))))))))))))))
      refine WpOps.nil (thenK_at (on' (Wp.text (kp 16 (vP 0 0) (kp 17 (.agg #[vI 0, vI k, vI a, vI b, vI c, Value.string d]) (cl 18 44 [vP 0 0, Value.agg #[vI 0, vI k, vI a, vI b, vI c, Value.string d]] ?_))))))
      refine WpCall.told [0, 1, 2, 3, 4] [some (sB s pre.length 1 2 4), some (qB (pre ++ s.queue)), some (qB s.out), none, some (aB s.ans)] (of_decide_eq_true (by kernel_rfl)) (by kernel_rfl) (by kernel_rfl) rfl (show [0, 1, 2, 4].Nodup by decide) ⟨OneO.cells _ (by kernel_rfl) (objT rfl (.un rfl rfl) (.un rfl rfl) (.bare 4 0 rfl (by unfold rowA; rw [ha]; rfl) (by show 4 < 5; decide))), OneO.flat _ (by kernel_rfl) rfl (ss_flat _), OneO.flat _ (by kernel_rfl) rfl (ss_flat _), by rw [ha]; exact OneO.ph (of_decide_eq_true (by kernel_rfl)), trivial⟩ ?_
      refine WpCall.st 0 1 2 4 c1 (by decide) (by kernel_rfl) rfl (by kernel_rfl) (by kernel_rfl) (by kernel_rfl) rfl (fun _ => rfl) ?_
      unfold behind sB stC rowQ rowO rowA qB aB
      refine kp 6 (vI 0) (WpOps.nil (blockK_norm (thenK_at (Wp.seq (Wp.seq (Wp.text (kp 43 (vI 0) (kp 44 vF (WpOps.nil (thenK_at (off' (Wp.skip (thenK_at (Wp.seq (Wp.text (kp 46 (vP 0 0) (cl 47 47 [vP 0 0] ?_)))))))))))))))))
      refine WpCall.st 0 5 6 7 c2 (by decide) (by kernel_rfl) rfl (by kernel_rfl) (by kernel_rfl) (by kernel_rfl) rfl (fun _ => rfl) ?_
      unfold behind sB stC rowQ rowO rowA qB aB
      refine WpOps.nil (thenK_at (Wp.seq (Wp.text (kp 48 (vP 0 0) (kp 49 (vP 0 0) (kp 50 (vP 0 15) (kp 51 (.slice (some ⟨10, 0, none⟩) (List.length (St.ans (St.flo s1))) (List.length (St.ans (St.flo s1)))) (kp 4 (.slice (some ⟨10, 0, none⟩) (List.length (St.ans (St.flo s1))) (List.length (St.ans (St.flo s1)))) (kp 5 (vI 0) (WpOps.nil (thenK_at (Wp.ret (endK_retn [Value.slice (some (Addr.mk 10 0 none)) (List.length (St.ans (St.flo s1))) (List.length (St.ans (St.flo s1))), vI 0] (Value.tuple #[Value.slice (some (Addr.mk 10 0 none)) (List.length (St.ans (St.flo s1))) (List.length (St.ans (St.flo s1))), vI 0]) (by kernel_rfl) (by kernel_rfl) ?_)))))))))))))
      exact endO 8 9 10 (by kernel_rfl) rfl (by decide) (by decide) (.is rfl (by kernel_rfl) rfl rfl) (.is rfl (by kernel_rfl) rfl rfl) (.own rfl (by kernel_rfl)) rfl (.own rfl (by kernel_rfl))
    · rw [if_neg he]
      have d1 : (e1 != 0) = true := bne_iff_ne.2 he
      refine ⟨pre1, ToOn g22 rfl (of_decide_eq_true (by kernel_rfl)) rfl rfl ?_⟩
      unfold onIn oB stC rowQ rowO at c0 ⊢
      unfold qB at c0 ⊢
      unfold evv
      refine Wp.seq (Wp.text (md 3 (vP 3 0) (Blk.mk 61 true [vI 0, vI k, vI a, vI b, vI c, Value.string d]) (kp 4 vN (kp 5 (vI 0) (WpOps.nil (thenK_at (Wp.seq (Wp.seq (Wp.text (kp 7 (vP 0 0) (cl 8 42 [vP 0 0] (WpCall.gS (s := s) (pre := pre) (nA := nA) (cA := cA) c0 (by kernel_rfl) (by kernel_rfl) (by kernel_rfl) (by kernel_rfl) (WpOps.nil (thenK_at (off' (Wp.skip (thenK_at (Wp.seq (Wp.text (kp 9 (vP 0 0) (kp 10 (vP 0 0) (kp 11 (vP 0 15) (ld (.tuple #[]) (0) (Blk.mk 73 true [vI (St.left s), vI (St.wait s), vI (St.tried s), vI (St.tries s), Value.bool (St.first s), vI (St.win s), vI (St.state s), vI (St.gen s), vI (St.sent s), vI (St.acked s), vI (St.wanted s), Value.bool (St.rej s), Value.bool (St.ren s), Value.slice (some (Addr.mk 1 (List.length pre) none)) (List.length (St.queue s)) (List.length (St.queue s)), Value.slice (some ⟨2, 0, none⟩) (List.length (St.out s)) (List.length (St.out s)), vN]) (WpOps.nil (thenK_at (Wp.seq (Wp.text (kp 6 (vI 0) (WpOps.nil (thenK_at (Wp.seq (Wp.block (Wp.seq (Wp.text (kp 13 (vP 3 0) (kp 14 (vI 0) (kp 15 vT (kp 12 vT ?_))))))))))))))))))))))))))))))))))))))
      refine WpOps.nil (thenK_at (on' (Wp.text (kp 16 (vP 0 0) (kp 17 (.agg #[vI 0, vI k, vI a, vI b, vI c, Value.string d]) (cl 18 44 [vP 0 0, Value.agg #[vI 0, vI k, vI a, vI b, vI c, Value.string d]] ?_))))))
      refine WpCall.told [0, 1, 2, 3, 4] [some (sB s pre.length 1 2 4), some (qB (pre ++ s.queue)), some (qB s.out), none, some (aB s.ans)] (of_decide_eq_true (by kernel_rfl)) (by kernel_rfl) (by kernel_rfl) rfl (show [0, 1, 2, 4].Nodup by decide) ⟨OneO.cells _ (by kernel_rfl) (objT rfl (.un rfl rfl) (.un rfl rfl) (.bare 4 0 rfl (by unfold rowA; rw [ha]; rfl) (by show 4 < 5; decide))), OneO.flat _ (by kernel_rfl) rfl (ss_flat _), OneO.flat _ (by kernel_rfl) rfl (ss_flat _), by rw [ha]; exact OneO.ph (of_decide_eq_true (by kernel_rfl)), trivial⟩ ?_
      refine WpCall.st 0 1 2 4 c1 (by decide) (by kernel_rfl) rfl (by kernel_rfl) (by kernel_rfl) (by kernel_rfl) rfl (fun _ => rfl) ?_
      unfold behind sB stC rowQ rowO rowA qB aB
      refine kp 6 (vI e1) (WpOps.nil (blockK_norm (thenK_at (Wp.seq (Wp.seq (Wp.text (kp 43 (vI e1) (kp 44 vT (WpOps.nil (thenK_at (on' (Wp.seq (Wp.text (kp 45 (vI e1) (kp 4 vN (kp 5 (vI e1) (WpOps.nil (thenK_at (Wp.ret (thenK_ret (endK_retn [vN, vI e1] (Value.tuple #[vN, vI e1]) (by kernel_rfl) (by kernel_rfl) ?_))))))))))))) (hop := fun _ => by_fact d1)))))))))
      exact endO 5 6 7 (by kernel_rfl) rfl (by decide) (by decide) (.is rfl (by kernel_rfl) rfl rfl) (.is rfl (by kernel_rfl) rfl rfl) (.own rfl (by kernel_rfl)) rfl (.nil rfl (ze he))
  rw [if_neg hw0]
  have dw0 : (w == 0) = false := beq_false_of_ne hw0
  by_cases hk : w = 1 ∧ k = 0
  · rw [if_pos hk]
    obtain ⟨rfl, rfl⟩ := hk
    obtain ⟨pre1, c1⟩ := frame45 s pre d (by omega) hok
    have o1 := hok.frmB false d
    have n1 := St.frmB_n (s := s) false d
    generalize s.frmB false d = s1 at *
    have c2 := flow47 s1 pre1 29 (by decide) (flo_of o1 (by omega))
    refine ⟨St.floP s1.queue.length s1 pre1, ToOn g22 rfl (of_decide_eq_true (by kernel_rfl)) rfl rfl ?_⟩
    unfold onIn oB stC rowQ rowO at c0 ⊢
    unfold qB at c0 ⊢
    unfold evv
    refine Wp.seq (Wp.text (md 3 (vP 3 0) (Blk.mk 61 true [vI 1, vI 0, vI a, vI b, vI c, Value.string d]) (kp 4 vN (kp 5 (vI 0) (WpOps.nil (thenK_at (Wp.seq (Wp.seq (Wp.text (kp 7 (vP 0 0) (cl 8 42 [vP 0 0] (WpCall.gS (s := s) (pre := pre) (nA := nA) (cA := cA) c0 (by kernel_rfl) (by kernel_rfl) (by kernel_rfl) (by kernel_rfl) (WpOps.nil (thenK_at (off' (Wp.skip (thenK_at (Wp.seq (Wp.text (kp 9 (vP 0 0) (kp 10 (vP 0 0) (kp 11 (vP 0 15) (ld (.tuple #[]) (0) (Blk.mk 73 true [vI (St.left s), vI (St.wait s), vI (St.tried s), vI (St.tries s), Value.bool (St.first s), vI (St.win s), vI (St.state s), vI (St.gen s), vI (St.sent s), vI (St.acked s), vI (St.wanted s), Value.bool (St.rej s), Value.bool (St.ren s), Value.slice (some (Addr.mk 1 (List.length pre) none)) (List.length (St.queue s)) (List.length (St.queue s)), Value.slice (some ⟨2, 0, none⟩) (List.length (St.out s)) (List.length (St.out s)), vN]) (WpOps.nil (thenK_at (Wp.seq (Wp.text (kp 6 (vI 0) (WpOps.nil (thenK_at (Wp.seq (Wp.block (Wp.seq (Wp.text (kp 13 (vP 3 0) (kp 14 (vI 1) (kp 15 vF (kp 12 vF ?_))))))))))))))))))))))))))))))))))))))
    refine WpOps.nil (thenK_at (off' (Wp.seq (Wp.text (kp 20 (vP 3 0) (kp 21 (vI 1) (kp 22 vT (kp 23 vT (kp 24 (vP 3 1) (kp 25 (vI 0) (kp 26 vT (kp 27 vT (kp 19 vT (WpOps.nil (thenK_at (on' (Wp.text (kp 28 (vP 0 0) (kp 29 (vP 3 5) (kp 30 (.string d) (cl 31 45 [vP 0 0, Value.string d] ?_)))))))))))))))))))))
    refine WpCall.told [0, 1, 2, 3, 4] [some (sB s pre.length 1 2 4), some (qB (pre ++ s.queue)), some (qB s.out), none, some (aB s.ans)] (of_decide_eq_true (by kernel_rfl)) (by kernel_rfl) (by kernel_rfl) rfl (show [0, 1, 2, 4].Nodup by decide) ⟨OneO.cells _ (by kernel_rfl) (objT rfl (.un rfl rfl) (.un rfl rfl) (.bare 4 0 rfl (by unfold rowA; rw [ha]; rfl) (by show 4 < 5; decide))), OneO.flat _ (by kernel_rfl) rfl (ss_flat _), OneO.flat _ (by kernel_rfl) rfl (ss_flat _), by rw [ha]; exact OneO.ph (of_decide_eq_true (by kernel_rfl)), trivial⟩ ?_
    refine WpCall.st 0 1 2 4 c1 (by decide) (by kernel_rfl) rfl (by kernel_rfl) (by kernel_rfl) (by kernel_rfl) rfl (fun _ => rfl) ?_
    unfold behind sB stC rowQ rowO rowA qB aB
    refine WpOps.nil (blockK_norm (thenK_at (Wp.seq (Wp.seq (Wp.text (kp 43 (vI 0) (kp 44 vF (WpOps.nil (thenK_at (off' (Wp.skip (thenK_at (Wp.seq (Wp.text (kp 46 (vP 0 0) (cl 47 47 [vP 0 0] ?_))))))))))))))))
    refine WpCall.st 0 5 6 7 c2 (by decide) (by kernel_rfl) rfl (by kernel_rfl) (by kernel_rfl) (by kernel_rfl) rfl (fun _ => rfl) ?_
    unfold behind sB stC rowQ rowO rowA qB aB
    refine WpOps.nil (thenK_at (Wp.seq (Wp.text (kp 48 (vP 0 0) (kp 49 (vP 0 0) (kp 50 (vP 0 15) (kp 51 (.slice (some ⟨10, 0, none⟩) (List.length (St.ans (St.flo s1))) (List.length (St.ans (St.flo s1)))) (kp 4 (.slice (some ⟨10, 0, none⟩) (List.length (St.ans (St.flo s1))) (List.length (St.ans (St.flo s1)))) (kp 5 (vI 0) (WpOps.nil (thenK_at (Wp.ret (endK_retn [Value.slice (some (Addr.mk 10 0 none)) (List.length (St.ans (St.flo s1))) (List.length (St.ans (St.flo s1))), vI 0] (Value.tuple #[Value.slice (some (Addr.mk 10 0 none)) (List.length (St.ans (St.flo s1))) (List.length (St.ans (St.flo s1))), vI 0]) (by kernel_rfl) (by kernel_rfl) ?_)))))))))))))
    exact endO 8 9 10 (by kernel_rfl) rfl (by decide) (by decide) (.is rfl (by kernel_rfl) rfl rfl) (.is rfl (by kernel_rfl) rfl rfl) (.own rfl (by kernel_rfl)) rfl (.own rfl (by kernel_rfl))
  rw [if_neg hk]
  by_cases hc : w = 2 ∧ k = 0
  · rw [if_pos hc]
    obtain ⟨rfl, rfl⟩ := hc
    obtain ⟨pre1, c1⟩ := tick46 s pre (by omega) hok
    have o1 := hok.tic false
    have n1 := St.tic_n (s := s) false
    generalize s.tic false = s1 at *
    have c2 := flow47 s1 pre1 29 (by decide) (flo_of o1 (by omega))
    refine ⟨St.floP s1.queue.length s1 pre1, ToOn g22 rfl (of_decide_eq_true (by kernel_rfl)) rfl rfl ?_⟩
    unfold onIn oB stC rowQ rowO at c0 ⊢
    unfold qB at c0 ⊢
    unfold evv
    refine Wp.seq (Wp.text (md 3 (vP 3 0) (Blk.mk 61 true [vI 2, vI 0, vI a, vI b, vI c, Value.string d]) (kp 4 vN (kp 5 (vI 0) (WpOps.nil (thenK_at (Wp.seq (Wp.seq (Wp.text (kp 7 (vP 0 0) (cl 8 42 [vP 0 0] (WpCall.gS (s := s) (pre := pre) (nA := nA) (cA := cA) c0 (by kernel_rfl) (by kernel_rfl) (by kernel_rfl) (by kernel_rfl) (WpOps.nil (thenK_at (off' (Wp.skip (thenK_at (Wp.seq (Wp.text (kp 9 (vP 0 0) (kp 10 (vP 0 0) (kp 11 (vP 0 15) (ld (.tuple #[]) (0) (Blk.mk 73 true [vI (St.left s), vI (St.wait s), vI (St.tried s), vI (St.tries s), Value.bool (St.first s), vI (St.win s), vI (St.state s), vI (St.gen s), vI (St.sent s), vI (St.acked s), vI (St.wanted s), Value.bool (St.rej s), Value.bool (St.ren s), Value.slice (some (Addr.mk 1 (List.length pre) none)) (List.length (St.queue s)) (List.length (St.queue s)), Value.slice (some ⟨2, 0, none⟩) (List.length (St.out s)) (List.length (St.out s)), vN]) (WpOps.nil (thenK_at (Wp.seq (Wp.text (kp 6 (vI 0) (WpOps.nil (thenK_at (Wp.seq (Wp.block (Wp.seq (Wp.text (kp 13 (vP 3 0) (kp 14 (vI 2) (kp 15 vF (kp 12 vF ?_))))))))))))))))))))))))))))))))))))))
    refine WpOps.nil (thenK_at (off' (Wp.seq (Wp.text (kp 20 (vP 3 0) (kp 21 (vI 2) (kp 22 vF (kp 23 vF (um 24 (um 25 (um 26 (kp 27 vF (kp 19 vF (WpOps.nil (thenK_at (off' (Wp.seq (Wp.text (kp 33 (vP 3 0) (kp 34 (vI 2) (kp 35 vT (kp 36 vT (kp 37 (vP 3 1) (kp 38 (vI 0) (kp 39 vT (kp 40 vT (kp 32 vT (WpOps.nil (thenK_at (on' (Wp.text (kp 41 (vP 0 0) (cl 42 46 [vP 0 0] ?_)))))))))))))))))))))))))))))))))
    refine WpCall.told [0, 1, 2, 3, 4] [some (sB s pre.length 1 2 4), some (qB (pre ++ s.queue)), some (qB s.out), none, some (aB s.ans)] (of_decide_eq_true (by kernel_rfl)) (by kernel_rfl) (by kernel_rfl) rfl (show [0, 1, 2, 4].Nodup by decide) ⟨OneO.cells _ (by kernel_rfl) (objT rfl (.un rfl rfl) (.un rfl rfl) (.bare 4 0 rfl (by unfold rowA; rw [ha]; rfl) (by show 4 < 5; decide))), OneO.flat _ (by kernel_rfl) rfl (ss_flat _), OneO.flat _ (by kernel_rfl) rfl (ss_flat _), by rw [ha]; exact OneO.ph (of_decide_eq_true (by kernel_rfl)), trivial⟩ ?_
    refine WpCall.st 0 1 2 4 c1 (by decide) (by kernel_rfl) rfl (by kernel_rfl) (by kernel_rfl) (by kernel_rfl) rfl (fun _ => rfl) ?_
    unfold behind sB stC rowQ rowO rowA qB aB
    refine WpOps.nil (blockK_norm (thenK_at (Wp.seq (Wp.seq (Wp.text (kp 43 (vI 0) (kp 44 vF (WpOps.nil (thenK_at (off' (Wp.skip (thenK_at (Wp.seq (Wp.text (kp 46 (vP 0 0) (cl 47 47 [vP 0 0] ?_))))))))))))))))
    refine WpCall.st 0 5 6 7 c2 (by decide) (by kernel_rfl) rfl (by kernel_rfl) (by kernel_rfl) (by kernel_rfl) rfl (fun _ => rfl) ?_
    unfold behind sB stC rowQ rowO rowA qB aB
    refine WpOps.nil (thenK_at (Wp.seq (Wp.text (kp 48 (vP 0 0) (kp 49 (vP 0 0) (kp 50 (vP 0 15) (kp 51 (.slice (some ⟨10, 0, none⟩) (List.length (St.ans (St.flo s1))) (List.length (St.ans (St.flo s1)))) (kp 4 (.slice (some ⟨10, 0, none⟩) (List.length (St.ans (St.flo s1))) (List.length (St.ans (St.flo s1)))) (kp 5 (vI 0) (WpOps.nil (thenK_at (Wp.ret (endK_retn [Value.slice (some (Addr.mk 10 0 none)) (List.length (St.ans (St.flo s1))) (List.length (St.ans (St.flo s1))), vI 0] (Value.tuple #[Value.slice (some (Addr.mk 10 0 none)) (List.length (St.ans (St.flo s1))) (List.length (St.ans (St.flo s1))), vI 0]) (by kernel_rfl) (by kernel_rfl) ?_)))))))))))))
    exact endO 8 9 10 (by kernel_rfl) rfl (by decide) (by decide) (.is rfl (by kernel_rfl) rfl rfl) (.is rfl (by kernel_rfl) rfl rfl) (.own rfl (by kernel_rfl)) rfl (.own rfl (by kernel_rfl))
  rw [if_neg hc]
  refine ⟨pre, ToOn g22 rfl (of_decide_eq_true (by kernel_rfl)) rfl rfl ?_⟩
  unfold onIn oB stC rowQ rowO at c0 ⊢
  unfold qB at c0 ⊢
  unfold evv
  refine Wp.seq (Wp.text (md 3 (vP 3 0) (Blk.mk 61 true [vI w, vI k, vI a, vI b, vI c, Value.string d]) (kp 4 vN (kp 5 (vI 0) (WpOps.nil (thenK_at (Wp.seq (Wp.seq (Wp.text (kp 7 (vP 0 0) (cl 8 42 [vP 0 0] (WpCall.gS (s := s) (pre := pre) (nA := nA) (cA := cA) c0 (by kernel_rfl) (by kernel_rfl) (by kernel_rfl) (by kernel_rfl) (WpOps.nil (thenK_at (off' (Wp.skip (thenK_at (Wp.seq (Wp.text (kp 9 (vP 0 0) (kp 10 (vP 0 0) (kp 11 (vP 0 15) (ld (.tuple #[]) (0) (Blk.mk 73 true [vI (St.left s), vI (St.wait s), vI (St.tried s), vI (St.tries s), Value.bool (St.first s), vI (St.win s), vI (St.state s), vI (St.gen s), vI (St.sent s), vI (St.acked s), vI (St.wanted s), Value.bool (St.rej s), Value.bool (St.ren s), Value.slice (some (Addr.mk 1 (List.length pre) none)) (List.length (St.queue s)) (List.length (St.queue s)), Value.slice (some ⟨2, 0, none⟩) (List.length (St.out s)) (List.length (St.out s)), vN]) (WpOps.nil (thenK_at (Wp.seq (Wp.text (kp 6 (vI 0) (WpOps.nil (thenK_at (Wp.seq (Wp.block (Wp.seq (Wp.text (kp 13 (vP 3 0) (kp 14 (vI w) (kp 15 vF ?_ (hop := fun _ => by_fact dw0))))))))))))))))))))))))))))))))))))))
  refine kp 12 vF (WpOps.nil (thenK_at (off' (Wp.seq (Wp.text (kp 20 (vP 3 0) (kp 21 (vI w) (kp 22 (.bool (w == 1)) (kp 23 (.bool (w == 1)) ?_)))))))))
  refine WpOps.fork 4 (w == 1) [24, 25, 26, 27] 27 (k == 0) (false) (by kernel_rfl) (fun g27 => ?_) (fun g27 => ?_) (fun f_27 b27 hb27 => ?_)
  · refine kp 24 (vP 3 1) (kp 25 (vI k) (kp 26 (.bool (k == 0)) (kp 27 (.bool (k == 0)) (WpOps.nil ?_) (hop := fun _ => o_pickT g27)) (hw := wants_tt g27)) (hw := wants_tt g27)) (hw := wants_tt g27)
    exact ⟨rfl, (.upd rfl (.upd rfl (.upd rfl (.upd rfl .refl)))), (by kernel_rfl)⟩
  · refine um 24 (um 25 (um 26 (kp 27 vF (WpOps.nil ?_) (hop := fun _ => o_pickF g27)) (hw := wants_ft g27)) (hw := wants_ft g27)) (hw := wants_ft g27)
    exact ⟨rfl, (.upd rfl (.upd rfl (.upd rfl (.upd rfl .refl)))), (by kernel_rfl)⟩
  refine kp 19 (.bool b27) (WpOps.nil (thenK_at ?_))
  obtain rfl : b27 = false := by
    rw [hb27]
    by_cases h1 : w = 1
    · rw [show (k == 0) = false from beq_false_of_ne (fun h => hk ⟨h1, h⟩)]
      cases (w == 1) <;> rfl
    · rw [show (w == 1) = false from beq_false_of_ne h1]
      rfl
  refine off' (Wp.seq (Wp.text (kp 33 (vP 3 0) (kp 34 (vI w) (kp 35 (.bool (w == 2)) (kp 36 (.bool (w == 2)) ?_))))))
  refine WpOps.fork 4 (w == 2) [37, 38, 39, 40] 40 (k == 0) (false) (by kernel_rfl) (fun g40 => ?_) (fun g40 => ?_) (fun f_40 b40 hb40 => ?_)
  · refine kp 37 (vP 3 1) (kp 38 (vI k) (kp 39 (.bool (k == 0)) (kp 40 (.bool (k == 0)) (WpOps.nil ?_) (hop := fun _ => o_pickT g40)) (hw := wants_tt g40)) (hw := wants_tt g40)) (hw := wants_tt g40)
    exact ⟨rfl, (.upd rfl (.upd rfl (.upd rfl (.upd rfl .refl)))), (by kernel_rfl)⟩
  · refine um 37 (um 38 (um 39 (kp 40 vF (WpOps.nil ?_) (hop := fun _ => o_pickF g40)) (hw := wants_ft g40)) (hw := wants_ft g40)) (hw := wants_ft g40)
    exact ⟨rfl, (.upd rfl (.upd rfl (.upd rfl (.upd rfl .refl)))), (by kernel_rfl)⟩
  refine kp 32 (.bool b40) (WpOps.nil (thenK_at ?_))
  obtain rfl : b40 = false := by
    rw [hb40]
    by_cases h1 : w = 2
    · rw [show (k == 0) = false from beq_false_of_ne (fun h => hc ⟨h1, h⟩)]
      cases (w == 2) <;> rfl
    · rw [show (w == 2) = false from beq_false_of_ne h1]
      rfl
  refine off' (Wp.text (kp 6 (vI 1) (WpOps.nil (blockK_norm (thenK_at (Wp.seq (Wp.seq (Wp.text (kp 43 (vI 1) (kp 44 vT (WpOps.nil (thenK_at (on' (Wp.seq (Wp.text (kp 45 (vI 1) (kp 4 vN (kp 5 (vI 1) (WpOps.nil (thenK_at (Wp.ret (thenK_ret (endK_retn [vN, vI 1] (Value.tuple #[vN, vI 1]) (by kernel_rfl) (by kernel_rfl) ?_)))))))))))))))))))))))
  exact endO 1 2 9 (by kernel_rfl) rfl (by decide) (by decide) (.is rfl (by kernel_rfl) rfl rfl) (.is rfl (by kernel_rfl) rfl rfl) (.nil rfl ha) rfl (.nil rfl ha)
theorem onIn_cut (s : St) (pre : List ByteArray) (nA : Nat) (cA : Array Value) : onIn s pre nA cA = onIn { s with ans := [] } pre nA cA := rfl
theorem on22 (s : St) (pre : List ByteArray) (nA : Nat) (cA : Array Value) (w k a b c : Int) (d : ByteArray) (hd : d.size ≤ 140737488351232) (hok : s.Ok) : ∃ pre', LentP E 22 [.pointer (some ⟨0, 0, none⟩), evv w k a b c d] (onIn s pre nA cA) (onV (s.ons false w k d).1 (s.ons false w k d).2) (onOut (s.ons false w k d).2 pre') :=
  on22a { s with ans := [] } pre nA cA w k a b c d hd hok.cut rfl
end Go.Proofs.Ytgefohjickhldaa.D
