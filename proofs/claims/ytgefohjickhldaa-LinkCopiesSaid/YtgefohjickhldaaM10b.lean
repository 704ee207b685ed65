/- A station's memory; its small methods -/
import Derived.Test.YtgefohjickhldaaFwLem
import Derived.Test.YtgefohjickhldaaFwCons
import Derived.Test.YtgefohjickhldaaFwHoleL
import Derived.Test.YtgefohjickhldaaT10a
namespace Go.Proofs.Ytgefohjickhldaa.D
open Go.Fw Go.RowKit

def ss (l : List ByteArray) : List Value := l.map Value.string
def evl (l : List Evt) : List Value := l.flatMap evc
def qB (l : List ByteArray) : Blk := ⟨9, true, ss l⟩
def aB (l : List Evt) : Blk := ⟨61, true, evl l⟩
def stC (s : St) (vq vo va : Value) : List Value := [.int .i64 s.left, .int .i64 s.wait, .int .i64 s.tried, .int .i64 s.tries, .bool s.first, .int .i64 s.win, .int .i64 s.state, .int .i64 s.gen, .int .i64 s.sent, .int .i64 s.acked, .int .i64 s.wanted, .bool s.rej, .bool s.ren, vq, vo, va]
def rowQ (s : St) (p q : Nat) : Value := .slice (some ⟨q, p, none⟩) s.queue.length s.queue.length
def rowO (s : St) (o : Nat) : Value := .slice (some ⟨o, 0, none⟩) s.out.length s.out.length
def rowA (s : St) (a : Nat) : Value := .slice (some ⟨a, 0, none⟩) s.ans.length s.ans.length
def sB (s : St) (p q o a : Nat) : Blk := ⟨73, true, stC s (rowQ s p q) (rowO s o) (rowA s a)⟩
theorem ss_len (l : List ByteArray) : (ss l).length = l.length := by simp [ss]
theorem ss_flat (l : List ByteArray) : (ss l).all flat = true := by
  rw [List.all_eq_true]
  intro v hv
  obtain ⟨z, _, rfl⟩ := List.mem_map.1 hv
  rfl
theorem ss_app (a b : List ByteArray) : ss (a ++ b) = ss a ++ ss b := List.map_append
theorem evl_flat : ∀ l : List Evt, (evl l).all flat = true
  | [] => rfl
  | e :: l => by
    have ih := evl_flat l
    unfold evl at ih ⊢
    rw [List.flatMap_cons, List.all_append, ih]
    rfl
theorem evl_len : ∀ l : List Evt, (evl l).length = l.length * 6
  | [] => rfl
  | e :: l => by
    have ih := evl_len l
    unfold evl at ih ⊢
    rw [List.flatMap_cons, List.length_append, ih, List.length_cons, Nat.succ_mul, Nat.add_comm]
    rfl
theorem evl_app (a b : List Evt) : evl (a ++ b) = evl a ++ evl b := List.flatMap_append
theorem evl_one (e : Evt) : evl [e] = evc e := by simp [evl]
theorem cellsAt_all (l : List Value) {n : Nat} (h : l.length = n) : cellsAt l 0 n = some l := by
  subst h
  unfold cellsAt
  rw [if_pos (by omega), List.drop_zero, List.take_length]
theorem cellsAt_off (p l : List Value) {o n : Nat} (ho : p.length = o) (h : l.length = n) : cellsAt (p ++ l) o n = some l := by
  subst ho h
  unfold cellsAt
  rw [if_pos (by rw [List.length_append]; omega), List.drop_left, List.take_length]
/-- The blocks that are lent, and those that come back. -/
def stIn (s : St) (pre : List ByteArray) : List Blk := [sB s pre.length 1 2 3, qB (pre ++ s.queue), qB s.out, aB s.ans]
def stOut (s : St) (pre : List ByteArray) : List (Option Blk) := [some (sB s pre.length 4 5 6), none, none, none, some (qB (pre ++ s.queue)), some (qB s.out), some (aB s.ans)]
/-- What a method does with a station. -/
def Ct (f : FuncId) (args : List Value) (s : St) (pre : List ByteArray) (v : Value) (s' : St) (pre' : List ByteArray) : Prop :=
  LentP E f (.pointer (some ⟨0, 0, none⟩) :: args) (stIn s pre) v (stOut s' pre')
theorem ok_sB {m : Nat} (s : St) (p q o a : Nat) (hq : q < m) (ho : o < m) (ha : a < m) : (sB s p q o a).cells.all (okC m) = true := by
  have h1 : okC m (rowQ s p q) = true := decide_eq_true hq
  have h2 : okC m (rowO s o) = true := decide_eq_true ho
  have h3 : okC m (rowA s a) = true := decide_eq_true ha
  simp only [sB, stC, List.all_cons, List.all_nil, h1, h2, h3]
  rfl
theorem ok_qB {m : Nat} (l : List ByteArray) : (qB l).cells.all (okC m) = true := okCs_flat (ss_flat l)
theorem ok_aB {m : Nat} (l : List Evt) : (aB l).cells.all (okC m) = true := okCs_flat (evl_flat l)
theorem Ct.of {f : FuncId} {fn : Func} {c : Code} {args : List Value} {s s' : St} {pre pre' : List ByteArray} {v : Value} (hf : E.funcs f = some fn) (hb : fn.body = some c) (hl : args.length + 1 ≤ fn.ntmps) (ha : args.all (okV 4) = true) (hv : okT 7 v = true)
    (hw : Wp 4 E fn.ntmps c (slots0 (.pointer (some ⟨0, 0, none⟩) :: args)) (heapOf (stIn s pre)) (endK E fn (LentO E 4 v (stOut s' pre')))) : Ct f args s pre v s' pre' := by
  refine ⟨?_, rfl, rfl, (by decide : (4 : Nat) ≤ 7), ?_, ?_, hv⟩
  · have := SCall.enterO (E := E) (bs := (stIn s pre).map some) (bs' := stOut s' pre') (args := .pointer (some ⟨0, 0, none⟩) :: args) (v := v) hf hb hl rfl rfl (by decide : (4 : Nat) ≤ 7) (by rw [← heapO_of]; exact hw)
    rw [← heapO_of] at this
    exact this
  · show (okV 4 (.pointer (some ⟨0, 0, none⟩)) && args.all (okV 4)) = true
    rw [ha]
    rfl
  · intro x hx
    simp only [stOut, List.mem_cons, List.not_mem_nil, or_false, Option.some.injEq, reduceCtorEq, false_or] at hx
    rcases hx with rfl | rfl | rfl | rfl
    · exact ok_sB _ _ _ _ _ (by decide : 4 < 7) (by decide : 5 < 7) (by decide : 6 < 7)
    · exact ok_qB _
    · exact ok_qB _
    · exact ok_aB _
/-- A station's memory behind a call of one of its methods. -/
def behind (h : Heap) (b0 b1 b2 b3 : Nat) (s' : St) (pre' : List ByteArray) : Heap :=
  (((((((h.set b0 (some (sB s' pre'.length h.next (h.next + 1) (h.next + 2)))).set b1 none).set b2 none).set b3 none).alloc (qB (pre' ++ s'.queue))).alloc (qB s'.out)).alloc (aB s'.ans))
theorem WpCall.st {f : FuncId} {args args0 : List Value} {s s' : St} {pre pre' : List ByteArray} {v : Value} {h : Heap} {K : Value → Heap → Prop} (b0 b1 b2 b3 : Nat) (c : Ct f args s pre v s' pre') (hd : [b0, b1, b2, b3].Nodup) {cells : List Value} (h0 : h.get b0 = some ⟨73, true, cells⟩) (hc : cells = stC s (rowQ s pre.length b1) (rowO s b2) (rowA s b3))
    (h1 : h.get b1 = some (qB (pre ++ s.queue))) (h2 : h.get b2 = some (qB s.out)) (h3 : h.get b3 = some (aB s.ans)) (ha : args0 = .pointer (some ⟨b0, 0, none⟩) :: args.map (unV [b0, b1, b2, b3])) (hv : ∀ rl, unT rl v = v) (k : K v (behind h b0 b1 b2 b3 s' pre')) : WpCall E f args0 h K := by
  subst hc
  refine WpCall.lentP [b0, b1, b2, b3] c hd ⟨⟨_, h0, ?_⟩, ⟨_, h1, CellsOk.eq rfl (ss_flat _)⟩, ⟨_, h2, CellsOk.eq rfl (ss_flat _)⟩, ⟨_, h3, CellsOk.eq rfl (evl_flat _)⟩, trivial⟩ (by rw [ha]; rfl) v
    [some (sB s' pre'.length h.next (h.next + 1) (h.next + 2)), none, none, none, some (qB (pre' ++ s'.queue)), some (qB s'.out), some (aB s'.ans)]
    (.cons ?_ (.cons rfl (.cons rfl (.cons rfl (.cons (congrArg some (unB_flat (ss_flat _))) (.cons (congrArg some (unB_flat (ss_flat _))) (.cons (congrArg some (unB_flat (evl_flat _))) .nil))))))) (hv _) _ rfl k
  · exact ⟨rfl, ok_sB _ _ _ _ _ (by decide : 1 < 4) (by decide : 2 < 4) (by decide : 3 < 4)⟩
  · rfl
/-- A row at the end of a method: as it is (with room beyond that is forgotten), or nil. -/
inductive RowE (h : Heap) (e : Nat) (vq : Value) (k p n : Nat) (cells : List Value) : Prop
  | own (c : Nat) (l2 : List Value) : vq = .slice (some ⟨k, p, none⟩) n c → n ≤ c → h.get k = some ⟨e, true, cells ++ l2⟩ → RowE h e vq k p n cells
  | nil : vq = .slice none 0 0 → n = 0 → cells = [] → p = 0 → (h.get k).map (fun x => (x.elem, x.own)) = some (e, true) → RowE h e vq k p n cells
theorem RowE.is {h : Heap} {e : Nat} {vq : Value} {k p n n' : Nat} {cells cells' : List Value} (h1 : vq = .slice (some ⟨k, p, none⟩) n' n') (h3 : h.get k = some ⟨e, true, cells'⟩) (hn : n' = n) (hc : cells' = cells) : RowE h e vq k p n cells := by
  subst hn hc
  exact .own n' [] h1 (Nat.le_refl _) (by rw [List.append_nil]; exact h3)
theorem RowE.one {h : Heap} {e : Nat} {vq : Value} {k p n : Nat} {cells : List Value} (r : RowE h e vq k p n cells) {rl : List Nat} {m : Nat} (hf : cells.all flat = true) : OneO E h rl m k ⟨e, true, cells⟩ := by
  cases r with
  | own c l2 _ _ h3 => exact OneO.front _ l2 h3 rfl hf
  | nil _ _ h3 _ h5 =>
    subst h3
    obtain ⟨⟨_, _, old⟩, h6, h7⟩ := Option.map_eq_some_iff.1 h5
    obtain ⟨rfl, rfl⟩ := Prod.mk.inj h7
    exact OneO.none old h6
theorem RowE.cell {h : Heap} {e : Nat} {vq : Value} {k p n : Nat} {cells : List Value} (r : RowE h e vq k p n cells) {hR : Heap} {rl : List Nat} {m b : Nat} (hb : b < m) (hk : rl.getD b 0 = k) : TC E hR rl m vq (.slice (some ⟨b, p, none⟩) n n) := by
  cases r with
  | own c l2 h1 h2 _ => exact .cap b p n c n (by rw [hk]; exact h1) rfl hb (Nat.le_refl _) h2
  | nil h1 h2 _ h4 _ =>
    subst h2 h4
    exact .bare b 0 h1 rfl hb
theorem endSt {h : Heap} {v v1 : Value} {s' : St} {pre' : List ByteArray} (q o a : Nat) {cells : List Value} {vq vo va : Value} (h0 : h.get 0 = some ⟨73, true, cells⟩) (hc : cells = stC s' vq vo va) (hd : [0, q, o, a].Nodup) (rq' : RowE h 9 vq q pre'.length s'.queue.length (ss (pre' ++ s'.queue))) (ro' : RowE h 9 vo o 0 s'.out.length (ss s'.out)) (ra' : RowE h 61 va a 0 s'.ans.length (evl s'.ans))
    (hv : v1 = v) (hu : ∀ rl, unV rl v = v) (hf : okV 7 v = true) : LentO E 4 v (stOut s' pre') v1 h := by
  subst hc
  refine ⟨[0, 1, 2, 3, q, o, a], hd, rfl, ⟨OneO.cells _ h0 ?_, rq'.one (ss_flat _), ro'.one (ss_flat _), ra'.one (evl_flat _), trivial⟩, ?_⟩
  · have nn : ∀ n : Int, TC E (h.less [0, 1, 2, 3, q, o, a]) [0, 1, 2, 3, q, o, a] 7 (.int .i64 n) (.int .i64 n) := fun n => .un rfl rfl
    have bb : ∀ n : Bool, TC E (h.less [0, 1, 2, 3, q, o, a]) [0, 1, 2, 3, q, o, a] 7 (.bool n) (.bool n) := fun n => .un rfl rfl
    exact .cons (nn _) (.cons (nn _) (.cons (nn _) (.cons (nn _) (.cons (bb _) (.cons (nn _) (.cons (nn _) (.cons (nn _) (.cons (nn _) (.cons (nn _) (.cons (nn _) (.cons (bb _) (.cons (bb _) (.cons (rq'.cell (b := 4) (by decide : 4 < 7) rfl) (.cons (ro'.cell (b := 5) (by decide : 5 < 7) rfl) (.cons (ra'.cell (b := 6) (by decide : 6 < 7) rfl) .nil)))))))))))))))
  · subst hv
    exact .w (.un (hu _).symm hf)
open Go.Fw Go.RowKit

theorem ans_succ (l : List Evt) (e : Evt) : l.length + 1 = (l ++ [e]).length := by simp
theorem ans_app (l : List Evt) (e : Evt) : evl l ++ evc e = evl (l ++ [e]) := by rw [evl_app, evl_one]
theorem f63 : E.funcs 63 = some Try.f63 := by kernel_rfl
theorem send63 (s : St) (pre : List ByteArray) (k n r : Nat) (d : ByteArray) (hk : k ≤ 8) (hA : s.ans.length ≤ 1000000) : Ct 63 [.int .u8 k, .int .i64 n, .int .i64 r, .string d] s pre (.tuple #[]) (s.snd k n r d) pre := by
  refine Ct.of f63 rfl (of_decide_eq_true (by kernel_rfl)) rfl rfl ?_
  obtain ⟨e, c1⟩ := frame_fb k s.gen n r d
  have c2 := frame10 k s.gen n r d
  rw [c1] at c2
  have w1 : IntKind.i64.wrap (k : Int) = k := wr _ (by omega) (by omega)
  have q0 : cellsAt (evl s.ans) 0 (s.ans.length * 6) = some (evl s.ans) := cellsAt_all _ (evl_len _)
  have q1 : ¬ s.ans.length + 1 ≤ s.ans.length := by omega
  have q2 : 1 ≤ 56 ∧ (s.ans.length + 1) * 56 ≤ 140737488355328 ∧ 6 = 6 ∧ s.ans.length + 1 ≤ 9223372036854775807 := by omega
  unfold stIn sB stC rowQ rowO rowA qB aB
  refine Wp.seq (Wp.text (kp 13 (.int .u8 (↑k : Int)) (kp 14 (vI (IntKind.wrap .i64 (↑k : Int))) (kp 15 (vP 0 0) (kp 16 (vP 0 0) (kp 17 (vP 0 7) (kp 18 (vI (St.gen s)) (kp 19 (vI n) (kp 20 (vI r) (kp 21 (.string d) (fr 22 10 [vI (IntKind.wrap .i64 (↑k : Int)), vI (St.gen s), vI n, vI r, Value.string d] ?_)))))))))))
  rw [w1]
  refine WpFun.of (c2) (kp 12 (.tuple #[Value.string (fb k (St.gen s) n r d), vI e]) (kp 23 (.string (fb k (St.gen s) n r d)) (kp 24 (vI e) (kp 10 (.string (fb k (St.gen s) n r d)) (kp 11 (vI e) (WpOps.nil (thenK_at (Wp.text (kp 25 (vP 0 0) (kp 26 (vP 0 0) (kp 27 (vP 0 0) (kp 28 (vP 0 15) (kp 29 (.slice (some ⟨3, 0, none⟩) (List.length (St.ans s)) (List.length (St.ans s))) (kp 30 (.string (fb k (St.gen s) n r d)) (kp 31 (.agg #[vI 1, vI 0, vI 0, vI 0, vI 0, Value.string (fb k (St.gen s) n r d)]) (md 32 (.slice (some ⟨4, 0, none⟩) 1 1) (Blk.mk 61 true [vI 1, vI 0, vI 0, vI 0, vI 0, Value.string (fb k (St.gen s) n r d)]) ?_))))))))))))))))
  refine ra 33 (.slice (some ⟨5, 0, none⟩) (List.length (St.ans s) + 1) (List.length (St.ans s) + 1)) (3) (Blk.mk 61 true (evl (St.ans s) ++ [Value.int .i64 1, Value.int .i64 0, Value.int .i64 0, Value.int .i64 0, Value.int .i64 0, Value.string (fb k (St.gen s) n r d)])) ?_ (hop := fun _ => o_append (e := 61) (3) (0) (List.length (St.ans s)) _ (List.length (St.ans s)) q1 q2 q0)
  refine kp 34 (vP 0 0) (kp 35 (vP 0 15) (ld (.tuple #[]) (0) (Blk.mk 73 true [vI (St.left s), vI (St.wait s), vI (St.tried s), vI (St.tries s), Value.bool (St.first s), vI (St.win s), vI (St.state s), vI (St.gen s), vI (St.sent s), vI (St.acked s), vI (St.wanted s), Value.bool (St.rej s), Value.bool (St.ren s), Value.slice (some (Addr.mk 1 (List.length pre) none)) (List.length (St.queue s)) (List.length (St.queue s)), Value.slice (some ⟨2, 0, none⟩) (List.length (St.out s)) (List.length (St.out s)), Value.slice (some ⟨5, 0, none⟩) (List.length (St.ans s) + 1) (List.length (St.ans s) + 1)]) (WpOps.nil (endK_norm [] (Value.tuple #[]) (by kernel_rfl) (by kernel_rfl) ?_))))
  exact endSt 1 2 5 (by kernel_rfl) rfl (by decide) (.is rfl (by kernel_rfl) rfl rfl) (.is rfl (by kernel_rfl) rfl rfl) (.is rfl (by kernel_rfl) (ans_succ _ _) (ans_app _ _)) rfl (fun _ => rfl) rfl
theorem f66 : E.funcs 66 = some Try.f66 := by kernel_rfl
theorem tell66 (s : St) (pre : List ByteArray) (k : Nat) (d : ByteArray) (hA : s.ans.length ≤ 1000000) : Ct 66 [.int .i64 k, .string d] s pre (.tuple #[]) (s.tel k d) pre := by
  refine Ct.of f66 rfl (of_decide_eq_true (by kernel_rfl)) rfl rfl ?_
  have q0 : cellsAt (evl s.ans) 0 (s.ans.length * 6) = some (evl s.ans) := cellsAt_all _ (evl_len _)
  have q1 : ¬ s.ans.length + 1 ≤ s.ans.length := by omega
  have q2 : 1 ≤ 56 ∧ (s.ans.length + 1) * 56 ≤ 140737488355328 ∧ 6 = 6 ∧ s.ans.length + 1 ≤ 9223372036854775807 := by omega
  unfold stIn sB stC rowQ rowO rowA qB aB
  refine Wp.text (kp 6 (vP 0 0) (kp 7 (vP 0 0) (kp 8 (vP 0 0) (kp 9 (vP 0 15) (kp 10 (.slice (some ⟨3, 0, none⟩) (List.length (St.ans s)) (List.length (St.ans s))) (kp 11 (vI k) (kp 12 (.string d) (kp 13 (.agg #[vI 0, vI k, vI 0, vI 0, vI 0, Value.string d]) (md 14 (.slice (some ⟨4, 0, none⟩) 1 1) (Blk.mk 61 true [vI 0, vI k, vI 0, vI 0, vI 0, Value.string d]) ?_)))))))))
  refine ra 15 (.slice (some ⟨5, 0, none⟩) (List.length (St.ans s) + 1) (List.length (St.ans s) + 1)) (3) (Blk.mk 61 true (evl (St.ans s) ++ [Value.int .i64 0, Value.int .i64 k, Value.int .i64 0, Value.int .i64 0, Value.int .i64 0, Value.string d])) ?_ (hop := fun _ => o_append (e := 61) (3) (0) (List.length (St.ans s)) _ (List.length (St.ans s)) q1 q2 q0)
  refine kp 16 (vP 0 0) (kp 17 (vP 0 15) (ld (.tuple #[]) (0) (Blk.mk 73 true [vI (St.left s), vI (St.wait s), vI (St.tried s), vI (St.tries s), Value.bool (St.first s), vI (St.win s), vI (St.state s), vI (St.gen s), vI (St.sent s), vI (St.acked s), vI (St.wanted s), Value.bool (St.rej s), Value.bool (St.ren s), Value.slice (some (Addr.mk 1 (List.length pre) none)) (List.length (St.queue s)) (List.length (St.queue s)), Value.slice (some ⟨2, 0, none⟩) (List.length (St.out s)) (List.length (St.out s)), Value.slice (some ⟨5, 0, none⟩) (List.length (St.ans s) + 1) (List.length (St.ans s) + 1)]) (WpOps.nil (endK_norm [] (Value.tuple #[]) (by kernel_rfl) (by kernel_rfl) ?_))))
  exact endSt 1 2 5 (by kernel_rfl) rfl (by decide) (.is rfl (by kernel_rfl) rfl rfl) (.is rfl (by kernel_rfl) rfl rfl) (.is rfl (by kernel_rfl) (ans_succ _ _) (ans_app _ _)) rfl (fun _ => rfl) rfl
theorem f64 : E.funcs 64 = some Try.f64 := by kernel_rfl
theorem start64 (s : St) (pre : List ByteArray) : Ct 64 [] s pre (.tuple #[]) s.sta pre := by
  refine Ct.of f64 rfl (of_decide_eq_true (by kernel_rfl)) rfl rfl ?_
  unfold stIn sB stC rowQ rowO rowA qB aB
  refine Wp.text (kp 2 (vP 0 0) (kp 3 (vP 0 0) (kp 4 (vP 0 0) (kp 5 (vP 0 0) (kp 6 (vP 0 1) (kp 7 (vI (St.wait s)) (kp 8 (vP 0 0) (kp 9 (vP 0 0) (ld (.tuple #[]) (0) (Blk.mk 73 true [vI (St.wait s), vI (St.wait s), vI (St.tried s), vI (St.tries s), Value.bool (St.first s), vI (St.win s), vI (St.state s), vI (St.gen s), vI (St.sent s), vI (St.acked s), vI (St.wanted s), Value.bool (St.rej s), Value.bool (St.ren s), Value.slice (some (Addr.mk 1 (List.length pre) none)) (List.length (St.queue s)) (List.length (St.queue s)), Value.slice (some ⟨2, 0, none⟩) (List.length (St.out s)) (List.length (St.out s)), Value.slice (some ⟨3, 0, none⟩) (List.length (St.ans s)) (List.length (St.ans s))]) (kp 10 (vP 0 0) (kp 11 (vP 0 2) (ld (.tuple #[]) (0) (Blk.mk 73 true [vI (St.wait s), vI (St.wait s), vI 1, vI (St.tries s), Value.bool (St.first s), vI (St.win s), vI (St.state s), vI (St.gen s), vI (St.sent s), vI (St.acked s), vI (St.wanted s), Value.bool (St.rej s), Value.bool (St.ren s), Value.slice (some (Addr.mk 1 (List.length pre) none)) (List.length (St.queue s)) (List.length (St.queue s)), Value.slice (some ⟨2, 0, none⟩) (List.length (St.out s)) (List.length (St.out s)), Value.slice (some ⟨3, 0, none⟩) (List.length (St.ans s)) (List.length (St.ans s))]) ?_))))))))))))
  refine WpOps.nil (endK_norm [] (Value.tuple #[]) (by kernel_rfl) (by kernel_rfl) ?_)
  exact endSt 1 2 3 (by kernel_rfl) rfl (by decide) (.is rfl (by kernel_rfl) rfl rfl) (.is rfl (by kernel_rfl) rfl rfl) (.is rfl (by kernel_rfl) rfl rfl) rfl (fun _ => rfl) rfl
theorem f83 : E.funcs 83 = some Try.f83 := by kernel_rfl
theorem empty83 (s : St) (pre : List ByteArray) : Ct 83 [] s pre (.tuple #[]) (s.emp false) [] := by
  refine Ct.of f83 rfl (of_decide_eq_true (by kernel_rfl)) rfl rfl ?_
  unfold stIn sB stC rowQ rowO rowA qB aB
  refine Wp.seq (Wp.text (kp 2 (vP 0 0) (kp 3 (vP 0 0) (kp 4 (vP 0 0) (kp 5 (vP 0 0) (kp 6 (vP 0 0) (kp 7 (vP 0 8) (ld (.tuple #[]) (0) (Blk.mk 73 true [vI (St.left s), vI (St.wait s), vI (St.tried s), vI (St.tries s), Value.bool (St.first s), vI (St.win s), vI (St.state s), vI (St.gen s), vI 0, vI (St.acked s), vI (St.wanted s), Value.bool (St.rej s), Value.bool (St.ren s), Value.slice (some (Addr.mk 1 (List.length pre) none)) (List.length (St.queue s)) (List.length (St.queue s)), Value.slice (some ⟨2, 0, none⟩) (List.length (St.out s)) (List.length (St.out s)), Value.slice (some ⟨3, 0, none⟩) (List.length (St.ans s)) (List.length (St.ans s))]) (kp 8 (vP 0 0) (kp 9 (vP 0 9) (ld (.tuple #[]) (0) (Blk.mk 73 true [vI (St.left s), vI (St.wait s), vI (St.tried s), vI (St.tries s), Value.bool (St.first s), vI (St.win s), vI (St.state s), vI (St.gen s), vI 0, vI 0, vI (St.wanted s), Value.bool (St.rej s), Value.bool (St.ren s), Value.slice (some (Addr.mk 1 (List.length pre) none)) (List.length (St.queue s)) (List.length (St.queue s)), Value.slice (some ⟨2, 0, none⟩) (List.length (St.out s)) (List.length (St.out s)), Value.slice (some ⟨3, 0, none⟩) (List.length (St.ans s)) (List.length (St.ans s))]) ?_)))))))))))
  refine kp 10 (vP 0 0) (kp 11 (vP 0 10) (ld (.tuple #[]) (0) (Blk.mk 73 true [vI (St.left s), vI (St.wait s), vI (St.tried s), vI (St.tries s), Value.bool (St.first s), vI (St.win s), vI (St.state s), vI (St.gen s), vI 0, vI 0, vI 0, Value.bool (St.rej s), Value.bool (St.ren s), Value.slice (some (Addr.mk 1 (List.length pre) none)) (List.length (St.queue s)) (List.length (St.queue s)), Value.slice (some ⟨2, 0, none⟩) (List.length (St.out s)) (List.length (St.out s)), Value.slice (some ⟨3, 0, none⟩) (List.length (St.ans s)) (List.length (St.ans s))]) (kp 12 (vP 0 0) (kp 13 (vP 0 11) (ld (.tuple #[]) (0) (Blk.mk 73 true [vI (St.left s), vI (St.wait s), vI (St.tried s), vI (St.tries s), Value.bool (St.first s), vI (St.win s), vI (St.state s), vI (St.gen s), vI 0, vI 0, vI 0, vF, Value.bool (St.ren s), Value.slice (some (Addr.mk 1 (List.length pre) none)) (List.length (St.queue s)) (List.length (St.queue s)), Value.slice (some ⟨2, 0, none⟩) (List.length (St.out s)) (List.length (St.out s)), Value.slice (some ⟨3, 0, none⟩) (List.length (St.ans s)) (List.length (St.ans s))]) (WpOps.nil (thenK_at (Wp.text (kp 14 (vP 0 0) (kp 15 (vP 0 0) ?_))))))))))
  refine kp 16 (vP 0 0) (kp 17 (vP 0 0) (kp 18 (vP 0 13) (ld (.tuple #[]) (0) (Blk.mk 73 true [vI (St.left s), vI (St.wait s), vI (St.tried s), vI (St.tries s), Value.bool (St.first s), vI (St.win s), vI (St.state s), vI (St.gen s), vI 0, vI 0, vI 0, vF, Value.bool (St.ren s), vN, Value.slice (some ⟨2, 0, none⟩) (List.length (St.out s)) (List.length (St.out s)), Value.slice (some ⟨3, 0, none⟩) (List.length (St.ans s)) (List.length (St.ans s))]) (kp 19 (vP 0 0) (kp 20 (vP 0 14) (ld (.tuple #[]) (0) (Blk.mk 73 true [vI (St.left s), vI (St.wait s), vI (St.tried s), vI (St.tries s), Value.bool (St.first s), vI (St.win s), vI (St.state s), vI (St.gen s), vI 0, vI 0, vI 0, vF, Value.bool (St.ren s), vN, vN, Value.slice (some ⟨3, 0, none⟩) (List.length (St.ans s)) (List.length (St.ans s))]) (kp 21 (vP 0 0) (kp 22 (vP 0 0) (kp 23 (vP 0 0) (ld (.tuple #[]) (0) (Blk.mk 73 true [vI 0, vI (St.wait s), vI (St.tried s), vI (St.tries s), Value.bool (St.first s), vI (St.win s), vI (St.state s), vI (St.gen s), vI 0, vI 0, vI 0, vF, Value.bool (St.ren s), vN, vN, Value.slice (some ⟨3, 0, none⟩) (List.length (St.ans s)) (List.length (St.ans s))]) ?_))))))))))
  refine WpOps.nil (endK_norm [] (Value.tuple #[]) (by kernel_rfl) (by kernel_rfl) ?_)
  exact endSt 1 2 3 (by kernel_rfl) rfl (by decide) (.nil rfl rfl rfl rfl (by kernel_rfl)) (.nil rfl rfl rfl rfl (by kernel_rfl)) (.is rfl (by kernel_rfl) rfl rfl) rfl (fun _ => rfl) rfl
theorem h42 : E.funcs 42 = some Try.f42 := by kernel_rfl
theorem none42 (s : St) (pre : List ByteArray) (hw : 1 ≤ s.win) : Ct 42 [] s pre (.bool false) s pre := by
  refine Ct.of h42 rfl (of_decide_eq_true (by kernel_rfl)) rfl rfl ?_
  have d1 : ((s.win : Int) == 0) = false := beq_false_of_ne (by omega)
  unfold stIn sB stC rowQ rowO rowA qB aB
  refine Wp.seq (Wp.text (kp 2 vF (WpOps.nil (thenK_at (Wp.seq (Wp.text (kp 3 (vP 0 0) (kp 4 vF (kp 5 vF (kp 6 (vP 0 0) (kp 7 (vP 0 0) (kp 8 (vP 0 5) (kp 9 (vI (St.win s)) (kp 10 vF (kp 11 vF (kp 2 vF (WpOps.nil (thenK_at (Wp.ret (endK_retn [vF] vF (by kernel_rfl) (by kernel_rfl) ?_)))))) (hop := fun _ => by_fact d1)))))))))))))))
  exact endSt 1 2 3 (by kernel_rfl) rfl (by decide) (.is rfl (by kernel_rfl) rfl rfl) (.is rfl (by kernel_rfl) rfl rfl) (.is rfl (by kernel_rfl) rfl rfl) rfl (fun _ => rfl) rfl
open Go.Fw Go.RowKit

theorem f70 : E.funcs 70 = some Try.f70 := by kernel_rfl
theorem ask70 (s : St) (pre : List ByteArray) (hA : s.ans.length ≤ 1000000) : Ct 70 [] s pre (.tuple #[]) s.ask pre := by
  refine Ct.of f70 rfl (of_decide_eq_true (by kernel_rfl)) rfl rfl ?_
  by_cases hf : s.first = true
  · rw [show s.ask = s.snd 1 0 0 nob from if_pos hf]
    have c1 := send63 s pre 1 0 0 nob (by decide) hA
    unfold stIn sB stC rowQ rowO rowA qB aB
    refine Wp.seq (Wp.text (kp 2 (vP 0 0) (kp 3 (vP 0 0) (kp 4 (vP 0 4) (kp 5 vT (WpOps.nil (thenK_at (on' (Wp.text (kp 6 (vP 0 0) (cl 7 63 [vP 0 0, Value.int .u8 1, vI 0, vI 0, Value.string (ByteArray.mk #[])] ?_)))))) (hop := fun _ => by_fact hf))))))
    refine WpCall.st 0 1 2 3 c1 (by decide) (by kernel_rfl) rfl (by kernel_rfl) (by kernel_rfl) (by kernel_rfl) rfl (fun _ => rfl) ?_
    unfold behind sB stC rowQ rowO rowA qB aB
    refine WpOps.nil (endK_norm [] (Value.tuple #[]) (by kernel_rfl) (by kernel_rfl) ?_)
    exact endSt 4 5 6 (by kernel_rfl) rfl (by decide) (.is rfl (by kernel_rfl) rfl rfl) (.is rfl (by kernel_rfl) rfl rfl) (.is rfl (by kernel_rfl) rfl rfl) rfl (fun _ => rfl) rfl
  · rw [show s.ask = s.snd 8 0 0 nob from if_neg hf]
    have hf : s.first = false := by simpa using hf
    have c1 := send63 s pre 8 0 0 nob (by decide) hA
    unfold stIn sB stC rowQ rowO rowA qB aB
    refine Wp.seq (Wp.text (kp 2 (vP 0 0) (kp 3 (vP 0 0) (kp 4 (vP 0 4) (kp 5 vF (WpOps.nil (thenK_at (off' (Wp.text (kp 8 (vP 0 0) (cl 9 63 [vP 0 0, Value.int .u8 8, vI 0, vI 0, Value.string (ByteArray.mk #[])] ?_)))))) (hop := fun _ => by_fact hf))))))
    refine WpCall.st 0 1 2 3 c1 (by decide) (by kernel_rfl) rfl (by kernel_rfl) (by kernel_rfl) (by kernel_rfl) rfl (fun _ => rfl) ?_
    unfold behind sB stC rowQ rowO rowA qB aB
    refine WpOps.nil (endK_norm [] (Value.tuple #[]) (by kernel_rfl) (by kernel_rfl) ?_)
    exact endSt 4 5 6 (by kernel_rfl) rfl (by decide) (.is rfl (by kernel_rfl) rfl rfl) (.is rfl (by kernel_rfl) rfl rfl) (.is rfl (by kernel_rfl) rfl rfl) rfl (fun _ => rfl) rfl
theorem f67 : E.funcs 67 = some Try.f67 := by kernel_rfl
theorem rise67 (s : St) (pre : List ByteArray) : Ct 67 [] s pre (.tuple #[]) (s.rise false) [] := by
  refine Ct.of f67 rfl (of_decide_eq_true (by kernel_rfl)) rfl rfl ?_
  have c1 := empty83 s pre
  unfold stIn sB stC rowQ rowO rowA qB aB
  refine Wp.seq (Wp.text (kp 2 (vP 0 0) (cl 3 83 [vP 0 0] ?_)))
  refine WpCall.st 0 1 2 3 c1 (by decide) (by kernel_rfl) rfl (by kernel_rfl) (by kernel_rfl) (by kernel_rfl) rfl (fun _ => rfl) ?_
  unfold behind sB stC rowQ rowO rowA qB aB
  refine WpOps.nil (thenK_at (Wp.text (kp 4 (vP 0 0) (kp 5 (vP 0 0) (kp 6 (vP 0 6) (cg0 (.tuple #[]) (Heap.set (Heap.alloc (Heap.alloc (Heap.alloc (Heap.set (Heap.set (Heap.set (Heap.set (heapOf [Blk.mk 73 true [vI (St.left s), vI (St.wait s), vI (St.tried s), vI (St.tries s), Value.bool (St.first s), vI (St.win s), vI (St.state s), vI (St.gen s), vI (St.sent s), vI (St.acked s), vI (St.wanted s), Value.bool (St.rej s), Value.bool (St.ren s), Value.slice (some (Addr.mk 1 (List.length pre) none)) (List.length (St.queue s)) (List.length (St.queue s)), Value.slice (some ⟨2, 0, none⟩) (List.length (St.out s)) (List.length (St.out s)), Value.slice (some ⟨3, 0, none⟩) (List.length (St.ans s)) (List.length (St.ans s))], Blk.mk 9 true (ss (pre ++ St.queue s)), Blk.mk 9 true (ss (St.out s)), Blk.mk 61 true (evl (St.ans s))]) 0 (some (Blk.mk 73 true [vI (St.left (St.emp false s)), vI (St.wait (St.emp false s)), vI (St.tried (St.emp false s)), vI (St.tries (St.emp false s)), Value.bool (St.first (St.emp false s)), vI (St.win (St.emp false s)), vI (St.state (St.emp false s)), vI (St.gen (St.emp false s)), vI (St.sent (St.emp false s)), vI (St.acked (St.emp false s)), vI (St.wanted (St.emp false s)), Value.bool (St.rej (St.emp false s)), Value.bool (St.ren (St.emp false s)), Value.slice (some ⟨4, 0, none⟩) (List.length (St.queue (St.emp false s))) (List.length (St.queue (St.emp false s))), Value.slice (some (Addr.mk (4 + 1) 0 none)) (List.length (St.out (St.emp false s))) (List.length (St.out (St.emp false s))), Value.slice (some (Addr.mk (4 + 2) 0 none)) (List.length (St.ans (St.emp false s))) (List.length (St.ans (St.emp false s)))]))) 1 none) 2 none) 3 none) (Blk.mk 9 true (ss ([] ++ St.queue (St.emp false s))))) (Blk.mk 9 true (ss (St.out (St.emp false s))))) (Blk.mk 61 true (evl (St.ans (St.emp false s))))) 0 (some (Blk.mk 73 true [vI (St.left (St.emp false s)), vI (St.wait (St.emp false s)), vI (St.tried (St.emp false s)), vI (St.tries (St.emp false s)), Value.bool (St.first (St.emp false s)), vI (St.win (St.emp false s)), vI 2, vI (St.gen (St.emp false s)), vI (St.sent (St.emp false s)), vI (St.acked (St.emp false s)), vI (St.wanted (St.emp false s)), Value.bool (St.rej (St.emp false s)), Value.bool (St.ren (St.emp false s)), Value.slice (some ⟨4, 0, none⟩) (List.length (St.queue (St.emp false s))) (List.length (St.queue (St.emp false s))), Value.slice (some (Addr.mk (4 + 1) 0 none)) (List.length (St.out (St.emp false s))) (List.length (St.out (St.emp false s))), Value.slice (some (Addr.mk (4 + 2) 0 none)) (List.length (St.ans (St.emp false s))) (List.length (St.ans (St.emp false s)))]))) ?_))))))
  refine WpOps.nil (endK_norm [] (Value.tuple #[]) (by kernel_rfl) (by kernel_rfl) ?_)
  exact endSt 4 5 6 (by kernel_rfl) rfl (by decide) (.is rfl (by kernel_rfl) rfl rfl) (.is rfl (by kernel_rfl) rfl rfl) (.is rfl (by kernel_rfl) rfl rfl) rfl (fun _ => rfl) rfl
theorem f68 : E.funcs 68 = some Try.f68 := by kernel_rfl
theorem giveUp68 (s : St) (pre : List ByteArray) (hA : s.ans.length ≤ 1000000) : Ct 68 [] s pre (.tuple #[]) (s.giv false) [] := by
  refine Ct.of f68 rfl (of_decide_eq_true (by kernel_rfl)) rfl rfl ?_
  have c1 := empty83 s pre
  have c2 := tell66 { s.emp false with state := 0, ren := false && s.ren } [] 3 nob hA
  unfold stIn sB stC rowQ rowO rowA qB aB
  refine Wp.seq (Wp.text (kp 2 (vP 0 0) (cl 3 83 [vP 0 0] ?_)))
  refine WpCall.st 0 1 2 3 c1 (by decide) (by kernel_rfl) rfl (by kernel_rfl) (by kernel_rfl) (by kernel_rfl) rfl (fun _ => rfl) ?_
  unfold behind sB stC rowQ rowO rowA qB aB
  refine WpOps.nil (thenK_at (Wp.seq (Wp.text (kp 4 (vP 0 0) (kp 5 (vP 0 0) (kp 6 (vP 0 0) (kp 7 (vP 0 6) (cg0 (.tuple #[]) (Heap.set (Heap.alloc (Heap.alloc (Heap.alloc (Heap.set (Heap.set (Heap.set (Heap.set (heapOf [Blk.mk 73 true [vI (St.left s), vI (St.wait s), vI (St.tried s), vI (St.tries s), Value.bool (St.first s), vI (St.win s), vI (St.state s), vI (St.gen s), vI (St.sent s), vI (St.acked s), vI (St.wanted s), Value.bool (St.rej s), Value.bool (St.ren s), Value.slice (some (Addr.mk 1 (List.length pre) none)) (List.length (St.queue s)) (List.length (St.queue s)), Value.slice (some ⟨2, 0, none⟩) (List.length (St.out s)) (List.length (St.out s)), Value.slice (some ⟨3, 0, none⟩) (List.length (St.ans s)) (List.length (St.ans s))], Blk.mk 9 true (ss (pre ++ St.queue s)), Blk.mk 9 true (ss (St.out s)), Blk.mk 61 true (evl (St.ans s))]) 0 (some (Blk.mk 73 true [vI (St.left (St.emp false s)), vI (St.wait (St.emp false s)), vI (St.tried (St.emp false s)), vI (St.tries (St.emp false s)), Value.bool (St.first (St.emp false s)), vI (St.win (St.emp false s)), vI (St.state (St.emp false s)), vI (St.gen (St.emp false s)), vI (St.sent (St.emp false s)), vI (St.acked (St.emp false s)), vI (St.wanted (St.emp false s)), Value.bool (St.rej (St.emp false s)), Value.bool (St.ren (St.emp false s)), Value.slice (some ⟨4, 0, none⟩) (List.length (St.queue (St.emp false s))) (List.length (St.queue (St.emp false s))), Value.slice (some (Addr.mk (4 + 1) 0 none)) (List.length (St.out (St.emp false s))) (List.length (St.out (St.emp false s))), Value.slice (some (Addr.mk (4 + 2) 0 none)) (List.length (St.ans (St.emp false s))) (List.length (St.ans (St.emp false s)))]))) 1 none) 2 none) 3 none) (Blk.mk 9 true (ss ([] ++ St.queue (St.emp false s))))) (Blk.mk 9 true (ss (St.out (St.emp false s))))) (Blk.mk 61 true (evl (St.ans (St.emp false s))))) 0 (some (Blk.mk 73 true [vI (St.left (St.emp false s)), vI (St.wait (St.emp false s)), vI (St.tried (St.emp false s)), vI (St.tries (St.emp false s)), Value.bool (St.first (St.emp false s)), vI (St.win (St.emp false s)), vI 0, vI (St.gen (St.emp false s)), vI (St.sent (St.emp false s)), vI (St.acked (St.emp false s)), vI (St.wanted (St.emp false s)), Value.bool (St.rej (St.emp false s)), Value.bool (St.ren (St.emp false s)), Value.slice (some ⟨4, 0, none⟩) (List.length (St.queue (St.emp false s))) (List.length (St.queue (St.emp false s))), Value.slice (some (Addr.mk (4 + 1) 0 none)) (List.length (St.out (St.emp false s))) (List.length (St.out (St.emp false s))), Value.slice (some (Addr.mk (4 + 2) 0 none)) (List.length (St.ans (St.emp false s))) (List.length (St.ans (St.emp false s)))]))) ?_))))))))
  refine kp 8 (vP 0 0) (kp 9 (vP 0 12) (cg0 (.tuple #[]) (Heap.set (Heap.set (Heap.alloc (Heap.alloc (Heap.alloc (Heap.set (Heap.set (Heap.set (Heap.set (heapOf [Blk.mk 73 true [vI (St.left s), vI (St.wait s), vI (St.tried s), vI (St.tries s), Value.bool (St.first s), vI (St.win s), vI (St.state s), vI (St.gen s), vI (St.sent s), vI (St.acked s), vI (St.wanted s), Value.bool (St.rej s), Value.bool (St.ren s), Value.slice (some (Addr.mk 1 (List.length pre) none)) (List.length (St.queue s)) (List.length (St.queue s)), Value.slice (some ⟨2, 0, none⟩) (List.length (St.out s)) (List.length (St.out s)), Value.slice (some ⟨3, 0, none⟩) (List.length (St.ans s)) (List.length (St.ans s))], Blk.mk 9 true (ss (pre ++ St.queue s)), Blk.mk 9 true (ss (St.out s)), Blk.mk 61 true (evl (St.ans s))]) 0 (some (Blk.mk 73 true [vI (St.left (St.emp false s)), vI (St.wait (St.emp false s)), vI (St.tried (St.emp false s)), vI (St.tries (St.emp false s)), Value.bool (St.first (St.emp false s)), vI (St.win (St.emp false s)), vI (St.state (St.emp false s)), vI (St.gen (St.emp false s)), vI (St.sent (St.emp false s)), vI (St.acked (St.emp false s)), vI (St.wanted (St.emp false s)), Value.bool (St.rej (St.emp false s)), Value.bool (St.ren (St.emp false s)), Value.slice (some ⟨4, 0, none⟩) (List.length (St.queue (St.emp false s))) (List.length (St.queue (St.emp false s))), Value.slice (some ⟨5, 0, none⟩) (List.length (St.out (St.emp false s))) (List.length (St.out (St.emp false s))), Value.slice (some ⟨6, 0, none⟩) (List.length (St.ans (St.emp false s))) (List.length (St.ans (St.emp false s)))]))) 1 none) 2 none) 3 none) (Blk.mk 9 true (ss ([] ++ St.queue (St.emp false s))))) (Blk.mk 9 true (ss (St.out (St.emp false s))))) (Blk.mk 61 true (evl (St.ans (St.emp false s))))) 0 (some (Blk.mk 73 true [vI (St.left (St.emp false s)), vI (St.wait (St.emp false s)), vI (St.tried (St.emp false s)), vI (St.tries (St.emp false s)), Value.bool (St.first (St.emp false s)), vI (St.win (St.emp false s)), vI 0, vI (St.gen (St.emp false s)), vI (St.sent (St.emp false s)), vI (St.acked (St.emp false s)), vI (St.wanted (St.emp false s)), Value.bool (St.rej (St.emp false s)), Value.bool (St.ren (St.emp false s)), Value.slice (some ⟨4, 0, none⟩) (List.length (St.queue (St.emp false s))) (List.length (St.queue (St.emp false s))), Value.slice (some ⟨5, 0, none⟩) (List.length (St.out (St.emp false s))) (List.length (St.out (St.emp false s))), Value.slice (some ⟨6, 0, none⟩) (List.length (St.ans (St.emp false s))) (List.length (St.ans (St.emp false s)))]))) 0 (some (Blk.mk 73 true [vI (St.left (St.emp false s)), vI (St.wait (St.emp false s)), vI (St.tried (St.emp false s)), vI (St.tries (St.emp false s)), Value.bool (St.first (St.emp false s)), vI (St.win (St.emp false s)), vI 0, vI (St.gen (St.emp false s)), vI (St.sent (St.emp false s)), vI (St.acked (St.emp false s)), vI (St.wanted (St.emp false s)), Value.bool (St.rej (St.emp false s)), vF, Value.slice (some ⟨4, 0, none⟩) (List.length (St.queue (St.emp false s))) (List.length (St.queue (St.emp false s))), Value.slice (some ⟨5, 0, none⟩) (List.length (St.out (St.emp false s))) (List.length (St.out (St.emp false s))), Value.slice (some ⟨6, 0, none⟩) (List.length (St.ans (St.emp false s))) (List.length (St.ans (St.emp false s)))]))) ?_))
  refine WpOps.nil (thenK_at (Wp.text (kp 10 (vP 0 0) (cl 11 66 [vP 0 0, vI 3, Value.string (ByteArray.mk #[])] ?_))))
  refine WpCall.st 0 4 5 6 c2 (by decide) (by kernel_rfl) rfl (by kernel_rfl) (by kernel_rfl) (by kernel_rfl) rfl (fun _ => rfl) ?_
  unfold behind sB stC rowQ rowO rowA qB aB
  refine WpOps.nil (endK_norm [] (Value.tuple #[]) (by kernel_rfl) (by kernel_rfl) ?_)
  exact endSt 7 8 9 (by kernel_rfl) rfl (by decide) (.is rfl (by kernel_rfl) rfl rfl) (.is rfl (by kernel_rfl) rfl rfl) (.is rfl (by kernel_rfl) rfl rfl) rfl (fun _ => rfl) rfl
theorem f62 : E.funcs 62 = some Try.f62 := by kernel_rfl
theorem begin62 (s : St) (pre : List ByteArray) (hA : s.ans.length ≤ 1000000) (hg : s.gen ≤ 255) : Ct 62 [] s pre (.tuple #[]) s.beg pre := by
  refine Ct.of f62 rfl (of_decide_eq_true (by kernel_rfl)) rfl rfl ?_
  have wg : (IntKind.i64.wrap ((s.gen : Int) + 1)).tmod 256 = ((s.gen + 1) % 256 : Nat) := by
    rw [wr _ (by omega) (by omega), Int.tmod_eq_emod_of_nonneg (by omega)]
    omega
  cases hf : s.first with
  | true =>
    have e : s.beg = ({ s with gen := (s.gen + 1) % 256, state := 1 } : St).ask.sta := by
      unfold St.beg
      rw [hf]
      rfl
    rw [e]
    have c1 := ask70 { s with gen := (s.gen + 1) % 256, state := 1 } pre hA
    have c2 := start64 ({ s with gen := (s.gen + 1) % 256, state := 1 } : St).ask pre
    clear e
    obtain ⟨s1, hs1⟩ : ∃ s1, s1 = ({ s with gen := (s.gen + 1) % 256, state := 1 } : St) := ⟨_, rfl⟩
    rw [← hs1] at c1 c2 ⊢
    unfold stIn sB stC rowQ rowO rowA qB aB
    refine Wp.seq (Wp.seq (Wp.text (kp 2 (vP 0 0) (kp 3 (vP 0 0) (kp 4 (vP 0 4) (kp 5 vT (WpOps.nil (thenK_at (on' (Wp.text (kp 6 (vP 0 0) (kp 7 (vP 0 0) (kp 8 (vP 0 0) (kp 9 (vP 0 7) (kp 10 (vI (St.gen s)) (kp 11 (vI (IntKind.wrap .i64 ((↑(St.gen s) : Int) + 1))) (kp 12 (vI (Int.tmod (IntKind.wrap .i64 ((↑(St.gen s) : Int) + 1)) 256)) (kp 13 (vP 0 0) (kp 14 (vP 0 7) (ld (.tuple #[]) (0) (Blk.mk 73 true [vI (St.left s), vI (St.wait s), vI (St.tried s), vI (St.tries s), Value.bool (St.first s), vI (St.win s), vI (St.state s), vI (Int.tmod (IntKind.wrap .i64 ((↑(St.gen s) : Int) + 1)) 256), vI (St.sent s), vI (St.acked s), vI (St.wanted s), Value.bool (St.rej s), Value.bool (St.ren s), Value.slice (some (Addr.mk 1 (List.length pre) none)) (List.length (St.queue s)) (List.length (St.queue s)), Value.slice (some ⟨2, 0, none⟩) (List.length (St.out s)) (List.length (St.out s)), Value.slice (some ⟨3, 0, none⟩) (List.length (St.ans s)) (List.length (St.ans s))]) (WpOps.nil (thenK_at (Wp.seq (Wp.text (kp 15 (vP 0 0) (kp 16 (vP 0 0) (kp 17 (vP 0 6) ?_))))))))))))))))))))) (hop := fun _ => by_fact hf)))))))
    refine ld (.tuple #[]) (0) (Blk.mk 73 true [vI (St.left s), vI (St.wait s), vI (St.tried s), vI (St.tries s), Value.bool (St.first s), vI (St.win s), vI 1, vI (Int.tmod (IntKind.wrap .i64 ((↑(St.gen s) : Int) + 1)) 256), vI (St.sent s), vI (St.acked s), vI (St.wanted s), Value.bool (St.rej s), Value.bool (St.ren s), Value.slice (some (Addr.mk 1 (List.length pre) none)) (List.length (St.queue s)) (List.length (St.queue s)), Value.slice (some ⟨2, 0, none⟩) (List.length (St.out s)) (List.length (St.out s)), Value.slice (some ⟨3, 0, none⟩) (List.length (St.ans s)) (List.length (St.ans s))]) (WpOps.nil (thenK_at (Wp.seq (Wp.text (kp 18 (vP 0 0) (cl 19 70 [vP 0 0] ?_))))))
    rw [wg]
    skip
    refine WpCall.st 0 1 2 3 c1 (by decide) (by kernel_rfl) (by subst hs1; rfl) (by subst hs1; kernel_rfl) (by subst hs1; kernel_rfl) (by subst hs1; kernel_rfl) rfl (fun _ => rfl) ?_
    unfold behind sB stC rowQ rowO rowA qB aB
    refine WpOps.nil (thenK_at (Wp.text (kp 20 (vP 0 0) (kp 21 (vP 0 0) (kp 22 (vP 0 0) (cl 23 64 [vP 0 0] ?_))))))
    refine WpCall.st 0 4 5 6 c2 (by decide) (by kernel_rfl) rfl (by kernel_rfl) (by kernel_rfl) (by kernel_rfl) rfl (fun _ => rfl) ?_
    unfold behind sB stC rowQ rowO rowA qB aB
    refine WpOps.nil (endK_norm [] (Value.tuple #[]) (by kernel_rfl) (by kernel_rfl) ?_)
    exact endSt 7 8 9 (by kernel_rfl) rfl (by decide) (.is rfl (by kernel_rfl) rfl rfl) (.is rfl (by kernel_rfl) rfl rfl) (.is rfl (by kernel_rfl) rfl rfl) rfl (fun _ => rfl) rfl
  | false =>
    have e : s.beg = ({ s with state := 1 } : St).ask.sta := by
      unfold St.beg
      rw [hf]
      rfl
    rw [e]
    have c1 := ask70 { s with state := 1 } pre hA
    have c2 := start64 ({ s with state := 1 } : St).ask pre
    clear e
    obtain ⟨s1, hs1⟩ : ∃ s1, s1 = ({ s with state := 1 } : St) := ⟨_, rfl⟩
    rw [← hs1] at c1 c2 ⊢
    unfold stIn sB stC rowQ rowO rowA qB aB
    refine Wp.seq (Wp.seq (Wp.text (kp 2 (vP 0 0) (kp 3 (vP 0 0) (kp 4 (vP 0 4) (kp 5 vF (WpOps.nil (thenK_at (off' (Wp.skip (thenK_at (Wp.seq (Wp.text (kp 15 (vP 0 0) (kp 16 (vP 0 0) (kp 17 (vP 0 6) (ld (.tuple #[]) (0) (Blk.mk 73 true [vI (St.left s), vI (St.wait s), vI (St.tried s), vI (St.tries s), Value.bool (St.first s), vI (St.win s), vI 1, vI (St.gen s), vI (St.sent s), vI (St.acked s), vI (St.wanted s), Value.bool (St.rej s), Value.bool (St.ren s), Value.slice (some (Addr.mk 1 (List.length pre) none)) (List.length (St.queue s)) (List.length (St.queue s)), Value.slice (some ⟨2, 0, none⟩) (List.length (St.out s)) (List.length (St.out s)), Value.slice (some ⟨3, 0, none⟩) (List.length (St.ans s)) (List.length (St.ans s))]) (WpOps.nil (thenK_at (Wp.seq (Wp.text (kp 18 (vP 0 0) (cl 19 70 [vP 0 0] ?_))))))))))))))))) (hop := fun _ => by_fact hf)))))))
    refine WpCall.st 0 1 2 3 c1 (by decide) (by kernel_rfl) (by subst hs1; rfl) (by subst hs1; kernel_rfl) (by subst hs1; kernel_rfl) (by subst hs1; kernel_rfl) rfl (fun _ => rfl) ?_
    unfold behind sB stC rowQ rowO rowA qB aB
    refine WpOps.nil (thenK_at (Wp.text (kp 20 (vP 0 0) (kp 21 (vP 0 0) (kp 22 (vP 0 0) (cl 23 64 [vP 0 0] ?_))))))
    refine WpCall.st 0 4 5 6 c2 (by decide) (by kernel_rfl) rfl (by kernel_rfl) (by kernel_rfl) (by kernel_rfl) rfl (fun _ => rfl) ?_
    unfold behind sB stC rowQ rowO rowA qB aB
    refine WpOps.nil (endK_norm [] (Value.tuple #[]) (by kernel_rfl) (by kernel_rfl) ?_)
    exact endSt 7 8 9 (by kernel_rfl) rfl (by decide) (.is rfl (by kernel_rfl) rfl rfl) (.is rfl (by kernel_rfl) rfl rfl) (.is rfl (by kernel_rfl) rfl rfl) rfl (fun _ => rfl) rfl
open Go.Fw Go.RowKit

def vLen (o : Option (List Value)) : Option Nat := match o with
  | Option.some [_, .slice (Option.some ⟨_, _, Option.none⟩) n _] => Option.some n
  | _ => Option.none
theorem o_appendZ {cf : CallF} {s : Slots} {h : Heap} {args : Array Operand} {tys : Array TypeId} {e size : Nat} {k : Nat} {a : Option Addr} {n c : Nat} (h0 : k = 0) (ha : vArgs (evs s args.toList) = some (a, n, c) := by kernel_rfl) (hs : vLen (evs s args.toList) = some k := by kernel_rfl) (htys : vTys E tys.toList e = true := by kernel_rfl)
    (hn : decide (n + 0 ≤ c) = true := by kernel_rfl) (he : (E.types e).map TI.size = some size := by kernel_rfl) :
    aop E cf (.call { callee := .builtin .append, args := args, argTypes := tys }) s h = some (.slice a n c, h) := by
  obtain ⟨t, u, ti, ux, hty2, g1, g2, g3, g4⟩ := vTys_eq htys
  obtain ⟨te, g5, g6⟩ := Option.map_eq_some_iff.1 he
  unfold vArgs at ha
  split at ha
  · rename_i a' n' c' xv hev
    cases ha
    rw [hev] at hs
    unfold vLen at hs
    split at hs
    · rename_i b off n2 c2 hev2
      cases hs
      cases hev2
      subst h0
      have hop : aop E cf (.call { callee := .builtin .append, args := args, argTypes := tys }) s h = aappend E t u (.slice a n c) (.slice (some ⟨b, off, none⟩) 0 c2) h := by
        simp only [aop, hev, hty2, abuiltin]
      rw [hop]
      unfold aappend
      have h1 : n + 0 ≤ c := of_decide_eq_true hn
      cases hux : ux.desc with
      | int k => exact absurd hux (g4 k)
      | _ => simp only [g1, g3, g2, g5, hux, asource, if_true, if_pos h1]
    · cases hs
  · cases ha
theorem setAll_eq (cells xs : List Value) (off : Nat) (h : off + xs.length ≤ cells.length) : setAll cells off xs = cells.take off ++ xs ++ cells.drop (off + xs.length) := by
  have hl : (cells.take off ++ xs).length = off + xs.length := by simp; omega
  apply List.ext_getElem?
  intro i
  rcases Nat.lt_or_ge i off with h1 | h1
  · rw [setAll_out _ _ _ _ (.inl h1), List.getElem?_append_left (by omega), List.getElem?_append_left (by simp; omega), List.getElem?_take, if_pos h1]
  · rcases Nat.lt_or_ge i (off + xs.length) with h2 | h2
    · rw [setAll_in _ _ _ _ h h1 h2, List.getElem?_append_left (by omega), List.getElem?_append_right (by simp; omega)]
      congr 1
      simp
      omega
    · rw [setAll_out _ _ _ _ (.inr h2), List.getElem?_append_right (by omega), List.getElem?_drop, hl]
      congr 1
      omega
theorem zeros_one (v : Value) : ∀ n, zeros [v] n = List.replicate n v
  | 0 => rfl
  | n + 1 => by
    show v :: zeros [v] n = _
    rw [zeros_one v n, List.replicate_succ]
theorem ss_rep (n : Nat) : ss (List.replicate n nob) = List.replicate n (.string { data := #[] }) := by
  unfold ss
  rw [List.map_replicate]
  rfl
theorem over3 (A B C : List Value) (K n : Nat) (hA : A.length = K) (hB : B.length ≤ n) (hC : C.length = n) : (A ++ B).take K ++ C ++ (A ++ B).drop (K + n) = A ++ C := by
  rw [List.take_append_of_le_length (by omega), List.take_of_length_le (by omega), List.drop_eq_nil_of_le (by rw [List.length_append]; omega), List.append_nil]
theorem f86 : E.funcs 86 = some Try.f86 := by kernel_rfl
set_option maxRecDepth 4000 in
theorem del86 (l : List ByteArray) (j : Nat) (hj : 0 < j) (hl : j ≤ l.length) (hm : l.length ≤ 1000000) : Lent E 86 [.slice (some ⟨0, 0, none⟩) l.length l.length, .int .i64 0, .int .i64 j] [qB l] (.slice (some ⟨0, 0, none⟩) (l.length - j) l.length) [⟨9, true, ss (l.drop j) ++ ss (List.replicate j nob)⟩] := by
  refine Lent.of f86 rfl (of_decide_eq_true (by kernel_rfl)) rfl rfl (Nat.le_refl _) rfl ?_ rfl ?_
  · simp only [List.all_cons, List.all_nil, Bool.and_true, List.all_append]
    rw [okCs_flat (ss_flat _), okCs_flat (ss_flat _)]
    rfl
  have g1 : (0 : Int) ≤ (l.length : Int) ∧ (l.length : Int) ≤ (l.length : Int) := by omega
  have g2 : (0 : Int) ≤ (j : Int) ∧ (j : Int) ≤ (l.length : Int) := by omega
  have g3 : (0 : Int) ≤ 0 ∧ (0 : Int) ≤ (j : Int) := by omega
  have g4 : (0 : Int) ≤ 0 ∧ (0 : Int) ≤ (l.length : Int) := by omega
  have d1 : ((0 : Int) == (j : Int)) = false := beq_false_of_ne (by omega)
  have g5 : (0 : Int) ≤ (j : Int) ∧ (j : Int) ≤ ((l.length : Int).toNat : Int) := by omega
  unfold qB
  have g6 : (0 : Int) ≤ (l.length : Int) ∧ (l.length : Int) ≤ ((l.length - 0 : Nat) : Int) := by omega
  have g7 : ¬ (l.length : Int).toNat - 0 = 0 := by omega
  have g8 : cellsAt (ss l) (0 + (j : Int).toNat * 1) ((l.length - (j : Int).toNat) * 1) = some (ss (l.drop j)) := by
    have hd : l = l.take j ++ l.drop j := (List.take_append_drop j l).symm
    conv =>
      lhs
      arg 1
      rw [hd, ss_app]
    exact cellsAt_off _ _ (by rw [ss_len, List.length_take]; omega) (by rw [ss_len, List.length_drop]; omega)
  have g9 : true = true ∧ 0 + (zeros [Value.string { data := #[] }] ((l.length : Int).toNat - 0)).length ≤ (ss l).length := ⟨rfl, by rw [zeros_one, List.length_replicate, ss_len]; omega⟩
  have t2 : (j : Int).toNat = j := rfl
  have t3 : (l.length : Int).toNat = l.length := rfl
  by_cases he : l.length = j
  · have h0 : l.length - (j : Int).toNat = 0 := by omega
    refine Wp.seq (Wp.text (kp 6 vN (WpOps.nil (thenK_at (Wp.seq (Wp.text (kp 8 (.slice (some ⟨0, 0, none⟩) (List.length l) (List.length l)) (kp 9 (vI 0) (kp 10 (vI j) (kp 11 (.slice (some ⟨0, 0, none⟩) (List.length l) (List.length l)) (kp 12 (vI (List.length l)) (kp 13 (.slice (some ⟨0, 0, none⟩) (Int.toNat (↑j : Int) - 0) (Int.toNat (↑(List.length l) : Int) - 0)) (WpOps.nil (thenK_at (Wp.seq (Wp.seq (Wp.text (kp 14 (vI 0) (kp 15 (vI j) (kp 16 vF (WpOps.nil (thenK_at (off' (Wp.skip (thenK_at (Wp.seq (Wp.text (kp 18 (.slice (some ⟨0, 0, none⟩) (List.length l) (List.length l)) (kp 19 (vI (List.length l)) (kp 7 (vI (List.length l)) (WpOps.nil (thenK_at (Wp.seq (Wp.region (by kernel_rfl) (kp 20 (.slice (some ⟨0, 0, none⟩) (List.length l) (List.length l)) (kp 21 (vI 0) (kp 22 (.slice (some ⟨0, 0, none⟩) 0 (List.length l - 0)) (kp 23 (.slice (some ⟨0, 0, none⟩) (List.length l) (List.length l)) (kp 24 (vI j) (kp 25 (.slice (some (Addr.mk 0 (0 + Int.toNat (↑j : Int) * 1) none)) (List.length l - Int.toNat (↑j : Int)) (List.length l - Int.toNat (↑j : Int))) ?_ (hop := fun _ => o_cutS_lo (a := (↑j : Int)) (bl := 0) (off := 0) (e := 9) (size := 1) g2)))) (hop := fun _ => o_cutS_hi (n := List.length l) (c := List.length l) (a := 0) (bl := 0) (off := 0) (e := 9) (size := 1) g4)))))))))))))))))) (hop := fun _ => by_fact d1))))))))) (hop := fun _ => o_cutS_LHM (n := List.length l) (c := List.length l) (a := 0) (b' := (↑j : Int)) (m' := (↑(List.length l) : Int)) (bl := 0) (off := 0) (e := 9) (size := 1) g1 g5 (of_decide_eq_true (by kernel_rfl)))))))))))))))
    refine kp 26 (.slice (some ⟨0, 0, none⟩) 0 (List.length l - 0)) ?_ (hop := fun _ => o_appendZ (e := 9) (size := 1) h0)
    refine kp 0 (.slice (some ⟨0, 0, none⟩) 0 (List.length l - 0)) (WpOps.nil (thenK_at (Wp.seq (Wp.text (kp 27 (.slice (some ⟨0, 0, none⟩) 0 (List.length l - 0)) (kp 28 (.slice (some ⟨0, 0, none⟩) 0 (List.length l - 0)) (kp 29 (vI (↑0 : Int)) (kp 30 (vI (List.length l)) (kp 31 (.slice (some ⟨0, 0, none⟩) (Int.toNat (↑(List.length l) : Int) - 0) (List.length l - 0 - 0)) (ld (.tuple #[]) (0) (Blk.mk 9 true (setAll (ss l) 0 (zeros [Value.string (ByteArray.mk #[])] (Int.toNat (↑(List.length l) : Int) - 0)))) (WpOps.nil (thenK_at (Wp.seq (Wp.text (kp 32 (.slice (some ⟨0, 0, none⟩) 0 (List.length l - 0)) (kp 6 (.slice (some ⟨0, 0, none⟩) 0 (List.length l - 0)) (WpOps.nil (thenK_at (Wp.ret (endK_retn [Value.slice (some (Addr.mk 0 0 none)) 0 (List.length l - 0)] (Value.slice (some (Addr.mk 0 0 none)) 0 (List.length l - 0)) (by kernel_rfl) (by kernel_rfl) ?_)))))))))) (hop := fun _ => o_clear g7 g9)) (hop := fun _ => o_cutS_LH (n := 0) (c := List.length l - 0) (a := (↑0 : Int)) (b' := (↑(List.length l) : Int)) (bl := 0) (off := 0) (e := 9) (size := 1) g6 (of_decide_eq_true (by kernel_rfl))))))))))))
    have e1 : setAll (ss l) 0 (zeros [Value.string { data := #[] }] ((l.length : Int).toNat - 0)) = ss (l.drop j) ++ ss (List.replicate j nob) := by
      rw [setAll_eq _ _ _ g9.2, zeros_one, List.length_replicate, t3, List.drop_eq_nil_of_le (by rw [ss_len]; omega), List.drop_eq_nil_of_le (by omega), ss_rep, he]
      simp [ss]
    exact ⟨[0], by decide, by kernel_rfl, ⟨⟨setAll (ss l) 0 (zeros [Value.string { data := #[] }] ((l.length : Int).toNat - 0)), by kernel_rfl, by rw [e1]; exact toldC_flat (by rw [List.all_append, ss_flat, ss_flat]; rfl)⟩, trivial⟩, .w (.un (by rw [show l.length - j = 0 by omega]; rfl) rfl)⟩
  · have h0 : ¬ l.length - (j : Int).toNat = 0 := by omega
    have h1 : 0 + (l.length - (j : Int).toNat) ≤ l.length - 0 := by omega
    have h2 : ¬ (l.length : Int).toNat - ((0 + (l.length - (j : Int).toNat) : Nat) : Int).toNat = 0 := by omega
    have h3 : true = true ∧ 0 + (ss (l.drop j)).length ≤ (ss l).length := ⟨rfl, by rw [ss_len, ss_len, List.length_drop]; omega⟩
    have h4 : (0 : Int) ≤ ((0 + (l.length - (j : Int).toNat) : Nat) : Int) ∧ ((0 + (l.length - (j : Int).toNat) : Nat) : Int) ≤ ((l.length : Int).toNat : Int) := by omega
    have hp : (ss l).length = l.length := ss_len l
    have hq : (ss (l.drop j)).length = l.length - j := by rw [ss_len, List.length_drop]
    have e2 : setAll (ss l) 0 (ss (l.drop j)) = ss (l.drop j) ++ (ss l).drop (l.length - j) := by
      rw [setAll_eq _ _ _ h3.2, hq, Nat.zero_add]
      simp
    have k1 : ((0 + (l.length - (j : Int).toNat) : Nat) : Int).toNat = l.length - j := by omega
    have h5 : true = true ∧ 0 + ((0 + (l.length - (j : Int).toNat) : Nat) : Int).toNat * 1 + (zeros [Value.string { data := #[] }] ((l.length : Int).toNat - ((0 + (l.length - (j : Int).toNat) : Nat) : Int).toNat)).length ≤ (setAll (ss l) 0 (ss (l.drop j))).length := by
      refine ⟨rfl, ?_⟩
      rw [zeros_one, List.length_replicate, e2, List.length_append, List.length_drop, k1, hq, hp, t3]
      omega
    have e3 : setAll (setAll (ss l) 0 (ss (l.drop j))) (0 + ((0 + (l.length - (j : Int).toNat) : Nat) : Int).toNat * 1) (zeros [Value.string { data := #[] }] ((l.length : Int).toNat - ((0 + (l.length - (j : Int).toNat) : Nat) : Int).toNat)) = ss (l.drop j) ++ ss (List.replicate j nob) := by
      rw [setAll_eq _ _ _ h5.2, e2, zeros_one, List.length_replicate, k1, t3, Nat.zero_add, Nat.mul_one, show l.length - (l.length - j) = j by omega, ss_rep]
      exact over3 _ _ _ _ _ hq (by rw [List.length_drop, hp]; omega) (List.length_replicate ..)
    refine Wp.seq (Wp.text (kp 6 vN (WpOps.nil (thenK_at (Wp.seq (Wp.text (kp 8 (.slice (some ⟨0, 0, none⟩) (List.length l) (List.length l)) (kp 9 (vI 0) (kp 10 (vI j) (kp 11 (.slice (some ⟨0, 0, none⟩) (List.length l) (List.length l)) (kp 12 (vI (List.length l)) (kp 13 (.slice (some ⟨0, 0, none⟩) (Int.toNat (↑j : Int) - 0) (Int.toNat (↑(List.length l) : Int) - 0)) (WpOps.nil (thenK_at (Wp.seq (Wp.seq (Wp.text (kp 14 (vI 0) (kp 15 (vI j) (kp 16 vF (WpOps.nil (thenK_at (off' (Wp.skip (thenK_at (Wp.seq (Wp.text (kp 18 (.slice (some ⟨0, 0, none⟩) (List.length l) (List.length l)) (kp 19 (vI (List.length l)) (kp 7 (vI (List.length l)) (WpOps.nil (thenK_at (Wp.seq (Wp.region (by kernel_rfl) (kp 20 (.slice (some ⟨0, 0, none⟩) (List.length l) (List.length l)) (kp 21 (vI 0) (kp 22 (.slice (some ⟨0, 0, none⟩) 0 (List.length l - 0)) (kp 23 (.slice (some ⟨0, 0, none⟩) (List.length l) (List.length l)) (kp 24 (vI j) (kp 25 (.slice (some (Addr.mk 0 (0 + Int.toNat (↑j : Int) * 1) none)) (List.length l - Int.toNat (↑j : Int)) (List.length l - Int.toNat (↑j : Int))) ?_ (hop := fun _ => o_cutS_lo (a := (↑j : Int)) (bl := 0) (off := 0) (e := 9) (size := 1) g2)))) (hop := fun _ => o_cutS_hi (n := List.length l) (c := List.length l) (a := 0) (bl := 0) (off := 0) (e := 9) (size := 1) g4)))))))))))))))))) (hop := fun _ => by_fact d1))))))))) (hop := fun _ => o_cutS_LHM (n := List.length l) (c := List.length l) (a := 0) (b' := (↑j : Int)) (m' := (↑(List.length l) : Int)) (bl := 0) (off := 0) (e := 9) (size := 1) g1 g5 (of_decide_eq_true (by kernel_rfl)))))))))))))))
    refine cg 26 (.slice (some ⟨0, 0, none⟩) (0 + (List.length l - Int.toNat (↑j : Int))) (List.length l - 0)) (Heap.set (heapOf [Blk.mk 9 true (ss l)]) 0 (some (Blk.mk 9 true (setAll (ss l) 0 (ss (List.drop j l)))))) ?_ (hop := fun _ => o_appendIn (e := 9) (0) (0) (0) _ (List.length l - 0) h0 h1 h3 (by kernel_rfl) (by kernel_rfl) (by kernel_rfl) (by kernel_rfl) (src_of (b := 0) (off := 0 + Int.toNat (↑j : Int) * 1) (hn := beq_false_of_ne h0) (hc := g8)))
    refine kp 0 (.slice (some ⟨0, 0, none⟩) (0 + (List.length l - Int.toNat (↑j : Int))) (List.length l - 0)) (WpOps.nil (thenK_at (Wp.seq (Wp.text (kp 27 (.slice (some ⟨0, 0, none⟩) (0 + (List.length l - Int.toNat (↑j : Int))) (List.length l - 0)) (kp 28 (.slice (some ⟨0, 0, none⟩) (0 + (List.length l - Int.toNat (↑j : Int))) (List.length l - 0)) (kp 29 (vI (↑(0 + (List.length l - Int.toNat (↑j : Int))) : Int)) (kp 30 (vI (List.length l)) (kp 31 (.slice (some (Addr.mk 0 (0 + Int.toNat (↑(0 + (List.length l - Int.toNat (↑j : Int))) : Int) * 1) none)) (Int.toNat (↑(List.length l) : Int) - Int.toNat (↑(0 + (List.length l - Int.toNat (↑j : Int))) : Int)) (List.length l - 0 - Int.toNat (↑(0 + (List.length l - Int.toNat (↑j : Int))) : Int))) (ld (.tuple #[]) (0) (Blk.mk 9 true (setAll (setAll (ss l) 0 (ss (List.drop j l))) (0 + Int.toNat (↑(0 + (List.length l - Int.toNat (↑j : Int))) : Int) * 1) (zeros [Value.string (ByteArray.mk #[])] (Int.toNat (↑(List.length l) : Int) - Int.toNat (↑(0 + (List.length l - Int.toNat (↑j : Int))) : Int))))) (WpOps.nil (thenK_at (Wp.seq (Wp.text (kp 32 (.slice (some ⟨0, 0, none⟩) (0 + (List.length l - Int.toNat (↑j : Int))) (List.length l - 0)) (kp 6 (.slice (some ⟨0, 0, none⟩) (0 + (List.length l - Int.toNat (↑j : Int))) (List.length l - 0)) ?_)))))) (hop := fun _ => o_clear h2 h5)) (hop := fun _ => o_cutS_LH (n := 0 + (List.length l - Int.toNat (↑j : Int))) (c := List.length l - 0) (a := (↑(0 + (List.length l - Int.toNat (↑j : Int))) : Int)) (b' := (↑(List.length l) : Int)) (bl := 0) (off := 0) (e := 9) (size := 1) g6 h4))))))))))
    refine WpOps.nil (thenK_at (Wp.ret (endK_retn [Value.slice (some (Addr.mk 0 0 none)) (0 + (List.length l - Int.toNat (↑j : Int))) (List.length l - 0)] (Value.slice (some (Addr.mk 0 0 none)) (0 + (List.length l - Int.toNat (↑j : Int))) (List.length l - 0)) (by kernel_rfl) (by kernel_rfl) ?_)))
    exact ⟨[0], by decide, by kernel_rfl, ⟨⟨setAll (setAll (ss l) 0 (ss (l.drop j))) (0 + ((0 + (l.length - (j : Int).toNat) : Nat) : Int).toNat * 1) (zeros [Value.string { data := #[] }] ((l.length : Int).toNat - ((0 + (l.length - (j : Int).toNat) : Nat) : Int).toNat)), by kernel_rfl, by rw [e3]; exact toldC_flat (by rw [List.all_append, ss_flat, ss_flat]; rfl)⟩, trivial⟩, .w (.un (by rw [show 0 + (l.length - (j : Int).toNat) = l.length - j by omega]; rfl) rfl)⟩
end Go.Proofs.Ytgefohjickhldaa.D
