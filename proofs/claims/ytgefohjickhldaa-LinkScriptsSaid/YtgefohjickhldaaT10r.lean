/- The specification's station: small methods. -/
import Derived.Test.YtgefohjickhldaaFwLem
import Derived.Test.YtgefohjickhldaaFwMat
import Derived.Test.YtgefohjickhldaaT10l
namespace Go.Proofs.Ytgefohjickhldaa.D
open Go.Fw Go.RowKit

def rC (s : St) (vq vo : Value) : List Value := [.bool true, .bool s.first, .int .i64 s.win, .int .i64 s.wait, .int .i64 s.tries, .int .i64 s.state, .int .i64 s.gen, .int .i64 s.sent, .int .i64 s.acked, .int .i64 s.wanted, .bool s.rej, .bool s.ren, vq, vo, .int .i64 s.left, .int .i64 s.tried]
def sv (l : List ByteArray) : Value := FS 9 l.length 3 (ss l).toArray
def lv (l : List Evt) : Value := FS 61 l.length 3 (evl l).toArray
def rB (s : St) : Blk := ⟨92, true, rC s (sv s.queue) (sv s.out)⟩
theorem rB_ok (s : St) : [rB s].all (fun x => x.cells.all (okC [rB s].length)) = true := rfl
theorem ty9 : ∃ ti, E.types (9 : Nat) = some ti := by
  have hi : (E.types (9 : Nat)).map TI.size = some 1 := by kernel_rfl
  obtain ⟨ti, ht, _⟩ := Option.map_eq_some_iff.1 hi
  exact ⟨ti, ht⟩
/-- A row of the specification's, at the end of a function. -/
inductive RowR (h : Heap) (l : List ByteArray) (vq : Value) : Prop
  | same : vq = sv l → RowR h l vq
  | nil : vq = .slice none 0 0 → l = [] → RowR h l vq
  | own (k n c : Nat) (cells : List Value) : vq = .slice (some ⟨k, 0, none⟩) n c → h.get k = some ⟨9, true, cells⟩ → n = l.length → cells = ss l → k ≠ 0 → RowR h l vq
theorem RowR.told {h : Heap} {l : List ByteArray} {vq : Value} (r : RowR h l vq) : ToldC E (h.less [0]) [0] 1 vq (sv l) := by
  cases r with
  | same e => subst e; exact .inl ⟨rfl, rfl⟩
  | nil e1 e2 =>
    subst e1 e2
    obtain ⟨ti, ht⟩ := ty9
    exact .inr ⟨.slice none 0 0, rfl, NilC.nil3 (e := (9 : Nat)) ht⟩
  | own k n c cells e1 e2 e3 e4 e5 =>
    subst e1 e3 e4
    refine .inr ⟨_, iceC_row (E := E) (hp := h.less [0]) (b := k) (n := l.length) (c := c) (e := 9) (size := 1) (cells := ss l) 3 (by kernel_rfl) ?_ (by rw [ss_len, Nat.mul_one]) (ss_flat l), NilC.row⟩
    show (if [0].contains k = true then none else h.get k) = _
    rw [if_neg (by simpa using e5)]
    exact e2
theorem objR {h : Heap} {s : St} {cells : List Value} {vq vo : Value} (hc : cells = rC s vq vo) (rq' : RowR h s.queue vq) (ro' : RowR h s.out vo) : All2 (ToldC E (h.less [0]) [0] 1) cells (rB s).cells := by
  subst hc
  have nn : ∀ n : Int, ToldC E (h.less [0]) [0] 1 (.int .i64 n) (.int .i64 n) := fun n => .inl ⟨rfl, rfl⟩
  have bb : ∀ n : Bool, ToldC E (h.less [0]) [0] 1 (.bool n) (.bool n) := fun n => .inl ⟨rfl, rfl⟩
  exact .cons (bb _) (.cons (bb _) (.cons (nn _) (.cons (nn _) (.cons (nn _) (.cons (nn _) (.cons (nn _) (.cons (nn _) (.cons (nn _) (.cons (nn _) (.cons (bb _) (.cons (bb _) (.cons rq'.told (.cons ro'.told (.cons (nn _) (.cons (nn _) .nil)))))))))))))))
theorem endR {h : Heap} {v v1 : Value} {s : St} {cells : List Value} {vq vo : Value} (h0 : h.get 0 = some ⟨92, true, cells⟩) (hc : cells = rC s vq vo) (rq' : RowR h s.queue vq) (ro' : RowR h s.out vo) (hv : ToldV E (h.less [0]) [0] 1 v1 v) : LentEnd E 1 v [rB s] v1 h :=
  ⟨[0], by decide, by decide, ⟨⟨_, h0, objR hc rq' ro'⟩, trivial⟩, hv⟩
/-- A list of answers, at the end. -/
inductive AnsR (h : Heap) (l : List Evt) (w : Value) : Prop
  | same : w = lv l → AnsR h l w
  | nil : w = .slice none 0 0 → l = [] → AnsR h l w
  | own (k n c : Nat) (cells : List Value) : w = .slice (some ⟨k, 0, none⟩) n c → h.get k = some ⟨61, true, cells⟩ → n = l.length → cells = evl l → k ≠ 0 → AnsR h l w
theorem AnsR.toldW {h : Heap} {l : List Evt} {w : Value} (r : AnsR h l w) : ToldW E (h.less [0]) [0] 1 w (lv l) := by
  cases r with
  | same e => subst e; exact .un rfl rfl
  | nil e1 e2 =>
    subst e1 e2
    obtain ⟨ti, ht⟩ := ty61
    exact .ice (.slice none 0 0) rfl (.c (NilC.nil3 (e := (61 : Nat)) ht))
  | own k n c cells e1 e2 e3 e4 e5 =>
    subst e1 e3 e4
    refine .ice _ (iceC_row (E := E) (hp := h.less [0]) (b := k) (n := l.length) (c := c) (e := 61) (size := 6) (cells := evl l) 3 (by kernel_rfl) ?_ (evl_len l).symm (evl_flat l)) (.c NilC.row)
    show (if [0].contains k = true then none else h.get k) = _
    rw [if_neg (by simpa using e5)]
    exact e2
theorem rC_at (s : St) {rl : List Nat} {m : Nat} : CellsOk rl m (rC s (sv s.queue) (sv s.out)) (rC s (sv s.queue) (sv s.out)) := ⟨rfl, rfl⟩
theorem WpCall.rf {f : FuncId} {args args0 : List Value} {h : Heap} {s s' : St} {v : Value} {cells : List Value} {K : Value → Heap → Prop} (c : Lent E f args0 [rB s] v [rB s']) (h0 : h.get 0 = some ⟨92, true, cells⟩) (hc : cells = rC s (sv s.queue) (sv s.out)) (ha : args = args0.map (unV [0])) (hv : unT [0] v = v) (k : K v (h.set 0 (some (rB s')))) : WpCall E f args h K := by
  subst hc
  exact WpCall.lent [0] c (by decide) ⟨⟨_, h0, rC_at s⟩, trivial⟩ ha v [rB s'] (.cons rfl .nil) hv _ rfl k
theorem f85 : E.funcs 85 = some Try.f85 := by kernel_rfl
theorem empty85 (s : St) : Lent E 85 [.pointer (some ⟨0, 0, none⟩)] [rB s] (.tuple #[]) [rB (s.emp true)] := by
  refine Lent.of f85 rfl (of_decide_eq_true (by kernel_rfl)) rfl rfl (Nat.le_refl _) rfl (rB_ok _) rfl ?_
  unfold rB rC
  refine Wp.seq (Wp.text (kp 2 (vP 0 0) (kp 3 (vP 0 0) (kp 4 (vP 0 12) (ld (.tuple #[]) (0) (Blk.mk 92 true [vT, Value.bool (St.first s), vI (St.win s), vI (St.wait s), vI (St.tries s), vI (St.state s), vI (St.gen s), vI (St.sent s), vI (St.acked s), vI (St.wanted s), Value.bool (St.rej s), Value.bool (St.ren s), vN, Value.iface 9 (Value.iface (List.length (St.out s)) (Value.iface 3 (Value.agg (List.toArray (ss (St.out s)))))), vI (St.left s), vI (St.tried s)]) (WpOps.nil (thenK_at (Wp.seq (Wp.text (kp 5 (vP 0 0) (kp 6 (vP 0 0) (kp 7 (vP 0 13) (ld (.tuple #[]) (0) (Blk.mk 92 true [vT, Value.bool (St.first s), vI (St.win s), vI (St.wait s), vI (St.tries s), vI (St.state s), vI (St.gen s), vI (St.sent s), vI (St.acked s), vI (St.wanted s), Value.bool (St.rej s), Value.bool (St.ren s), vN, vN, vI (St.left s), vI (St.tried s)]) (WpOps.nil (thenK_at (Wp.seq (Wp.text (kp 8 (vP 0 0) (kp 9 (vP 0 0) (kp 10 (vP 0 7) (ld (.tuple #[]) (0) (Blk.mk 92 true [vT, Value.bool (St.first s), vI (St.win s), vI (St.wait s), vI (St.tries s), vI (St.state s), vI (St.gen s), vI 0, vI (St.acked s), vI (St.wanted s), Value.bool (St.rej s), Value.bool (St.ren s), vN, vN, vI (St.left s), vI (St.tried s)]) ?_)))))))))))))))))))))
  refine WpOps.nil (thenK_at (Wp.seq (Wp.text (kp 11 (vP 0 0) (kp 12 (vP 0 0) (kp 13 (vP 0 8) (ld (.tuple #[]) (0) (Blk.mk 92 true [vT, Value.bool (St.first s), vI (St.win s), vI (St.wait s), vI (St.tries s), vI (St.state s), vI (St.gen s), vI 0, vI 0, vI (St.wanted s), Value.bool (St.rej s), Value.bool (St.ren s), vN, vN, vI (St.left s), vI (St.tried s)]) (WpOps.nil (thenK_at (Wp.seq (Wp.text (kp 14 (vP 0 0) (kp 15 (vP 0 0) (kp 16 (vP 0 9) (ld (.tuple #[]) (0) (Blk.mk 92 true [vT, Value.bool (St.first s), vI (St.win s), vI (St.wait s), vI (St.tries s), vI (St.state s), vI (St.gen s), vI 0, vI 0, vI 0, Value.bool (St.rej s), Value.bool (St.ren s), vN, vN, vI (St.left s), vI (St.tried s)]) (WpOps.nil (thenK_at (Wp.seq (Wp.text (kp 17 (vP 0 0) (kp 18 (vP 0 0) (kp 19 (vP 0 10) (ld (.tuple #[]) (0) (Blk.mk 92 true [vT, Value.bool (St.first s), vI (St.win s), vI (St.wait s), vI (St.tries s), vI (St.state s), vI (St.gen s), vI 0, vI 0, vI 0, vF, Value.bool (St.ren s), vN, vN, vI (St.left s), vI (St.tried s)]) ?_)))))))))))))))))))))))
  refine WpOps.nil (thenK_at (Wp.seq (Wp.text (kp 20 (vP 0 0) (kp 21 (vP 0 0) (kp 22 (vP 0 14) (ld (.tuple #[]) (0) (Blk.mk 92 true [vT, Value.bool (St.first s), vI (St.win s), vI (St.wait s), vI (St.tries s), vI (St.state s), vI (St.gen s), vI 0, vI 0, vI 0, vF, Value.bool (St.ren s), vN, vN, vI 0, vI (St.tried s)]) (WpOps.nil (thenK_at (Wp.text (kp 23 (vP 0 0) (kp 24 (vP 0 0) (kp 25 (vP 0 15) (ld (.tuple #[]) (0) (Blk.mk 92 true [vT, Value.bool (St.first s), vI (St.win s), vI (St.wait s), vI (St.tries s), vI (St.state s), vI (St.gen s), vI 0, vI 0, vI 0, vF, Value.bool (St.ren s), vN, vN, vI 0, vI 0]) (WpOps.nil (endK_norm [] (Value.tuple #[]) (by kernel_rfl) (by kernel_rfl) ?_))))))))))))))))
  exact endR (by kernel_rfl) rfl (.nil rfl rfl) (.nil rfl rfl) (.w (.un rfl rfl))
theorem f74 : E.funcs 74 = some Try.f74 := by kernel_rfl
theorem try74 (s : St) : Lent E 74 [.pointer (some ⟨0, 0, none⟩)] [rB s] (.tuple #[]) [rB s.sta] := by
  refine Lent.of f74 rfl (of_decide_eq_true (by kernel_rfl)) rfl rfl (Nat.le_refl _) rfl (rB_ok _) rfl ?_
  unfold rB rC
  refine Wp.seq (Wp.text (kp 2 (vP 0 0) (kp 3 (vP 0 0) (kp 4 (vP 0 15) (ld (.tuple #[]) (0) (Blk.mk 92 true [vT, Value.bool (St.first s), vI (St.win s), vI (St.wait s), vI (St.tries s), vI (St.state s), vI (St.gen s), vI (St.sent s), vI (St.acked s), vI (St.wanted s), Value.bool (St.rej s), Value.bool (St.ren s), Value.iface 9 (Value.iface (List.length (St.queue s)) (Value.iface 3 (Value.agg (List.toArray (ss (St.queue s)))))), Value.iface 9 (Value.iface (List.length (St.out s)) (Value.iface 3 (Value.agg (List.toArray (ss (St.out s)))))), vI (St.left s), vI 1]) (WpOps.nil (thenK_at (Wp.text (kp 5 (vP 0 0) (kp 6 (vP 0 0) (kp 7 (vP 0 0) (kp 8 (vP 0 3) (kp 9 (vI (St.wait s)) (kp 10 (vP 0 0) (kp 11 (vP 0 14) (ld (.tuple #[]) (0) (Blk.mk 92 true [vT, Value.bool (St.first s), vI (St.win s), vI (St.wait s), vI (St.tries s), vI (St.state s), vI (St.gen s), vI (St.sent s), vI (St.acked s), vI (St.wanted s), Value.bool (St.rej s), Value.bool (St.ren s), Value.iface 9 (Value.iface (List.length (St.queue s)) (Value.iface 3 (Value.agg (List.toArray (ss (St.queue s)))))), Value.iface 9 (Value.iface (List.length (St.out s)) (Value.iface 3 (Value.agg (List.toArray (ss (St.out s)))))), vI (St.wait s), vI 1]) ?_))))))))))))))))
  refine WpOps.nil (endK_norm [] (Value.tuple #[]) (by kernel_rfl) (by kernel_rfl) ?_)
  exact endR (by kernel_rfl) rfl (.same rfl) (.same rfl) (.w (.un rfl rfl))
theorem f77 : E.funcs 77 = some Try.f77 := by kernel_rfl
theorem up77 (s : St) : Lent E 77 [.pointer (some ⟨0, 0, none⟩)] [rB s] (.tuple #[]) [rB (s.rise true)] := by
  have c1 := empty85 s
  refine Lent.of f77 rfl (of_decide_eq_true (by kernel_rfl)) rfl rfl (Nat.le_refl _) rfl (rB_ok _) rfl ?_
  unfold rB rC at *
  refine Wp.seq (Wp.text (kp 2 (vP 0 0) (cl 3 85 [vP 0 0] (WpCall.rf c1 (by kernel_rfl) rfl (by kernel_rfl) (by kernel_rfl) (WpOps.nil (thenK_at (Wp.text (kp 4 (vP 0 0) (kp 5 (vP 0 0) (kp 6 (vP 0 5) (ld (.tuple #[]) (0) (Blk.mk 92 true [vT, Value.bool (St.first (St.emp true s)), vI (St.win (St.emp true s)), vI (St.wait (St.emp true s)), vI (St.tries (St.emp true s)), vI 2, vI (St.gen (St.emp true s)), vI (St.sent (St.emp true s)), vI (St.acked (St.emp true s)), vI (St.wanted (St.emp true s)), Value.bool (St.rej (St.emp true s)), Value.bool (St.ren (St.emp true s)), Value.iface 9 (Value.iface (List.length (St.queue (St.emp true s))) (Value.iface 3 (Value.agg (List.toArray (ss (St.queue (St.emp true s))))))), Value.iface 9 (Value.iface (List.length (St.out (St.emp true s))) (Value.iface 3 (Value.agg (List.toArray (ss (St.out (St.emp true s))))))), vI (St.left (St.emp true s)), vI (St.tried (St.emp true s))]) (WpOps.nil (endK_norm [] (Value.tuple #[]) (by kernel_rfl) (by kernel_rfl) ?_)))))))))))))
  exact endR (by kernel_rfl) rfl (.same rfl) (.same rfl) (.w (.un rfl rfl))
theorem ev_at (l : List Evt) : cellsAt (evl l) 0 ((0 + l.length) * 6) = some (evl l) := by
  have h := evl_len l
  rw [cellsAt_all _ (by omega)]
theorem evl_snoc (l : List Evt) (e : Evt) : evl (l ++ [e]) = evl l ++ evc e := by simp [evl]
theorem WpCall.nilA {f : FuncId} {args args0 : List Value} {h : Heap} {K : Value → Heap → Prop} (hn : All2 (NilA E) args0 args) (w : WpCall E f args h K) : WpCall E f args0 h K := by
  obtain ⟨v, h', c, k⟩ := w
  exact ⟨v, h', fun ok => ⟨(c ok).1, fun μ base w args' R hb ha => (c ok).2 μ base w args' R hb (All2.trans' (R := VRel E h μ w.heap) (S := NilA E) (T := VRel E h μ w.heap) (fun _ _ _ h1 h2 => h1.nilA h2) ha hn)⟩, k⟩
theorem nil61 : NilA E (.slice none 0 0) (lv []) := by
  obtain ⟨ti, ht⟩ := ty61
  exact .v (.w (.c (NilC.nil3 (e := (61 : Nat)) ht)))
theorem WpCall.nil0 {f : FuncId} {rest : List Value} {h : Heap} {K : Value → Heap → Prop} (w : WpCall E f (lv [] :: rest) h K) : WpCall E f (.slice none 0 0 :: rest) h K := WpCall.nilA (.cons nil61 (NilA.refls _)) w
theorem WpCall.nil1 {f : FuncId} {p : Value} {rest : List Value} {h : Heap} {K : Value → Heap → Prop} (w : WpCall E f (p :: lv [] :: rest) h K) : WpCall E f (p :: .slice none 0 0 :: rest) h K := WpCall.nilA (.cons (NilA.rfl' _) (.cons nil61 (NilA.refls _))) w
theorem f73 : E.funcs 73 = some Try.f73 := by kernel_rfl
theorem put73 (s : St) (k n r : Nat) (d : ByteArray) (hA : s.ans.length ≤ 100000) : Lent E 73 [.pointer (some ⟨0, 0, none⟩), lv s.ans, .int .i64 k, .int .i64 n, .int .i64 r, .string d] [rB s] (lv (s.snd k n r d).ans) [rB s] := by
  obtain ⟨e, c1⟩ := frame_fb k s.gen n r d
  have c2 := frame11 k s.gen n r d
  rw [c1] at c2
  refine Lent.of f73 rfl (of_decide_eq_true (by kernel_rfl)) rfl rfl (Nat.le_refl _) rfl (rB_ok _) rfl ?_
  unfold rB rC
  by_cases h0 : s.ans = []
  · rw [h0]
    show Wp 1 E _ _ (slots0 [.pointer (some ⟨0, 0, none⟩), FS 61 0 3 #[], .int .i64 k, .int .i64 n, .int .i64 r, .string d]) _ _
    refine Wp.seq (Wp.text (kp 12 vN (WpOps.nil (thenK_at (Wp.seq (Wp.text (kp 16 (vI k) (kp 17 (vP 0 0) (kp 18 (vP 0 0) (kp 19 (vP 0 6) (kp 20 (vI (St.gen s)) (kp 21 (vI n) (kp 22 (vI r) (kp 23 (.string d) (fr 24 11 [vI k, vI (St.gen s), vI n, vI r, Value.string d] (WpFun.of (c2) (kp 15 (.tuple #[Value.string (fb k (St.gen s) n r d), vI e]) (kp 25 (.string (fb k (St.gen s) n r d)) (kp 26 (vI e) (kp 13 (.string (fb k (St.gen s) n r d)) (kp 14 (vI e) (WpOps.nil (thenK_at (Wp.seq (Wp.text (md 27 (.slice (some ⟨1, 0, none⟩) 0 0) (Blk.mk 61 true []) (kp 28 (.iface 61 (Value.iface 0 (Value.iface 3 (Value.agg #[])))) (kp 29 (.slice (some ⟨1, 0, none⟩) 0 0) (kp 30 (.string (fb k (St.gen s) n r d)) (kp 31 (.agg #[vI 1, vI 0, vI 0, vI 0, vI 0, Value.string (fb k (St.gen s) n r d)]) (md 32 (.slice (some ⟨2, 0, none⟩) 1 1) (Blk.mk 61 true [vI 1, vI 0, vI 0, vI 0, vI 0, Value.string (fb k (St.gen s) n r d)]) (ra 33 (.slice (some ⟨3, 0, none⟩) 1 1) (1) (Blk.mk 61 true [vI 1, vI 0, vI 0, vI 0, vI 0, Value.string (fb k (St.gen s) n r d)]) (kp 12 (.slice (some ⟨3, 0, none⟩) 1 1) (WpOps.nil (thenK_at (Wp.ret (endK_retn [Value.slice (some (Addr.mk 3 0 none)) 1 1] (Value.slice (some (Addr.mk 3 0 none)) 1 1) (by kernel_rfl) (by kernel_rfl) ?_)))))))))))))))))))))))))))))))))))))
    exact endR (by kernel_rfl) rfl (.same rfl) (.same rfl) (.w (AnsR.own 3 1 1 _ rfl (by kernel_rfl) (by simp [St.snd, h0]) (by unfold St.snd; rw [h0]) (by decide)).toldW)
  · have hp : 0 < s.ans.length := List.length_pos_iff.2 h0
    have q1 : ¬ 0 + s.ans.length ≤ 0 := by omega
    have q2 : 1 ≤ 56 ∧ (0 + s.ans.length) * 56 ≤ 140737488355328 ∧ 6 = 6 ∧ 0 + s.ans.length ≤ 9223372036854775807 := by omega
    have q3 : ¬ 0 + s.ans.length + 1 ≤ 0 + s.ans.length := by omega
    have q4 : 1 ≤ 56 ∧ (0 + s.ans.length + 1) * 56 ≤ 140737488355328 ∧ 6 = 6 ∧ 0 + s.ans.length + 1 ≤ 9223372036854775807 := by omega
    have q5 := ev_at s.ans
    unfold lv
    refine Wp.seq (Wp.text (kp 12 vN (WpOps.nil (thenK_at (Wp.seq (Wp.text (kp 16 (vI k) (kp 17 (vP 0 0) (kp 18 (vP 0 0) (kp 19 (vP 0 6) (kp 20 (vI (St.gen s)) (kp 21 (vI n) (kp 22 (vI r) (kp 23 (.string d) (fr 24 11 [vI k, vI (St.gen s), vI n, vI r, Value.string d] (WpFun.of (c2) (kp 15 (.tuple #[Value.string (fb k (St.gen s) n r d), vI e]) (kp 25 (.string (fb k (St.gen s) n r d)) (kp 26 (vI e) (kp 13 (.string (fb k (St.gen s) n r d)) (kp 14 (vI e) (WpOps.nil (thenK_at (Wp.seq (Wp.text (md 27 (.slice (some ⟨1, 0, none⟩) 0 0) (Blk.mk 61 true []) (kp 28 (lv (St.ans s)) ?_)))))))))))))))))))))))))))
    refine ra 29 (.slice (some ⟨2, 0, none⟩) (0 + List.length (St.ans s)) (0 + List.length (St.ans s))) (1) (Blk.mk 61 true ([] ++ Array.toList (List.toArray (evl (St.ans s))))) ?_ (hop := fun _ => o_append (e := 61) (1) (0) (0) _ (0) q1 q2)
    refine kp 30 (.string (fb k (St.gen s) n r d)) (kp 31 (.agg #[vI 1, vI 0, vI 0, vI 0, vI 0, Value.string (fb k (St.gen s) n r d)]) (md 32 (.slice (some ⟨3, 0, none⟩) 1 1) (Blk.mk 61 true [vI 1, vI 0, vI 0, vI 0, vI 0, Value.string (fb k (St.gen s) n r d)]) ?_))
    refine ra 33 (.slice (some ⟨4, 0, none⟩) (0 + List.length (St.ans s) + 1) (0 + List.length (St.ans s) + 1)) (2) (Blk.mk 61 true (evl (St.ans s) ++ [Value.int .i64 1, Value.int .i64 0, Value.int .i64 0, Value.int .i64 0, Value.int .i64 0, Value.string (fb k (St.gen s) n r d)])) ?_ (hop := fun _ => o_append (e := 61) (2) (0) (0 + List.length (St.ans s)) _ (0 + List.length (St.ans s)) q3 q4 q5)
    refine kp 12 (.slice (some ⟨4, 0, none⟩) (0 + List.length (St.ans s) + 1) (0 + List.length (St.ans s) + 1)) (WpOps.nil (thenK_at (Wp.ret (endK_retn [Value.slice (some (Addr.mk 4 0 none)) (0 + List.length (St.ans s) + 1) (0 + List.length (St.ans s) + 1)] (Value.slice (some (Addr.mk 4 0 none)) (0 + List.length (St.ans s) + 1) (0 + List.length (St.ans s) + 1)) (by kernel_rfl) (by kernel_rfl) ?_))))
    exact endR (by kernel_rfl) rfl (.same rfl) (.same rfl) (.w (AnsR.own 4 (0 + s.ans.length + 1) (0 + s.ans.length + 1) _ rfl (by kernel_rfl) (by rw [Nat.zero_add]; exact (St.snd_n (s := s)).symm) (evl_snoc _ _).symm (by decide)).toldW)
theorem lv_ice (l : List Evt) {h : Heap} : iceV E h (lv l) = some (lv l) := by
  show iceC E h 4 (lv l) = _
  exact flat_ice rfl 4
/-- A list of answers, at the end of a plain function. -/
theorem AnsF {h : Heap} {k n c : Nat} {l : List Evt} {w : Value} (e1 : w = .slice (some ⟨k, 0, none⟩) n c) (e2 : h.get k = some ⟨61, true, evl l⟩) (e3 : n = l.length) : ∃ u0, iceV E h w = some u0 ∧ NilV E u0 (lv l) := by
  subst e1 e3
  exact ⟨_, iceC_row (E := E) (hp := h) (b := k) (n := l.length) (c := c) (e := 61) (size := 6) (cells := evl l) 3 (by kernel_rfl) e2 (evl_len l).symm (evl_flat l), .w (.c NilC.row)⟩
theorem f76 : E.funcs 76 = some Try.f76 := by kernel_rfl
theorem tellL (l : List Evt) (k : Nat) (d : ByteArray) (hA : l.length ≤ 100000) : Fun E 76 [lv l, .int .i64 k, .string d] (lv (l ++ [⟨0, k, d⟩])) := by
  refine Fun.ofN f76 rfl (of_decide_eq_true (by kernel_rfl)) (lv_ice _) ?_
  by_cases h0 : l = []
  · subst h0
    show Wp 0 E _ _ (slots0 [FS 61 0 3 #[], .int .i64 k, .string d]) _ _
    refine Wp.seq (Wp.text (kp 6 vN (WpOps.nil (thenK_at (Wp.seq (Wp.text (md 7 (.slice (some ⟨0, 0, none⟩) 0 0) (Blk.mk 61 true []) (kp 8 (.iface 61 (Value.iface 0 (Value.iface 3 (Value.agg #[])))) (kp 9 (.slice (some ⟨0, 0, none⟩) 0 0) (kp 10 (vI k) (kp 11 (.string d) (kp 12 (.agg #[vI 0, vI k, vI 0, vI 0, vI 0, Value.string d]) (md 13 (.slice (some ⟨1, 0, none⟩) 1 1) (Blk.mk 61 true [vI 0, vI k, vI 0, vI 0, vI 0, Value.string d]) (ra 14 (.slice (some ⟨2, 0, none⟩) 1 1) (0) (Blk.mk 61 true [vI 0, vI k, vI 0, vI 0, vI 0, Value.string d]) (kp 6 (.slice (some ⟨2, 0, none⟩) 1 1) (WpOps.nil (thenK_at (Wp.ret (endK_retn [Value.slice (some (Addr.mk 2 0 none)) 1 1] (Value.slice (some (Addr.mk 2 0 none)) 1 1) (by kernel_rfl) (by kernel_rfl) ?_)))))))))))))))))))
    exact AnsF (k := 2) (n := 1) (c := 1) rfl (by kernel_rfl) rfl
  · have hp : 0 < l.length := List.length_pos_iff.2 h0
    have q1 : ¬ 0 + l.length ≤ 0 := by omega
    have q2 : 1 ≤ 56 ∧ (0 + l.length) * 56 ≤ 140737488355328 ∧ 6 = 6 ∧ 0 + l.length ≤ 9223372036854775807 := by omega
    have q3 : ¬ 0 + l.length + 1 ≤ 0 + l.length := by omega
    have q4 : 1 ≤ 56 ∧ (0 + l.length + 1) * 56 ≤ 140737488355328 ∧ 6 = 6 ∧ 0 + l.length + 1 ≤ 9223372036854775807 := by omega
    have q5 := ev_at l
    unfold lv
    refine Wp.seq (Wp.text (kp 6 vN (WpOps.nil (thenK_at (Wp.seq (Wp.text (md 7 (.slice (some ⟨0, 0, none⟩) 0 0) (Blk.mk 61 true []) (kp 8 (lv l) ?_))))))))
    refine ra 9 (.slice (some ⟨1, 0, none⟩) (0 + List.length l) (0 + List.length l)) (0) (Blk.mk 61 true ([] ++ Array.toList (List.toArray (evl l)))) ?_ (hop := fun _ => o_append (e := 61) (0) (0) (0) _ (0) q1 q2)
    refine kp 10 (vI k) (kp 11 (.string d) (kp 12 (.agg #[vI 0, vI k, vI 0, vI 0, vI 0, Value.string d]) (md 13 (.slice (some ⟨2, 0, none⟩) 1 1) (Blk.mk 61 true [vI 0, vI k, vI 0, vI 0, vI 0, Value.string d]) ?_)))
    refine ra 14 (.slice (some ⟨3, 0, none⟩) (0 + List.length l + 1) (0 + List.length l + 1)) (1) (Blk.mk 61 true (evl l ++ [Value.int .i64 0, Value.int .i64 k, Value.int .i64 0, Value.int .i64 0, Value.int .i64 0, Value.string d])) ?_ (hop := fun _ => o_append (e := 61) (1) (0) (0 + List.length l) _ (0 + List.length l) q3 q4 q5)
    refine kp 6 (.slice (some ⟨3, 0, none⟩) (0 + List.length l + 1) (0 + List.length l + 1)) (WpOps.nil (thenK_at (Wp.ret (endK_retn [Value.slice (some (Addr.mk 3 0 none)) (0 + List.length l + 1) (0 + List.length l + 1)] (Value.slice (some (Addr.mk 3 0 none)) (0 + List.length l + 1) (0 + List.length l + 1)) (by kernel_rfl) (by kernel_rfl) ?_))))
    exact AnsF (k := 3) (n := 0 + l.length + 1) (c := 0 + l.length + 1) rfl (by rw [evl_snoc]; kernel_rfl) (by simp)
theorem tell76 (s : St) (k : Nat) (d : ByteArray) (hA : s.ans.length ≤ 100000) : Fun E 76 [lv s.ans, .int .i64 k, .string d] (lv (s.tel k d).ans) := tellL s.ans k d hA
theorem f78 : E.funcs 78 = some Try.f78 := by kernel_rfl
theorem quit78 (s : St) (hA : s.ans.length ≤ 100000) : Lent E 78 [.pointer (some ⟨0, 0, none⟩), lv s.ans] [rB s] (lv (s.giv true).ans) [rB (s.giv true)] := by
  have c1 := empty85 s
  have c2 := tell76 s 3 nob hA
  unfold lv at c2
  refine Lent.of f78 rfl (of_decide_eq_true (by kernel_rfl)) rfl rfl (Nat.le_refl _) rfl (rB_ok _) rfl ?_
  unfold rB rC sv
  try unfold lv
  refine Wp.seq (Wp.text (kp 4 vN (WpOps.nil (thenK_at (Wp.seq (Wp.text (kp 5 (vP 0 0) (cl 6 85 [vP 0 0] (WpCall.rf c1 (by kernel_rfl) rfl (by kernel_rfl) (by kernel_rfl) (WpOps.nil (thenK_at (Wp.seq (Wp.text (kp 7 (vP 0 0) (kp 8 (vP 0 0) (kp 9 (vP 0 5) (ld (.tuple #[]) (0) (Blk.mk 92 true [vT, Value.bool (St.first (St.emp true s)), vI (St.win (St.emp true s)), vI (St.wait (St.emp true s)), vI (St.tries (St.emp true s)), vI 0, vI (St.gen (St.emp true s)), vI (St.sent (St.emp true s)), vI (St.acked (St.emp true s)), vI (St.wanted (St.emp true s)), Value.bool (St.rej (St.emp true s)), Value.bool (St.ren (St.emp true s)), Value.iface 9 (Value.iface (List.length (St.queue (St.emp true s))) (Value.iface 3 (Value.agg (List.toArray (ss (St.queue (St.emp true s))))))), Value.iface 9 (Value.iface (List.length (St.out (St.emp true s))) (Value.iface 3 (Value.agg (List.toArray (ss (St.out (St.emp true s))))))), vI (St.left (St.emp true s)), vI (St.tried (St.emp true s))]) (WpOps.nil (thenK_at (Wp.seq (Wp.text (kp 10 (lv (St.ans s)) (cl 11 76 [Value.iface 61 (Value.iface (List.length (St.ans s)) (Value.iface 3 (Value.agg (List.toArray (evl (St.ans s)))))), vI 3, Value.string (ByteArray.mk #[])] ?_)))))))))))))))))))))))
  refine WpCall.consume [0] (c2) (by kernel_rfl) (by kernel_rfl) ?_
  refine kp 4 (lv (St.ans (St.tel 3 nob s))) (WpOps.nil (thenK_at (Wp.ret (endK_retn [Value.iface 61 (Value.iface (List.length (St.ans (St.tel 3 nob s))) (Value.iface 3 (Value.agg (List.toArray (evl (St.ans (St.tel 3 nob s)))))))] (lv (St.ans (St.tel 3 nob s))) (by kernel_rfl) (by kernel_rfl) ?_))))
  exact endR (by kernel_rfl) rfl (.same rfl) (.same rfl) (.w (.un rfl rfl))
theorem f72 : E.funcs 72 = some Try.f72 := by kernel_rfl
theorem start72 (s : St) (hA : s.ans.length ≤ 100000) (hg : s.gen ≤ 255) : Lent E 72 [.pointer (some ⟨0, 0, none⟩), lv s.ans] [rB s] (lv s.beg.ans) [rB s.beg] := by
  have wg : (IntKind.i64.wrap ((s.gen : Int) + 1)).tmod 256 = ((s.gen + 1) % 256 : Nat) := by
    rw [wr _ (by omega) (by omega), Int.tmod_eq_emod_of_nonneg (by omega)]
    omega
  cases hf : s.first with
  | true =>
    obtain ⟨s1, hs1⟩ : ∃ s1, s1 = ({ s with gen := (s.gen + 1) % 256, state := 1 } : St) := ⟨_, rfl⟩
    have e : s.beg = (s1.snd 1 0 0 nob).sta := by
      subst hs1
      unfold St.beg St.ask
      rw [hf]
      rfl
    rw [e]
    have c1 := put73 s1 1 0 0 nob (by subst hs1; exact hA)
    have c2 := try74 (s1.snd 1 0 0 nob)
    clear e
    refine Lent.of f72 rfl (of_decide_eq_true (by kernel_rfl)) rfl rfl (Nat.le_refl _) rfl (rB_ok _) rfl ?_
    unfold rB rC sv
    try unfold lv
    refine Wp.seq (Wp.text (kp 4 vN (WpOps.nil (thenK_at (Wp.seq (Wp.text (kp 5 (vP 0 0) (kp 6 (vP 0 0) (kp 7 (vP 0 5) (ld (.tuple #[]) (0) (Blk.mk 92 true [vT, Value.bool (St.first s), vI (St.win s), vI (St.wait s), vI (St.tries s), vI 1, vI (St.gen s), vI (St.sent s), vI (St.acked s), vI (St.wanted s), Value.bool (St.rej s), Value.bool (St.ren s), Value.iface 9 (Value.iface (List.length (St.queue s)) (Value.iface 3 (Value.agg (List.toArray (ss (St.queue s)))))), Value.iface 9 (Value.iface (List.length (St.out s)) (Value.iface 3 (Value.agg (List.toArray (ss (St.out s)))))), vI (St.left s), vI (St.tried s)]) (WpOps.nil (thenK_at (Wp.seq (Wp.seq (Wp.text (kp 8 (vP 0 0) (kp 9 (vP 0 0) (kp 10 (vP 0 1) (kp 11 vT (WpOps.nil (thenK_at (on' (Wp.seq (Wp.text (kp 12 (vP 0 0) (kp 13 (vP 0 0) (kp 14 (vP 0 0) (kp 15 (vP 0 6) (kp 16 (vI (St.gen s)) (kp 17 (vI (IntKind.wrap .i64 ((↑(St.gen s) : Int) + 1))) (kp 18 (vI (Int.tmod (IntKind.wrap .i64 ((↑(St.gen s) : Int) + 1)) 256)) (kp 19 (vP 0 0) (kp 20 (vP 0 6) ?_)))))))))))))) (hop := fun _ => by_fact hf))))))))))))))))))))
    refine ld (.tuple #[]) (0) (Blk.mk 92 true [vT, Value.bool (St.first s), vI (St.win s), vI (St.wait s), vI (St.tries s), vI 1, vI (Int.tmod (IntKind.wrap .i64 ((↑(St.gen s) : Int) + 1)) 256), vI (St.sent s), vI (St.acked s), vI (St.wanted s), Value.bool (St.rej s), Value.bool (St.ren s), Value.iface 9 (Value.iface (List.length (St.queue s)) (Value.iface 3 (Value.agg (List.toArray (ss (St.queue s)))))), Value.iface 9 (Value.iface (List.length (St.out s)) (Value.iface 3 (Value.agg (List.toArray (ss (St.out s)))))), vI (St.left s), vI (St.tried s)]) (WpOps.nil (thenK_at (Wp.text (kp 21 (vP 0 0) (kp 22 (lv (St.ans s)) (cl 23 73 [vP 0 0, Value.iface 61 (Value.iface (List.length (St.ans s)) (Value.iface 3 (Value.agg (List.toArray (evl (St.ans s)))))), vI 1, vI 0, vI 0, Value.string (ByteArray.mk #[])] ?_))))))
    rw [wg]
    skip
    refine WpCall.rf c1 (by kernel_rfl) (by subst hs1; rfl) (by subst hs1; rfl) rfl ?_
    unfold rB rC sv
    try unfold lv
    refine kp 1 (lv (St.ans (St.snd 1 0 0 nob s1))) (WpOps.nil (thenK_at (Wp.seq (Wp.text (kp 27 (vP 0 0) (cl 28 74 [vP 0 0] (WpCall.rf c2 (by kernel_rfl) rfl (by kernel_rfl) (by kernel_rfl) (WpOps.nil (thenK_at (Wp.seq (Wp.text (kp 29 (lv (St.ans (St.snd 1 0 0 nob s1))) (kp 4 (lv (St.ans (St.snd 1 0 0 nob s1))) (WpOps.nil (thenK_at (Wp.ret (endK_retn [Value.iface 61 (Value.iface (List.length (St.ans (St.snd 1 0 0 nob s1))) (Value.iface 3 (Value.agg (List.toArray (evl (St.ans (St.snd 1 0 0 nob s1)))))))] (lv (St.ans (St.snd 1 0 0 nob s1))) (by kernel_rfl) (by kernel_rfl) ?_)))))))))))))))))
    exact endR (by kernel_rfl) rfl (.same rfl) (.same rfl) (.w (.un rfl rfl))
  | false =>
    obtain ⟨s1, hs1⟩ : ∃ s1, s1 = ({ s with state := 1 } : St) := ⟨_, rfl⟩
    have e : s.beg = (s1.snd 8 0 0 nob).sta := by
      subst hs1
      unfold St.beg St.ask
      rw [hf]
      rfl
    rw [e]
    have c1 := put73 s1 8 0 0 nob (by subst hs1; exact hA)
    have c2 := try74 (s1.snd 8 0 0 nob)
    clear e
    refine Lent.of f72 rfl (of_decide_eq_true (by kernel_rfl)) rfl rfl (Nat.le_refl _) rfl (rB_ok _) rfl ?_
    unfold rB rC sv
    try unfold lv
    refine Wp.seq (Wp.text (kp 4 vN (WpOps.nil (thenK_at (Wp.seq (Wp.text (kp 5 (vP 0 0) (kp 6 (vP 0 0) (kp 7 (vP 0 5) (ld (.tuple #[]) (0) (Blk.mk 92 true [vT, Value.bool (St.first s), vI (St.win s), vI (St.wait s), vI (St.tries s), vI 1, vI (St.gen s), vI (St.sent s), vI (St.acked s), vI (St.wanted s), Value.bool (St.rej s), Value.bool (St.ren s), Value.iface 9 (Value.iface (List.length (St.queue s)) (Value.iface 3 (Value.agg (List.toArray (ss (St.queue s)))))), Value.iface 9 (Value.iface (List.length (St.out s)) (Value.iface 3 (Value.agg (List.toArray (ss (St.out s)))))), vI (St.left s), vI (St.tried s)]) (WpOps.nil (thenK_at (Wp.seq (Wp.seq (Wp.text (kp 8 (vP 0 0) (kp 9 (vP 0 0) (kp 10 (vP 0 1) (kp 11 vF (WpOps.nil (thenK_at (off' (Wp.text (kp 24 (vP 0 0) (kp 25 (lv (St.ans s)) (cl 26 73 [vP 0 0, Value.iface 61 (Value.iface (List.length (St.ans s)) (Value.iface 3 (Value.agg (List.toArray (evl (St.ans s)))))), vI 8, vI 0, vI 0, Value.string (ByteArray.mk #[])] ?_))))))) (hop := fun _ => by_fact hf))))))))))))))))))))
    refine WpCall.rf c1 (by kernel_rfl) (by subst hs1; rfl) (by subst hs1; rfl) rfl ?_
    unfold rB rC sv
    try unfold lv
    refine kp 1 (lv (St.ans (St.snd 8 0 0 nob s1))) (WpOps.nil (thenK_at (Wp.seq (Wp.text (kp 27 (vP 0 0) (cl 28 74 [vP 0 0] (WpCall.rf c2 (by kernel_rfl) rfl (by kernel_rfl) (by kernel_rfl) (WpOps.nil (thenK_at (Wp.seq (Wp.text (kp 29 (lv (St.ans (St.snd 8 0 0 nob s1))) (kp 4 (lv (St.ans (St.snd 8 0 0 nob s1))) (WpOps.nil (thenK_at (Wp.ret (endK_retn [Value.iface 61 (Value.iface (List.length (St.ans (St.snd 8 0 0 nob s1))) (Value.iface 3 (Value.agg (List.toArray (evl (St.ans (St.snd 8 0 0 nob s1)))))))] (lv (St.ans (St.snd 8 0 0 nob s1))) (by kernel_rfl) (by kernel_rfl) ?_)))))))))))))))))
    exact endR (by kernel_rfl) rfl (.same rfl) (.same rfl) (.w (.un rfl rfl))
end Go.Proofs.Ytgefohjickhldaa.D
