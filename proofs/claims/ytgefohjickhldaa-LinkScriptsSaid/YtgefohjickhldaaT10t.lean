/- The specification's station: a frame comes; its user. -/
import Derived.Test.YtgefohjickhldaaFwLem
import Derived.Test.YtgefohjickhldaaFwMat
import Derived.Test.YtgefohjickhldaaFwTold
import Derived.Test.YtgefohjickhldaaT10s
namespace Go.Proofs.Ytgefohjickhldaa.D
open Go.Fw Go.RowKit

theorem f75 : E.funcs 75 = some Try.f75 := by kernel_rfl
theorem set75 (s : St) (g : Nat) (ha : s.ans = []) : Lent E 75 [.pointer (some ⟨0, 0, none⟩), .int .i64 g] [rB s] (lv (s.setf true g).ans) [rB (s.setf true g)] := by
  have hA : s.ans.length = 0 := by rw [ha]; rfl
  unfold St.setf
  by_cases hc : s.first = true ∨ s.state = 3
  · rw [if_pos hc]
    cases hf : s.first with
    | true =>
      refine Lent.of f75 rfl (of_decide_eq_true (by kernel_rfl)) rfl rfl (Nat.le_refl _) rfl (rB_ok _) rfl ?_
      unfold rB rC sv
      try unfold lv
      refine Wp.seq (Wp.text (kp 4 vN (WpOps.nil (thenK_at (Wp.seq (Wp.seq (Wp.text (kp 6 (vP 0 0) (kp 7 (vP 0 0) (kp 8 (vP 0 1) (kp 9 vT (kp 10 vT (um 11 (um 12 (um 13 (um 14 (um 15 (kp 16 vT (kp 17 vT (um 18 (um 19 (um 20 (um 21 (um 22 (um 23 (um 24 (um 25 (um 26 (um 27 (um 28 (um 29 (um 30 (kp 31 vT (WpOps.nil (thenK_at (on' (Wp.seq (Wp.text (kp 4 vN (WpOps.nil (thenK_at (Wp.ret (thenK_ret (endK_retn [vN] vN (by kernel_rfl) (by kernel_rfl) ?_))))))))))))))))))))))))))))))))) (hop := fun _ => by_fact hf))))))))))))
      exact endR (by kernel_rfl) rfl (.same rfl) (.same rfl) (.w (AnsR.nil rfl ha).toldW)
    | false =>
      have h3 : ((s.state : Int) == 3) = true := by rw [show s.state = 3 from hc.resolve_left (by rw [hf]; decide)]; rfl
      refine Lent.of f75 rfl (of_decide_eq_true (by kernel_rfl)) rfl rfl (Nat.le_refl _) rfl (rB_ok _) rfl ?_
      unfold rB rC sv
      try unfold lv
      refine Wp.seq (Wp.text (kp 4 vN (WpOps.nil (thenK_at (Wp.seq (Wp.seq (Wp.text (kp 6 (vP 0 0) (kp 7 (vP 0 0) (kp 8 (vP 0 1) (kp 9 vF (kp 10 vF (kp 11 (vP 0 0) (kp 12 (vP 0 0) (kp 13 (vP 0 5) (kp 14 (vI (St.state s)) (kp 15 vT (kp 16 vT (kp 17 vT (um 18 (um 19 (um 20 (um 21 (um 22 (um 23 (um 24 (um 25 (um 26 (um 27 (um 28 (um 29 (um 30 (kp 31 vT (WpOps.nil (thenK_at (on' (Wp.seq (Wp.text (kp 4 vN (WpOps.nil (thenK_at (Wp.ret (thenK_ret (endK_retn [vN] vN (by kernel_rfl) (by kernel_rfl) ?_))))))))))))))))))))))))))) (hop := fun _ => by_fact h3))))))) (hop := fun _ => by_fact hf))))))))))))
      exact endR (by kernel_rfl) rfl (.same rfl) (.same rfl) (.w (AnsR.nil rfl ha).toldW)
  rw [if_neg hc]
  have hf : s.first = false := by simpa using fun h => hc (.inl h)
  have h3 : ((s.state : Int) == 3) = false := beq_false_of_ne (fun h => hc (.inr (by omega)))
  by_cases hg : g = s.gen
  · rw [if_pos hg]
    have d1 : ((s.gen : Int) == (g : Int)) = true := by rw [hg]; exact beq_self_eq_true _
    by_cases h2 : s.state = 2
    · rw [if_pos h2]
      have d2 : ((s.state : Int) != 2) = false := by rw [h2]; rfl
      have c1 := put73 s 2 0 0 nob (by omega)
      rw [ha] at c1
      refine Lent.of f75 rfl (of_decide_eq_true (by kernel_rfl)) rfl rfl (Nat.le_refl _) rfl (rB_ok _) rfl ?_
      unfold rB rC sv
      try unfold lv
      refine Wp.seq (Wp.text (kp 4 vN (WpOps.nil (thenK_at (Wp.seq (Wp.seq (Wp.text (kp 6 (vP 0 0) (kp 7 (vP 0 0) (kp 8 (vP 0 1) (kp 9 vF (kp 10 vF (kp 11 (vP 0 0) (kp 12 (vP 0 0) (kp 13 (vP 0 5) (kp 14 (vI (St.state s)) (kp 15 vF (kp 16 vF (kp 17 vF (kp 18 (vP 0 0) (kp 19 (vP 0 0) (kp 20 (vP 0 6) (kp 21 (vI (St.gen s)) (kp 22 (vI g) (kp 23 vT (kp 24 vT (kp 25 (vP 0 0) (kp 26 (vP 0 0) (kp 27 (vP 0 5) (kp 28 (vI (St.state s)) (kp 29 vF (kp 30 vF (kp 31 vF (WpOps.nil (thenK_at (off' (Wp.skip (thenK_at (Wp.seq (Wp.seq (Wp.text (kp 32 (vP 0 0) (kp 33 (vP 0 0) (kp 34 (vP 0 6) (kp 35 (vI (St.gen s)) (kp 36 (vI g) (kp 37 vT (WpOps.nil (thenK_at (on' (Wp.seq (Wp.text (kp 38 (vP 0 0) (cl 39 73 [vP 0 0, vN, vI 2, vI 0, vI 0, Value.string (ByteArray.mk #[])] ?_))))))) (hop := fun _ => by_fact d1))))))))))))))))) (hop := fun _ => by_fact d2))))))) (hop := fun _ => by_fact d1))))))))) (hop := fun _ => by_fact h3))))))) (hop := fun _ => by_fact hf))))))))))))
      refine WpCall.nil1 (WpCall.rf c1 (by kernel_rfl) rfl rfl rfl ?_)
      unfold rB rC sv
      try unfold lv
      refine kp 4 (lv (St.ans (St.snd 2 0 0 nob s))) (WpOps.nil (thenK_at (Wp.ret (thenK_ret (endK_retn [Value.iface 61 (Value.iface (List.length (St.ans (St.snd 2 0 0 nob s))) (Value.iface 3 (Value.agg (List.toArray (evl (St.ans (St.snd 2 0 0 nob s)))))))] (lv (St.ans (St.snd 2 0 0 nob s))) (by kernel_rfl) (by kernel_rfl) ?_)))))
      exact endR (by kernel_rfl) rfl (.same rfl) (.same rfl) (.w (.un rfl rfl))
    · rw [if_neg h2]
      have d2 : ((s.state : Int) != 2) = true := bne_iff_ne.2 (by omega)
      refine Lent.of f75 rfl (of_decide_eq_true (by kernel_rfl)) rfl rfl (Nat.le_refl _) rfl (rB_ok _) rfl ?_
      unfold rB rC sv
      try unfold lv
      refine Wp.seq (Wp.text (kp 4 vN (WpOps.nil (thenK_at (Wp.seq (Wp.seq (Wp.text (kp 6 (vP 0 0) (kp 7 (vP 0 0) (kp 8 (vP 0 1) (kp 9 vF (kp 10 vF (kp 11 (vP 0 0) (kp 12 (vP 0 0) (kp 13 (vP 0 5) (kp 14 (vI (St.state s)) (kp 15 vF (kp 16 vF (kp 17 vF (kp 18 (vP 0 0) (kp 19 (vP 0 0) (kp 20 (vP 0 6) (kp 21 (vI (St.gen s)) (kp 22 (vI g) (kp 23 vT (kp 24 vT (kp 25 (vP 0 0) (kp 26 (vP 0 0) (kp 27 (vP 0 5) (kp 28 (vI (St.state s)) (kp 29 vT (kp 30 vT (kp 31 vT (WpOps.nil (thenK_at (on' (Wp.seq (Wp.text (kp 4 vN (WpOps.nil (thenK_at (Wp.ret (thenK_ret (endK_retn [vN] vN (by kernel_rfl) (by kernel_rfl) ?_))))))))))))) (hop := fun _ => by_fact d2))))))) (hop := fun _ => by_fact d1))))))))) (hop := fun _ => by_fact h3))))))) (hop := fun _ => by_fact hf))))))))))))
      exact endR (by kernel_rfl) rfl (.same rfl) (.same rfl) (.w (AnsR.nil rfl ha).toldW)
  · rw [if_neg hg]
    have d1 : ((s.gen : Int) == (g : Int)) = false := beq_false_of_ne (by omega)
    obtain ⟨s1, hs1⟩ : ∃ s1, s1 = ({ s with gen := g } : St) := ⟨_, rfl⟩
    have ea : s1.ans = [] := by rw [hs1]; exact ha
    have ea1 : (s1.snd 2 0 0 nob).ans.length ≤ 100000 := by rw [St.snd_n, ea]; decide
    have c1 := put73 s1 2 0 0 nob (by rw [ea]; exact Nat.zero_le _)
    rw [ea] at c1
    rw [← hs1]
    by_cases h2 : s.state = 2
    · have d2 : ((s.state : Int) == 2) = true := by rw [h2]; rfl
      have d3 : ((s1.state : Int) == 2) = true := by rw [hs1]; exact d2
      have c2 := tell76 (s1.snd 2 0 0 nob) 4 nob ea1
      have c3 := up77 ((s1.snd 2 0 0 nob).tel 4 nob)
      unfold lv at c2
      rw [if_pos h2]
      refine Lent.of f75 rfl (of_decide_eq_true (by kernel_rfl)) rfl rfl (Nat.le_refl _) rfl (rB_ok _) rfl ?_
      unfold rB rC sv
      try unfold lv
      refine Wp.seq (Wp.text (kp 4 vN (WpOps.nil (thenK_at (Wp.seq (Wp.seq (Wp.text (kp 6 (vP 0 0) (kp 7 (vP 0 0) (kp 8 (vP 0 1) (kp 9 vF (kp 10 vF (kp 11 (vP 0 0) (kp 12 (vP 0 0) (kp 13 (vP 0 5) (kp 14 (vI (St.state s)) (kp 15 vF (kp 16 vF (kp 17 vF (kp 18 (vP 0 0) (kp 19 (vP 0 0) (kp 20 (vP 0 6) (kp 21 (vI (St.gen s)) (kp 22 (vI g) (kp 23 vF (kp 24 vF (um 25 (um 26 (um 27 (um 28 (um 29 (kp 30 vF (kp 31 vF (WpOps.nil (thenK_at (off' (Wp.skip (thenK_at (Wp.seq (Wp.seq (Wp.text (kp 32 (vP 0 0) (kp 33 (vP 0 0) (kp 34 (vP 0 6) (kp 35 (vI (St.gen s)) (kp 36 (vI g) (kp 37 vF (WpOps.nil (thenK_at (off' (Wp.skip (thenK_at (Wp.seq (Wp.text (kp 40 (vP 0 0) (kp 41 (vI g) (kp 42 (vP 0 0) (kp 43 (vP 0 6) (ld (.tuple #[]) (0) (Blk.mk 92 true [vT, Value.bool (St.first s), vI (St.win s), vI (St.wait s), vI (St.tries s), vI (St.state s), vI g, vI (St.sent s), vI (St.acked s), vI (St.wanted s), Value.bool (St.rej s), Value.bool (St.ren s), Value.iface 9 (Value.iface (List.length (St.queue s)) (Value.iface 3 (Value.agg (List.toArray (ss (St.queue s)))))), Value.iface 9 (Value.iface (List.length (St.out s)) (Value.iface 3 (Value.agg (List.toArray (ss (St.out s)))))), vI (St.left s), vI (St.tried s)]) ?_)))))))))))) (hop := fun _ => by_fact d1))))))))))))))))))))))) (hop := fun _ => by_fact d1))))))))) (hop := fun _ => by_fact h3))))))) (hop := fun _ => by_fact hf))))))))))))
      refine WpOps.nil (thenK_at (Wp.seq (Wp.text (kp 44 (vP 0 0) (cl 45 73 [vP 0 0, vN, vI 2, vI 0, vI 0, Value.string (ByteArray.mk #[])] (WpCall.nil1 ?_))))))
      refine WpCall.rf c1 (by kernel_rfl) (by subst hs1; rfl) (by subst hs1; rfl) rfl ?_
      unfold rB rC sv
      try unfold lv
      refine kp 5 (lv (St.ans (St.snd 2 0 0 nob s1))) (WpOps.nil (thenK_at (Wp.seq (Wp.seq (Wp.text (kp 46 (vP 0 0) (kp 47 (vP 0 0) (kp 48 (vP 0 5) (kp 49 (vI (St.state s1)) (kp 50 vT (WpOps.nil (thenK_at (on' (Wp.text (kp 51 (lv (St.ans (St.snd 2 0 0 nob s1))) (cl 52 76 [Value.iface 61 (Value.iface (List.length (St.ans (St.snd 2 0 0 nob s1))) (Value.iface 3 (Value.agg (List.toArray (evl (St.ans (St.snd 2 0 0 nob s1))))))), vI 4, Value.string (ByteArray.mk #[])] ?_)))))) (hop := fun _ => by_fact d3)))))))))))
      refine WpCall.consume [0] (c2) (by kernel_rfl) (by kernel_rfl) ?_
      refine kp 5 (lv (St.ans (St.tel 4 nob (St.snd 2 0 0 nob s1)))) (WpOps.nil (thenK_at (Wp.seq (Wp.text (kp 55 (vP 0 0) (cl 56 77 [vP 0 0] (WpCall.rf c3 (by kernel_rfl) rfl (by kernel_rfl) (by kernel_rfl) (WpOps.nil (thenK_at (Wp.seq (Wp.text (kp 57 (lv (St.ans (St.tel 4 nob (St.snd 2 0 0 nob s1)))) (kp 4 (lv (St.ans (St.tel 4 nob (St.snd 2 0 0 nob s1)))) (WpOps.nil (thenK_at (Wp.ret (endK_retn [Value.iface 61 (Value.iface (List.length (St.ans (St.tel 4 nob (St.snd 2 0 0 nob s1)))) (Value.iface 3 (Value.agg (List.toArray (evl (St.ans (St.tel 4 nob (St.snd 2 0 0 nob s1))))))))] (lv (St.ans (St.tel 4 nob (St.snd 2 0 0 nob s1)))) (by kernel_rfl) (by kernel_rfl) ?_)))))))))))))))))
      exact endR (by kernel_rfl) rfl (.same rfl) (.same rfl) (.w (.un rfl rfl))
    · have d2 : ((s.state : Int) == 2) = false := beq_false_of_ne (by omega)
      have d3 : ((s1.state : Int) == 2) = false := by rw [hs1]; exact d2
      have c2 := tell76 (s1.snd 2 0 0 nob) 1 nob ea1
      have c3 := up77 ((s1.snd 2 0 0 nob).tel 1 nob)
      unfold lv at c2
      rw [if_neg h2]
      refine Lent.of f75 rfl (of_decide_eq_true (by kernel_rfl)) rfl rfl (Nat.le_refl _) rfl (rB_ok _) rfl ?_
      unfold rB rC sv
      try unfold lv
      refine Wp.seq (Wp.text (kp 4 vN (WpOps.nil (thenK_at (Wp.seq (Wp.seq (Wp.text (kp 6 (vP 0 0) (kp 7 (vP 0 0) (kp 8 (vP 0 1) (kp 9 vF (kp 10 vF (kp 11 (vP 0 0) (kp 12 (vP 0 0) (kp 13 (vP 0 5) (kp 14 (vI (St.state s)) (kp 15 vF (kp 16 vF (kp 17 vF (kp 18 (vP 0 0) (kp 19 (vP 0 0) (kp 20 (vP 0 6) (kp 21 (vI (St.gen s)) (kp 22 (vI g) (kp 23 vF (kp 24 vF (um 25 (um 26 (um 27 (um 28 (um 29 (kp 30 vF (kp 31 vF (WpOps.nil (thenK_at (off' (Wp.skip (thenK_at (Wp.seq (Wp.seq (Wp.text (kp 32 (vP 0 0) (kp 33 (vP 0 0) (kp 34 (vP 0 6) (kp 35 (vI (St.gen s)) (kp 36 (vI g) (kp 37 vF (WpOps.nil (thenK_at (off' (Wp.skip (thenK_at (Wp.seq (Wp.text (kp 40 (vP 0 0) (kp 41 (vI g) (kp 42 (vP 0 0) (kp 43 (vP 0 6) (ld (.tuple #[]) (0) (Blk.mk 92 true [vT, Value.bool (St.first s), vI (St.win s), vI (St.wait s), vI (St.tries s), vI (St.state s), vI g, vI (St.sent s), vI (St.acked s), vI (St.wanted s), Value.bool (St.rej s), Value.bool (St.ren s), Value.iface 9 (Value.iface (List.length (St.queue s)) (Value.iface 3 (Value.agg (List.toArray (ss (St.queue s)))))), Value.iface 9 (Value.iface (List.length (St.out s)) (Value.iface 3 (Value.agg (List.toArray (ss (St.out s)))))), vI (St.left s), vI (St.tried s)]) ?_)))))))))))) (hop := fun _ => by_fact d1))))))))))))))))))))))) (hop := fun _ => by_fact d1))))))))) (hop := fun _ => by_fact h3))))))) (hop := fun _ => by_fact hf))))))))))))
      refine WpOps.nil (thenK_at (Wp.seq (Wp.text (kp 44 (vP 0 0) (cl 45 73 [vP 0 0, vN, vI 2, vI 0, vI 0, Value.string (ByteArray.mk #[])] (WpCall.nil1 ?_))))))
      refine WpCall.rf c1 (by kernel_rfl) (by subst hs1; rfl) (by subst hs1; rfl) rfl ?_
      unfold rB rC sv
      try unfold lv
      refine kp 5 (lv (St.ans (St.snd 2 0 0 nob s1))) (WpOps.nil (thenK_at (Wp.seq (Wp.seq (Wp.text (kp 46 (vP 0 0) (kp 47 (vP 0 0) (kp 48 (vP 0 5) (kp 49 (vI (St.state s1)) (kp 50 vF (WpOps.nil (thenK_at (off' (Wp.text (kp 53 (lv (St.ans (St.snd 2 0 0 nob s1))) (cl 54 76 [Value.iface 61 (Value.iface (List.length (St.ans (St.snd 2 0 0 nob s1))) (Value.iface 3 (Value.agg (List.toArray (evl (St.ans (St.snd 2 0 0 nob s1))))))), vI 1, Value.string (ByteArray.mk #[])] ?_)))))) (hop := fun _ => by_fact d3)))))))))))
      refine WpCall.consume [0] (c2) (by kernel_rfl) (by kernel_rfl) ?_
      refine kp 5 (lv (St.ans (St.tel 1 nob (St.snd 2 0 0 nob s1)))) (WpOps.nil (thenK_at (Wp.seq (Wp.text (kp 55 (vP 0 0) (cl 56 77 [vP 0 0] (WpCall.rf c3 (by kernel_rfl) rfl (by kernel_rfl) (by kernel_rfl) (WpOps.nil (thenK_at (Wp.seq (Wp.text (kp 57 (lv (St.ans (St.tel 1 nob (St.snd 2 0 0 nob s1)))) (kp 4 (lv (St.ans (St.tel 1 nob (St.snd 2 0 0 nob s1)))) (WpOps.nil (thenK_at (Wp.ret (endK_retn [Value.iface 61 (Value.iface (List.length (St.ans (St.tel 1 nob (St.snd 2 0 0 nob s1)))) (Value.iface 3 (Value.agg (List.toArray (evl (St.ans (St.tel 1 nob (St.snd 2 0 0 nob s1))))))))] (lv (St.ans (St.tel 1 nob (St.snd 2 0 0 nob s1)))) (by kernel_rfl) (by kernel_rfl) ?_)))))))))))))))))
      exact endR (by kernel_rfl) rfl (.same rfl) (.same rfl) (.w (.un rfl rfl))
def uV (e : Int) (s : St) : Value := .tuple #[lv s.ans, .int .i64 e]
theorem endU {h : Heap} {e : Int} {v1 w : Value} {s : St} {cells : List Value} {vq vo : Value} (h0 : h.get 0 = some ⟨92, true, cells⟩) (hc : cells = rC s vq vo) (rq' : RowR h s.queue vq) (ro' : RowR h s.out vo) (hv : v1 = .tuple #[w, .int .i64 e]) (ra' : AnsR h s.ans w) : LentEnd E 1 (uV e s) [rB s] v1 h :=
  endR h0 hc rq' ro' (.tuple _ _ hv rfl (.cons ra'.toldW (.cons (.un rfl rfl) .nil)))
theorem objN {hR : Heap} {rl : List Nat} {m : Nat} {s : St} {cells : List Value} (hc : cells = rC s (.slice none 0 0) (sv s.out)) (hq : s.queue = []) : All2 (TC E hR rl m) cells (rB s).cells := by
  subst hc
  have nn : ∀ n : Int, TC E hR rl m (.int .i64 n) (.int .i64 n) := fun n => .un rfl rfl
  have bb : ∀ n : Bool, TC E hR rl m (.bool n) (.bool n) := fun n => .un rfl rfl
  obtain ⟨ti, ht⟩ := ty9
  have q0 : TC E hR rl m (.slice none 0 0) (sv s.queue) := by
    rw [hq]
    exact .ice (.slice none 0 0) rfl (NilC.nil3 (e := (9 : Nat)) ht)
  exact .cons (bb _) (.cons (bb _) (.cons (nn _) (.cons (nn _) (.cons (nn _) (.cons (nn _) (.cons (nn _) (.cons (nn _) (.cons (nn _) (.cons (nn _) (.cons (bb _) (.cons (bb _) (.cons q0 (.cons (.un rfl rfl) (.cons (nn _) (.cons (nn _) .nil)))))))))))))))
theorem f48 : E.funcs 48 = some Try.f48 := by kernel_rfl
theorem user48 (s : St) (w k a b c : Int) (d : ByteArray) (hd : k = 2 → d.size ≤ 1000) (hk : 1 ≤ k ∧ k ≤ 3) (ha : s.ans = []) (hok : s.Ok) : Lent E 48 [.pointer (some ⟨0, 0, none⟩), evv w k a b c d] [rB s] (uV (s.usr k d).1 (s.usr k d).2) [rB (s.usr k d).2] := by
  have hk3 : k = 1 ∨ k = 2 ∨ k = 3 := by omega
  have oq := hok.queue
  unfold St.usr evv
  rcases hk3 with rfl | rfl | rfl
  · rw [if_pos rfl]
    by_cases h0 : s.state = 0
    · rw [if_neg (by omega)]
      have d1 : ((s.state : Int) != 0) = false := by rw [h0]; rfl
      obtain ⟨s1, hs1⟩ : ∃ s1, s1 = ({ s with ren := false } : St) := ⟨_, rfl⟩
      have ea : s1.ans = [] := by rw [hs1]; exact ha
      have c1 := start72 s1 (by rw [ea]; exact Nat.zero_le _) (by rw [hs1]; exact hok.gen)
      rw [ea] at c1
      rw [← hs1]
      refine Lent.of f48 rfl (of_decide_eq_true (by kernel_rfl)) rfl rfl (Nat.le_refl _) rfl (rB_ok _) rfl ?_
      unfold rB rC sv
      try unfold lv
      refine Wp.seq (Wp.text (md 3 (vP 1 0) (Blk.mk 61 true [vI w, vI 1, vI a, vI b, vI c, Value.string d]) (kp 4 vN (kp 5 (vI 0) (WpOps.nil (thenK_at (Wp.seq (Wp.seq (Wp.text (kp 7 (vP 1 1) (kp 8 (vI 1) (WpOps.nil (thenK_at (Wp.block (Wp.seq (Wp.text (kp 10 vT (kp 9 vT (WpOps.nil (thenK_at (on' (Wp.seq (Wp.seq (Wp.text (kp 11 (vP 0 0) (kp 12 (vP 0 0) (kp 13 (vP 0 5) (kp 14 (vI (St.state s)) (kp 15 vF (WpOps.nil (thenK_at (off' (Wp.skip (thenK_at (Wp.seq (Wp.text (kp 16 (vP 0 0) (kp 17 (vP 0 0) (kp 18 (vP 0 11) (ld (.tuple #[]) (0) (Blk.mk 92 true [vT, Value.bool (St.first s), vI (St.win s), vI (St.wait s), vI (St.tries s), vI (St.state s), vI (St.gen s), vI (St.sent s), vI (St.acked s), vI (St.wanted s), Value.bool (St.rej s), vF, Value.iface 9 (Value.iface (List.length (St.queue s)) (Value.iface 3 (Value.agg (List.toArray (ss (St.queue s)))))), Value.iface 9 (Value.iface (List.length (St.out s)) (Value.iface 3 (Value.agg (List.toArray (ss (St.out s)))))), vI (St.left s), vI (St.tried s)]) ?_))))))))))) (hop := fun _ => by_fact d1))))))))))))))))))))))))))))))
      refine WpOps.nil (thenK_at (Wp.seq (Wp.text (kp 19 (vP 0 0) (cl 20 72 [vP 0 0, vN] (WpCall.nil1 ?_))))))
      refine WpCall.rf c1 (by kernel_rfl) (by subst hs1; rfl) (by subst hs1; rfl) rfl ?_
      unfold rB rC sv
      try unfold lv
      refine kp 4 (lv (St.ans (St.beg s1))) (kp 5 (vI 0) (WpOps.nil (thenK_at (Wp.ret (blockK_ret (thenK_ret (endK_retn [Value.iface 61 (Value.iface (List.length (St.ans (St.beg s1))) (Value.iface 3 (Value.agg (List.toArray (evl (St.ans (St.beg s1))))))), vI 0] (Value.tuple #[Value.iface 61 (Value.iface (List.length (St.ans (St.beg s1))) (Value.iface 3 (Value.agg (List.toArray (evl (St.ans (St.beg s1))))))), vI 0]) (by kernel_rfl) (by kernel_rfl) ?_)))))))
      exact endU (by kernel_rfl) rfl (.same rfl) (.same rfl) rfl (.same rfl)
    · rw [if_pos h0]
      have d1 : ((s.state : Int) != 0) = true := bne_iff_ne.2 (by omega)
      refine Lent.of f48 rfl (of_decide_eq_true (by kernel_rfl)) rfl rfl (Nat.le_refl _) rfl (rB_ok _) rfl ?_
      unfold rB rC sv
      try unfold lv
      refine Wp.seq (Wp.text (md 3 (vP 1 0) (Blk.mk 61 true [vI w, vI 1, vI a, vI b, vI c, Value.string d]) (kp 4 vN (kp 5 (vI 0) (WpOps.nil (thenK_at (Wp.seq (Wp.seq (Wp.text (kp 7 (vP 1 1) (kp 8 (vI 1) (WpOps.nil (thenK_at (Wp.block (Wp.seq (Wp.text (kp 10 vT (kp 9 vT (WpOps.nil (thenK_at (on' (Wp.seq (Wp.seq (Wp.text (kp 11 (vP 0 0) (kp 12 (vP 0 0) (kp 13 (vP 0 5) (kp 14 (vI (St.state s)) (kp 15 vT (WpOps.nil (thenK_at (on' (Wp.seq (Wp.text (kp 4 vN (kp 5 (vI 8) (WpOps.nil (thenK_at (Wp.ret (thenK_ret (blockK_ret (thenK_ret (endK_retn [vN, vI 8] (Value.tuple #[vN, vI 8]) (by kernel_rfl) (by kernel_rfl) ?_)))))))))))))) (hop := fun _ => by_fact d1))))))))))))))))))))))))))))))
      exact endU (by kernel_rfl) rfl (.same rfl) (.same rfl) rfl (.nil rfl ha)
  · have hd := hd rfl
    rw [if_neg (by decide), if_pos rfl, if_neg (by omega)]
    by_cases h0 : s.state ≠ 2
    · rw [if_pos h0]
      have d1 : ((s.state : Int) != 2) = true := bne_iff_ne.2 (by omega)
      refine Lent.of f48 rfl (of_decide_eq_true (by kernel_rfl)) rfl rfl (Nat.le_refl _) rfl (rB_ok _) rfl ?_
      unfold rB rC sv
      try unfold lv
      refine Wp.seq (Wp.text (md 3 (vP 1 0) (Blk.mk 61 true [vI w, vI 2, vI a, vI b, vI c, Value.string d]) (kp 4 vN (kp 5 (vI 0) (WpOps.nil (thenK_at (Wp.seq (Wp.seq (Wp.text (kp 7 (vP 1 1) (kp 8 (vI 2) (WpOps.nil (thenK_at (Wp.block (Wp.seq (Wp.text (kp 10 vF (kp 9 vF (WpOps.nil (thenK_at (off' (Wp.seq (Wp.text (kp 22 vT (kp 21 vT (WpOps.nil (thenK_at (on' (Wp.seq (Wp.seq (Wp.text (kp 23 (vP 0 0) (kp 24 (vP 0 0) (kp 25 (vP 0 5) (kp 26 (vI (St.state s)) (kp 27 vT (WpOps.nil (thenK_at (on' (Wp.seq (Wp.text (kp 4 vN (kp 5 (vI 8) (WpOps.nil (thenK_at (Wp.ret (thenK_ret (blockK_ret (thenK_ret (endK_retn [vN, vI 8] (Value.tuple #[vN, vI 8]) (by kernel_rfl) (by kernel_rfl) ?_)))))))))))))) (hop := fun _ => by_fact d1)))))))))))))))))))))))))))))))))))))
      exact endU (by kernel_rfl) rfl (.same rfl) (.same rfl) rfl (.nil rfl ha)
    rw [if_neg h0]
    have d1 : ((s.state : Int) != 2) = false := by rw [show s.state = 2 by omega]; rfl
    by_cases hq : s.queue.length ≥ 20
    · rw [if_pos hq]
      have d2 : ((s.queue.length : Int) == 20) = true := by rw [show s.queue.length = 20 by omega]; rfl
      refine Lent.of f48 rfl (of_decide_eq_true (by kernel_rfl)) rfl rfl (Nat.le_refl _) rfl (rB_ok _) rfl ?_
      unfold rB rC sv
      try unfold lv
      refine Wp.seq (Wp.text (md 3 (vP 1 0) (Blk.mk 61 true [vI w, vI 2, vI a, vI b, vI c, Value.string d]) (kp 4 vN (kp 5 (vI 0) (WpOps.nil (thenK_at (Wp.seq (Wp.seq (Wp.text (kp 7 (vP 1 1) (kp 8 (vI 2) (WpOps.nil (thenK_at (Wp.block (Wp.seq (Wp.text (kp 10 vF (kp 9 vF (WpOps.nil (thenK_at (off' (Wp.seq (Wp.text (kp 22 vT (kp 21 vT (WpOps.nil (thenK_at (on' (Wp.seq (Wp.seq (Wp.text (kp 23 (vP 0 0) (kp 24 (vP 0 0) (kp 25 (vP 0 5) (kp 26 (vI (St.state s)) (kp 27 vF (WpOps.nil (thenK_at (off' (Wp.skip (thenK_at (Wp.seq (Wp.seq (Wp.text (kp 28 (vP 0 0) (kp 29 (vP 0 0) (kp 30 (vP 0 12) (kp 31 (sv (St.queue s)) (kp 32 (vI (List.length (St.queue s))) (kp 33 vT (WpOps.nil (thenK_at (on' (Wp.seq (Wp.text (kp 4 vN (kp 5 (vI 9) (WpOps.nil (thenK_at (Wp.ret (thenK_ret (blockK_ret (thenK_ret (endK_retn [vN, vI 9] (Value.tuple #[vN, vI 9]) (by kernel_rfl) (by kernel_rfl) ?_)))))))))))))) (hop := fun _ => by_fact d2))))))))))))))) (hop := fun _ => by_fact d1)))))))))))))))))))))))))))))))))))))
      exact endU (by kernel_rfl) rfl (.same rfl) (.same rfl) rfl (.nil rfl ha)
    rw [if_neg hq]
    have d2 : ((s.queue.length : Int) == 20) = false := beq_false_of_ne (by omega)
    by_cases hn : s.queue = []
    · have hl : s.queue.length = 0 := by rw [hn]; rfl
      obtain ⟨s2, hs2⟩ : ∃ s2, s2 = ({ s with queue := s.queue ++ [d] } : St) := ⟨_, rfl⟩
      rw [← hs2]
      refine Lent.of f48 rfl (of_decide_eq_true (by kernel_rfl)) rfl rfl (Nat.le_refl _) rfl (rB_ok _) rfl ?_
      unfold rB rC sv
      try unfold lv
      rw [hn]
      show Wp 1 E _ _ _ (heapOf [⟨92, true, [_, _, _, _, _, _, _, _, _, _, _, _, FS 9 0 3 #[], _, _, _]⟩]) _
      rw [hn] at d2
      refine Wp.seq (Wp.text (md 3 (vP 1 0) (Blk.mk 61 true [vI w, vI 2, vI a, vI b, vI c, Value.string d]) (kp 4 vN (kp 5 (vI 0) (WpOps.nil (thenK_at (Wp.seq (Wp.seq (Wp.text (kp 7 (vP 1 1) (kp 8 (vI 2) (WpOps.nil (thenK_at (Wp.block (Wp.seq (Wp.text (kp 10 vF (kp 9 vF (WpOps.nil (thenK_at (off' (Wp.seq (Wp.text (kp 22 vT (kp 21 vT (WpOps.nil (thenK_at (on' (Wp.seq (Wp.seq (Wp.text (kp 23 (vP 0 0) (kp 24 (vP 0 0) (kp 25 (vP 0 5) (kp 26 (vI (St.state s)) (kp 27 vF (WpOps.nil (thenK_at (off' (Wp.skip (thenK_at (Wp.seq (Wp.seq (Wp.text (kp 28 (vP 0 0) (kp 29 (vP 0 0) (kp 30 (vP 0 12) (kp 31 (.iface 9 (Value.iface 0 (Value.iface 3 (Value.agg #[])))) (kp 32 (vI (↑0 : Int)) (kp 33 vF (WpOps.nil (thenK_at (off' (Wp.skip (thenK_at (Wp.seq ?_)))))))))))))))))))) (hop := fun _ => by_fact d1)))))))))))))))))))))))))))))))))))))
      refine Wp.regionD [(1, 9), (6, 9)] [[0, 1, 2, 3, 4, 5, 6, 7, 8, 9, 10, 11, 12, 13], [0, 1, 2, 3, 4, 5, 7, 8, 9, 6, 10, 11, 12, 13], [0, 2, 3, 4, 5, 7, 8, 9, 1, 6, 10, 11, 12, 13]] (by kernel_rfl) (by kernel_rfl) [] [rB s2] (allC ?_ (allC ?_ (all1 ?_))) ?_
      rotate_right
      · unfold rB rC sv
        refine thenK_at (Wp.seq (Wp.text (kp 4 vN (kp 5 (vI 0) (WpOps.nil (thenK_at (Wp.ret (blockK_ret (thenK_ret (endK_retn [vN, vI 0] (Value.tuple #[vN, vI 0]) (by kernel_rfl) (by kernel_rfl) ?_))))))))))
        exact endU (by kernel_rfl) rfl (.same rfl) (.same rfl) rfl (.nil rfl (by rw [hs2]; exact ha))
      · refine kp 34 (vP 0 0) (md 35 (.slice (some ⟨2, 0, none⟩) 0 0) (Blk.mk 9 true []) (kp 36 (vP 0 0) (kp 37 (vP 0 0) (kp 38 (vP 0 12) (kp 39 (.iface 9 (Value.iface 0 (Value.iface 3 (Value.agg #[])))) (kp 40 (.slice (some ⟨2, 0, none⟩) 0 0) (kp 41 (vP 1 5) (kp 42 (.string d) (md 43 (.slice (some ⟨3, 0, none⟩) 1 1) (Blk.mk 9 true [Value.string d]) (ra 44 (.slice (some ⟨4, 0, none⟩) 1 1) (2) (Blk.mk 9 true [Value.string d]) (kp 45 (vP 0 0) (kp 46 (vP 0 12) (ld (.tuple #[]) (0) (Blk.mk 92 true [vT, Value.bool (St.first s), vI (St.win s), vI (St.wait s), vI (St.tries s), vI (St.state s), vI (St.gen s), vI (St.sent s), vI (St.acked s), vI (St.wanted s), Value.bool (St.rej s), Value.bool (St.ren s), Value.slice (some ⟨4, 0, none⟩) 1 1, Value.iface 9 (Value.iface (List.length (St.out s)) (Value.iface 3 (Value.agg (List.toArray (ss (St.out s)))))), vI (St.left s), vI (St.tried s)]) (WpOps.nil ?_))))))))))))))
        refine ⟨by kernel_rfl, ?_⟩
        exact View.ofI [0] [rB s2] [] (by decide) rfl ⟨⟨rC s2 (.slice (some ⟨4, 0, none⟩) (1) (1)) (sv s2.out), by subst hs2; kernel_rfl, objR rfl (.own 4 (1) (1) ([.string d]) rfl (by kernel_rfl) (by simp [hs2, hn]) (by simp [hs2, hn, ss]) (by decide)) (.same rfl)⟩, trivial⟩ trivial
      · refine kp 34 (vP 0 0) (md 35 (.slice (some ⟨2, 0, none⟩) 0 0) (Blk.mk 9 true []) (kp 36 (vP 0 0) (kp 37 (vP 0 0) (kp 38 (vP 0 12) (kp 39 (.iface 9 (Value.iface 0 (Value.iface 3 (Value.agg #[])))) (kp 41 (vP 1 5) (kp 42 (.string d) (md 43 (.slice (some ⟨3, 0, none⟩) 1 1) (Blk.mk 9 true [Value.string d]) (kp 40 (.slice (some ⟨2, 0, none⟩) 0 0) (ra 44 (.slice (some ⟨4, 0, none⟩) 1 1) (2) (Blk.mk 9 true [Value.string d]) (kp 45 (vP 0 0) (kp 46 (vP 0 12) (ld (.tuple #[]) (0) (Blk.mk 92 true [vT, Value.bool (St.first s), vI (St.win s), vI (St.wait s), vI (St.tries s), vI (St.state s), vI (St.gen s), vI (St.sent s), vI (St.acked s), vI (St.wanted s), Value.bool (St.rej s), Value.bool (St.ren s), Value.slice (some ⟨4, 0, none⟩) 1 1, Value.iface 9 (Value.iface (List.length (St.out s)) (Value.iface 3 (Value.agg (List.toArray (ss (St.out s)))))), vI (St.left s), vI (St.tried s)]) (WpOps.nil ?_))))))))))))))
        refine ⟨by kernel_rfl, ?_⟩
        exact View.ofI [0] [rB s2] [] (by decide) rfl ⟨⟨rC s2 (.slice (some ⟨4, 0, none⟩) (1) (1)) (sv s2.out), by subst hs2; kernel_rfl, objR rfl (.own 4 (1) (1) ([.string d]) rfl (by kernel_rfl) (by simp [hs2, hn]) (by simp [hs2, hn, ss]) (by decide)) (.same rfl)⟩, trivial⟩ trivial
      · refine kp 34 (vP 0 0) (kp 36 (vP 0 0) (kp 37 (vP 0 0) (kp 38 (vP 0 12) (kp 39 (.iface 9 (Value.iface 0 (Value.iface 3 (Value.agg #[])))) (kp 41 (vP 1 5) (kp 42 (.string d) (md 43 (.slice (some ⟨2, 0, none⟩) 1 1) (Blk.mk 9 true [Value.string d]) (md 35 (.slice (some ⟨3, 0, none⟩) 0 0) (Blk.mk 9 true []) (kp 40 (.slice (some ⟨3, 0, none⟩) 0 0) (ra 44 (.slice (some ⟨4, 0, none⟩) 1 1) (3) (Blk.mk 9 true [Value.string d]) (kp 45 (vP 0 0) (kp 46 (vP 0 12) (ld (.tuple #[]) (0) (Blk.mk 92 true [vT, Value.bool (St.first s), vI (St.win s), vI (St.wait s), vI (St.tries s), vI (St.state s), vI (St.gen s), vI (St.sent s), vI (St.acked s), vI (St.wanted s), Value.bool (St.rej s), Value.bool (St.ren s), Value.slice (some ⟨4, 0, none⟩) 1 1, Value.iface 9 (Value.iface (List.length (St.out s)) (Value.iface 3 (Value.agg (List.toArray (ss (St.out s)))))), vI (St.left s), vI (St.tried s)]) (WpOps.nil ?_))))))))))))))
        refine ⟨by kernel_rfl, ?_⟩
        exact View.ofI [0] [rB s2] [] (by decide) rfl ⟨⟨rC s2 (.slice (some ⟨4, 0, none⟩) (1) (1)) (sv s2.out), by subst hs2; kernel_rfl, objR rfl (.own 4 (1) (1) ([.string d]) rfl (by kernel_rfl) (by simp [hs2, hn]) (by simp [hs2, hn, ss]) (by decide)) (.same rfl)⟩, trivial⟩ trivial
    · have hp : 0 < s.queue.length := List.length_pos_iff.2 hn
      have q1 : ¬ 0 + s.queue.length ≤ 0 := by omega
      have q2 : 1 ≤ 16 ∧ (0 + s.queue.length) * 16 ≤ 140737488355328 ∧ 1 = 1 ∧ 0 + s.queue.length ≤ 9223372036854775807 := by omega
      have q3 : ¬ 0 + s.queue.length + 1 ≤ 0 + s.queue.length := by omega
      have q4 : 1 ≤ 16 ∧ (0 + s.queue.length + 1) * 16 ≤ 140737488355328 ∧ 1 = 1 ∧ 0 + s.queue.length + 1 ≤ 9223372036854775807 := by omega
      have q5 : cellsAt (ss s.queue) 0 ((0 + s.queue.length) * 1) = some (ss s.queue) := cellsAt_all _ (by rw [ss_len]; omega)
      obtain ⟨s2, hs2⟩ : ∃ s2, s2 = ({ s with queue := s.queue ++ [d] } : St) := ⟨_, rfl⟩
      rw [← hs2]
      refine Lent.of f48 rfl (of_decide_eq_true (by kernel_rfl)) rfl rfl (Nat.le_refl _) rfl (rB_ok _) rfl ?_
      unfold rB rC sv
      try unfold lv
      refine Wp.seq (Wp.text (md 3 (vP 1 0) (Blk.mk 61 true [vI w, vI 2, vI a, vI b, vI c, Value.string d]) (kp 4 vN (kp 5 (vI 0) (WpOps.nil (thenK_at (Wp.seq (Wp.seq (Wp.text (kp 7 (vP 1 1) (kp 8 (vI 2) (WpOps.nil (thenK_at (Wp.block (Wp.seq (Wp.text (kp 10 vF (kp 9 vF (WpOps.nil (thenK_at (off' (Wp.seq (Wp.text (kp 22 vT (kp 21 vT (WpOps.nil (thenK_at (on' (Wp.seq (Wp.seq (Wp.text (kp 23 (vP 0 0) (kp 24 (vP 0 0) (kp 25 (vP 0 5) (kp 26 (vI (St.state s)) (kp 27 vF (WpOps.nil (thenK_at (off' (Wp.skip (thenK_at (Wp.seq (Wp.seq (Wp.text (kp 28 (vP 0 0) (kp 29 (vP 0 0) (kp 30 (vP 0 12) (kp 31 (sv (St.queue s)) (kp 32 (vI (List.length (St.queue s))) (kp 33 vF (WpOps.nil (thenK_at (off' (Wp.skip (thenK_at (Wp.seq ?_)))))) (hop := fun _ => by_fact d2))))))))))))))) (hop := fun _ => by_fact d1)))))))))))))))))))))))))))))))))))))
      refine Wp.regionD [(1, 9), (6, 9)] [[0, 1, 2, 3, 4, 5, 6, 7, 8, 9, 10, 11, 12, 13], [0, 1, 2, 3, 4, 5, 7, 8, 9, 6, 10, 11, 12, 13], [0, 2, 3, 4, 5, 7, 8, 9, 1, 6, 10, 11, 12, 13]] (by kernel_rfl) (by kernel_rfl) [] [rB s2] (allC ?_ (allC ?_ (all1 ?_))) ?_
      rotate_right
      · unfold rB rC sv
        refine thenK_at (Wp.seq (Wp.text (kp 4 vN (kp 5 (vI 0) (WpOps.nil (thenK_at (Wp.ret (blockK_ret (thenK_ret (endK_retn [vN, vI 0] (Value.tuple #[vN, vI 0]) (by kernel_rfl) (by kernel_rfl) ?_))))))))))
        exact endU (by kernel_rfl) rfl (.same rfl) (.same rfl) rfl (.nil rfl (by rw [hs2]; exact ha))
      · refine kp 34 (vP 0 0) (md 35 (.slice (some ⟨2, 0, none⟩) 0 0) (Blk.mk 9 true []) (kp 36 (vP 0 0) (kp 37 (vP 0 0) (kp 38 (vP 0 12) (kp 39 (sv (St.queue s)) ?_)))))
        refine ra 40 (.slice (some ⟨3, 0, none⟩) (0 + List.length (St.queue s)) (0 + List.length (St.queue s))) (2) (Blk.mk 9 true ([] ++ Array.toList (List.toArray (ss (St.queue s))))) ?_ (hop := fun _ => o_append (e := 9) (2) (0) (0) _ (0) q1 q2)
        refine kp 41 (vP 1 5) (kp 42 (.string d) (md 43 (.slice (some ⟨4, 0, none⟩) 1 1) (Blk.mk 9 true [Value.string d]) ?_))
        refine ra 44 (.slice (some ⟨5, 0, none⟩) (0 + List.length (St.queue s) + 1) (0 + List.length (St.queue s) + 1)) (3) (Blk.mk 9 true (ss (St.queue s) ++ [Value.string d])) ?_ (hop := fun _ => o_append (e := 9) (3) (0) (0 + List.length (St.queue s)) _ (0 + List.length (St.queue s)) q3 q4 q5)
        refine kp 45 (vP 0 0) (kp 46 (vP 0 12) (ld (.tuple #[]) (0) (Blk.mk 92 true [vT, Value.bool (St.first s), vI (St.win s), vI (St.wait s), vI (St.tries s), vI (St.state s), vI (St.gen s), vI (St.sent s), vI (St.acked s), vI (St.wanted s), Value.bool (St.rej s), Value.bool (St.ren s), Value.slice (some ⟨5, 0, none⟩) (0 + List.length (St.queue s) + 1) (0 + List.length (St.queue s) + 1), Value.iface 9 (Value.iface (List.length (St.out s)) (Value.iface 3 (Value.agg (List.toArray (ss (St.out s)))))), vI (St.left s), vI (St.tried s)]) (WpOps.nil ?_)))
        refine ⟨by kernel_rfl, ?_⟩
        exact View.ofI [0] [rB s2] [] (by decide) rfl ⟨⟨rC s2 (.slice (some ⟨5, 0, none⟩) (0 + s.queue.length + 1) (0 + s.queue.length + 1)) (sv s2.out), by subst hs2; kernel_rfl, objR rfl (.own 5 (0 + s.queue.length + 1) (0 + s.queue.length + 1) (ss s.queue ++ [.string d]) rfl (by kernel_rfl) (by simp [hs2]) (by simp [hs2, ss]) (by decide)) (.same rfl)⟩, trivial⟩ trivial
      · refine kp 34 (vP 0 0) (md 35 (.slice (some ⟨2, 0, none⟩) 0 0) (Blk.mk 9 true []) (kp 36 (vP 0 0) (kp 37 (vP 0 0) (kp 38 (vP 0 12) (kp 39 (sv (St.queue s)) (kp 41 (vP 1 5) (kp 42 (.string d) (md 43 (.slice (some ⟨3, 0, none⟩) 1 1) (Blk.mk 9 true [Value.string d]) ?_))))))))
        refine ra 40 (.slice (some ⟨4, 0, none⟩) (0 + List.length (St.queue s)) (0 + List.length (St.queue s))) (2) (Blk.mk 9 true ([] ++ Array.toList (List.toArray (ss (St.queue s))))) ?_ (hop := fun _ => o_append (e := 9) (2) (0) (0) _ (0) q1 q2)
        refine ra 44 (.slice (some ⟨5, 0, none⟩) (0 + List.length (St.queue s) + 1) (0 + List.length (St.queue s) + 1)) (4) (Blk.mk 9 true (ss (St.queue s) ++ [Value.string d])) ?_ (hop := fun _ => o_append (e := 9) (4) (0) (0 + List.length (St.queue s)) _ (0 + List.length (St.queue s)) q3 q4 q5)
        refine kp 45 (vP 0 0) (kp 46 (vP 0 12) (ld (.tuple #[]) (0) (Blk.mk 92 true [vT, Value.bool (St.first s), vI (St.win s), vI (St.wait s), vI (St.tries s), vI (St.state s), vI (St.gen s), vI (St.sent s), vI (St.acked s), vI (St.wanted s), Value.bool (St.rej s), Value.bool (St.ren s), Value.slice (some ⟨5, 0, none⟩) (0 + List.length (St.queue s) + 1) (0 + List.length (St.queue s) + 1), Value.iface 9 (Value.iface (List.length (St.out s)) (Value.iface 3 (Value.agg (List.toArray (ss (St.out s)))))), vI (St.left s), vI (St.tried s)]) (WpOps.nil ?_)))
        refine ⟨by kernel_rfl, ?_⟩
        exact View.ofI [0] [rB s2] [] (by decide) rfl ⟨⟨rC s2 (.slice (some ⟨5, 0, none⟩) (0 + s.queue.length + 1) (0 + s.queue.length + 1)) (sv s2.out), by subst hs2; kernel_rfl, objR rfl (.own 5 (0 + s.queue.length + 1) (0 + s.queue.length + 1) (ss s.queue ++ [.string d]) rfl (by kernel_rfl) (by simp [hs2]) (by simp [hs2, ss]) (by decide)) (.same rfl)⟩, trivial⟩ trivial
      · refine kp 34 (vP 0 0) (kp 36 (vP 0 0) (kp 37 (vP 0 0) (kp 38 (vP 0 12) (kp 39 (sv (St.queue s)) (kp 41 (vP 1 5) (kp 42 (.string d) (md 43 (.slice (some ⟨2, 0, none⟩) 1 1) (Blk.mk 9 true [Value.string d]) (md 35 (.slice (some ⟨3, 0, none⟩) 0 0) (Blk.mk 9 true []) ?_))))))))
        refine ra 40 (.slice (some ⟨4, 0, none⟩) (0 + List.length (St.queue s)) (0 + List.length (St.queue s))) (3) (Blk.mk 9 true ([] ++ Array.toList (List.toArray (ss (St.queue s))))) ?_ (hop := fun _ => o_append (e := 9) (3) (0) (0) _ (0) q1 q2)
        refine ra 44 (.slice (some ⟨5, 0, none⟩) (0 + List.length (St.queue s) + 1) (0 + List.length (St.queue s) + 1)) (4) (Blk.mk 9 true (ss (St.queue s) ++ [Value.string d])) ?_ (hop := fun _ => o_append (e := 9) (4) (0) (0 + List.length (St.queue s)) _ (0 + List.length (St.queue s)) q3 q4 q5)
        refine kp 45 (vP 0 0) (kp 46 (vP 0 12) (ld (.tuple #[]) (0) (Blk.mk 92 true [vT, Value.bool (St.first s), vI (St.win s), vI (St.wait s), vI (St.tries s), vI (St.state s), vI (St.gen s), vI (St.sent s), vI (St.acked s), vI (St.wanted s), Value.bool (St.rej s), Value.bool (St.ren s), Value.slice (some ⟨5, 0, none⟩) (0 + List.length (St.queue s) + 1) (0 + List.length (St.queue s) + 1), Value.iface 9 (Value.iface (List.length (St.out s)) (Value.iface 3 (Value.agg (List.toArray (ss (St.out s)))))), vI (St.left s), vI (St.tried s)]) (WpOps.nil ?_)))
        refine ⟨by kernel_rfl, ?_⟩
        exact View.ofI [0] [rB s2] [] (by decide) rfl ⟨⟨rC s2 (.slice (some ⟨5, 0, none⟩) (0 + s.queue.length + 1) (0 + s.queue.length + 1)) (sv s2.out), by subst hs2; kernel_rfl, objR rfl (.own 5 (0 + s.queue.length + 1) (0 + s.queue.length + 1) (ss s.queue ++ [.string d]) rfl (by kernel_rfl) (by simp [hs2]) (by simp [hs2, ss]) (by decide)) (.same rfl)⟩, trivial⟩ trivial
  · rw [if_neg (by decide), if_neg (by decide), if_pos rfl]
    by_cases hc : s.state ≠ 2 ∧ s.state ≠ 1
    · rw [if_pos hc]
      have d1 : ((s.state : Int) != 2) = true := bne_iff_ne.2 (by omega)
      have d2 : ((s.state : Int) != 1) = true := bne_iff_ne.2 (by omega)
      refine Lent.of f48 rfl (of_decide_eq_true (by kernel_rfl)) rfl rfl (Nat.le_refl _) rfl (rB_ok _) rfl ?_
      unfold rB rC sv
      try unfold lv
      refine Wp.seq (Wp.text (md 3 (vP 1 0) (Blk.mk 61 true [vI w, vI 3, vI a, vI b, vI c, Value.string d]) (kp 4 vN (kp 5 (vI 0) (WpOps.nil (thenK_at (Wp.seq (Wp.seq (Wp.text (kp 7 (vP 1 1) (kp 8 (vI 3) (WpOps.nil (thenK_at (Wp.block (Wp.seq (Wp.text (kp 10 vF (kp 9 vF (WpOps.nil (thenK_at (off' (Wp.seq (Wp.text (kp 22 vF (kp 21 vF (WpOps.nil (thenK_at (off' (Wp.skip (blockK_norm (thenK_at (Wp.seq (Wp.seq (Wp.text (kp 47 (vP 0 0) (kp 48 (vP 0 0) (kp 49 (vP 0 5) (kp 50 (vI (St.state s)) (kp 51 vT (kp 52 vT (kp 53 (vP 0 0) (kp 54 (vP 0 0) (kp 55 (vP 0 5) (kp 56 (vI (St.state s)) (kp 57 vT (kp 58 vT (WpOps.nil (thenK_at (on' (Wp.seq (Wp.text (kp 4 vN (kp 5 (vI 8) (WpOps.nil (thenK_at (Wp.ret (thenK_ret (endK_retn [vN, vI 8] (Value.tuple #[vN, vI 8]) (by kernel_rfl) (by kernel_rfl) ?_))))))))))))) (hop := fun _ => by_fact d2))))))) (hop := fun _ => by_fact d1))))))))))))))))))))))))))))))))))))))))
      exact endU (by kernel_rfl) rfl (.same rfl) (.same rfl) rfl (.nil rfl ha)
    · rw [if_neg hc]
      obtain ⟨s1, hs1⟩ : ∃ s1, s1 = ({ s with queue := [], state := 3 } : St) := ⟨_, rfl⟩
      have ea : s1.ans = [] := by rw [hs1]; exact ha
      have c1 := put73 s1 6 0 0 nob (by rw [ea]; exact Nat.zero_le _)
      have c2 := try74 (s1.snd 6 0 0 nob)
      rw [ea] at c1
      rw [← hs1]
      have h12 : ((s.state : Int) != 2) = false ∨ (((s.state : Int) != 2) = true ∧ ((s.state : Int) != 1) = false) := by
        by_cases h : s.state = 2
        · exact .inl (by rw [h]; rfl)
        · exact .inr ⟨bne_iff_ne.2 (by omega), by rw [show s.state = 1 by omega]; rfl⟩
      rcases h12 with d1 | ⟨d1, d2⟩
      · refine Lent.of f48 rfl (of_decide_eq_true (by kernel_rfl)) rfl rfl (Nat.le_refl _) rfl (rB_ok _) rfl ?_
        unfold rB rC sv
        try unfold lv
        refine Wp.seq (Wp.text (md 3 (vP 1 0) (Blk.mk 61 true [vI w, vI 3, vI a, vI b, vI c, Value.string d]) (kp 4 vN (kp 5 (vI 0) (WpOps.nil (thenK_at (Wp.seq (Wp.seq (Wp.text (kp 7 (vP 1 1) (kp 8 (vI 3) (WpOps.nil (thenK_at (Wp.block (Wp.seq (Wp.text (kp 10 vF (kp 9 vF (WpOps.nil (thenK_at (off' (Wp.seq (Wp.text (kp 22 vF (kp 21 vF (WpOps.nil (thenK_at (off' (Wp.skip (blockK_norm (thenK_at (Wp.seq (Wp.seq (Wp.text (kp 47 (vP 0 0) (kp 48 (vP 0 0) (kp 49 (vP 0 5) (kp 50 (vI (St.state s)) (kp 51 vF (kp 52 vF (um 53 (um 54 (um 55 (um 56 (um 57 (kp 58 vF (WpOps.nil (thenK_at (off' (Wp.skip (thenK_at (Wp.seq (Wp.text (kp 59 (vP 0 0) (kp 60 (vP 0 0) (kp 61 (vP 0 12) (ld (.tuple #[]) (0) (Blk.mk 92 true [vT, Value.bool (St.first s), vI (St.win s), vI (St.wait s), vI (St.tries s), vI (St.state s), vI (St.gen s), vI (St.sent s), vI (St.acked s), vI (St.wanted s), Value.bool (St.rej s), Value.bool (St.ren s), vN, Value.iface 9 (Value.iface (List.length (St.out s)) (Value.iface 3 (Value.agg (List.toArray (ss (St.out s)))))), vI (St.left s), vI (St.tried s)]) ?_)))))))))))))))))) (hop := fun _ => by_fact d1))))))))))))))))))))))))))))))))))))))))
        refine WpOps.nil (thenK_at (Wp.seq (Wp.text (kp 62 (vP 0 0) (kp 63 (vP 0 0) (kp 64 (vP 0 5) (ld (.tuple #[]) (0) (Blk.mk 92 true [vT, Value.bool (St.first s), vI (St.win s), vI (St.wait s), vI (St.tries s), vI 3, vI (St.gen s), vI (St.sent s), vI (St.acked s), vI (St.wanted s), Value.bool (St.rej s), Value.bool (St.ren s), vN, Value.iface 9 (Value.iface (List.length (St.out s)) (Value.iface 3 (Value.agg (List.toArray (ss (St.out s)))))), vI (St.left s), vI (St.tried s)]) (WpOps.nil (thenK_at (Wp.seq (Wp.text (kp 65 (vP 0 0) (cl 66 73 [vP 0 0, vN, vI 6, vI 0, vI 0, Value.string (ByteArray.mk #[])] ?_)))))))))))))
        refine WpCall.told [0, 1] [some (rB s1), none] (of_decide_eq_true (by kernel_rfl)) (by kernel_rfl) (by kernel_rfl) rfl (show [0].Nodup by decide) ⟨OneO.cells (rC s1 (.slice none 0 0) (sv s1.out)) (by subst hs1; kernel_rfl) (objN rfl (by rw [hs1])), trivial⟩ ?_
        refine WpCall.nil1 (WpCall.rf c1 (by kernel_rfl) rfl rfl rfl ?_)
        unfold rB rC sv
        try unfold lv
        refine kp 6 (lv (St.ans (St.snd 6 0 0 nob s1))) (WpOps.nil (thenK_at (Wp.seq (Wp.text (kp 67 (vP 0 0) (cl 68 74 [vP 0 0] (WpCall.rf c2 (by kernel_rfl) rfl (by kernel_rfl) (by kernel_rfl) (WpOps.nil (thenK_at (Wp.seq (Wp.text (kp 69 (lv (St.ans (St.snd 6 0 0 nob s1))) (kp 4 (lv (St.ans (St.snd 6 0 0 nob s1))) (kp 5 (vI 0) (WpOps.nil (thenK_at (Wp.ret (endK_retn [Value.iface 61 (Value.iface (List.length (St.ans (St.snd 6 0 0 nob s1))) (Value.iface 3 (Value.agg (List.toArray (evl (St.ans (St.snd 6 0 0 nob s1))))))), vI 0] (Value.tuple #[Value.iface 61 (Value.iface (List.length (St.ans (St.snd 6 0 0 nob s1))) (Value.iface 3 (Value.agg (List.toArray (evl (St.ans (St.snd 6 0 0 nob s1))))))), vI 0]) (by kernel_rfl) (by kernel_rfl) ?_))))))))))))))))))
        exact endU (by kernel_rfl) rfl (.same rfl) (.same rfl) rfl (.same rfl)
      · refine Lent.of f48 rfl (of_decide_eq_true (by kernel_rfl)) rfl rfl (Nat.le_refl _) rfl (rB_ok _) rfl ?_
        unfold rB rC sv
        try unfold lv
        refine Wp.seq (Wp.text (md 3 (vP 1 0) (Blk.mk 61 true [vI w, vI 3, vI a, vI b, vI c, Value.string d]) (kp 4 vN (kp 5 (vI 0) (WpOps.nil (thenK_at (Wp.seq (Wp.seq (Wp.text (kp 7 (vP 1 1) (kp 8 (vI 3) (WpOps.nil (thenK_at (Wp.block (Wp.seq (Wp.text (kp 10 vF (kp 9 vF (WpOps.nil (thenK_at (off' (Wp.seq (Wp.text (kp 22 vF (kp 21 vF (WpOps.nil (thenK_at (off' (Wp.skip (blockK_norm (thenK_at (Wp.seq (Wp.seq (Wp.text (kp 47 (vP 0 0) (kp 48 (vP 0 0) (kp 49 (vP 0 5) (kp 50 (vI (St.state s)) (kp 51 vT (kp 52 vT (kp 53 (vP 0 0) (kp 54 (vP 0 0) (kp 55 (vP 0 5) (kp 56 (vI (St.state s)) (kp 57 vF (kp 58 vF (WpOps.nil (thenK_at (off' (Wp.skip (thenK_at (Wp.seq (Wp.text (kp 59 (vP 0 0) (kp 60 (vP 0 0) (kp 61 (vP 0 12) (ld (.tuple #[]) (0) (Blk.mk 92 true [vT, Value.bool (St.first s), vI (St.win s), vI (St.wait s), vI (St.tries s), vI (St.state s), vI (St.gen s), vI (St.sent s), vI (St.acked s), vI (St.wanted s), Value.bool (St.rej s), Value.bool (St.ren s), vN, Value.iface 9 (Value.iface (List.length (St.out s)) (Value.iface 3 (Value.agg (List.toArray (ss (St.out s)))))), vI (St.left s), vI (St.tried s)]) ?_)))))))))))) (hop := fun _ => by_fact d2))))))) (hop := fun _ => by_fact d1))))))))))))))))))))))))))))))))))))))))
        refine WpOps.nil (thenK_at (Wp.seq (Wp.text (kp 62 (vP 0 0) (kp 63 (vP 0 0) (kp 64 (vP 0 5) (ld (.tuple #[]) (0) (Blk.mk 92 true [vT, Value.bool (St.first s), vI (St.win s), vI (St.wait s), vI (St.tries s), vI 3, vI (St.gen s), vI (St.sent s), vI (St.acked s), vI (St.wanted s), Value.bool (St.rej s), Value.bool (St.ren s), vN, Value.iface 9 (Value.iface (List.length (St.out s)) (Value.iface 3 (Value.agg (List.toArray (ss (St.out s)))))), vI (St.left s), vI (St.tried s)]) (WpOps.nil (thenK_at (Wp.seq (Wp.text (kp 65 (vP 0 0) (cl 66 73 [vP 0 0, vN, vI 6, vI 0, vI 0, Value.string (ByteArray.mk #[])] ?_)))))))))))))
        refine WpCall.told [0, 1] [some (rB s1), none] (of_decide_eq_true (by kernel_rfl)) (by kernel_rfl) (by kernel_rfl) rfl (show [0].Nodup by decide) ⟨OneO.cells (rC s1 (.slice none 0 0) (sv s1.out)) (by subst hs1; kernel_rfl) (objN rfl (by rw [hs1])), trivial⟩ ?_
        refine WpCall.nil1 (WpCall.rf c1 (by kernel_rfl) rfl rfl rfl ?_)
        unfold rB rC sv
        try unfold lv
        refine kp 6 (lv (St.ans (St.snd 6 0 0 nob s1))) (WpOps.nil (thenK_at (Wp.seq (Wp.text (kp 67 (vP 0 0) (cl 68 74 [vP 0 0] (WpCall.rf c2 (by kernel_rfl) rfl (by kernel_rfl) (by kernel_rfl) (WpOps.nil (thenK_at (Wp.seq (Wp.text (kp 69 (lv (St.ans (St.snd 6 0 0 nob s1))) (kp 4 (lv (St.ans (St.snd 6 0 0 nob s1))) (kp 5 (vI 0) (WpOps.nil (thenK_at (Wp.ret (endK_retn [Value.iface 61 (Value.iface (List.length (St.ans (St.snd 6 0 0 nob s1))) (Value.iface 3 (Value.agg (List.toArray (evl (St.ans (St.snd 6 0 0 nob s1))))))), vI 0] (Value.tuple #[Value.iface 61 (Value.iface (List.length (St.ans (St.snd 6 0 0 nob s1))) (Value.iface 3 (Value.agg (List.toArray (evl (St.ans (St.snd 6 0 0 nob s1))))))), vI 0]) (by kernel_rfl) (by kernel_rfl) ?_))))))))))))))))))
        exact endU (by kernel_rfl) rfl (.same rfl) (.same rfl) rfl (.same rfl)
end Go.Proofs.Ytgefohjickhldaa.D
