/- A station's user; what waits is sent; what tells its numbers -/
import Derived.Test.YtgefohjickhldaaFwLem
import Derived.Test.YtgefohjickhldaaFwTold
import Derived.Test.YtgefohjickhldaaT10h
namespace Go.Proofs.Ytgefohjickhldaa.D
open Go.Fw Go.RowKit

theorem objT {hR : Heap} {rl : List Nat} {m : Nat} {s' : St} {cells : List Value} {vq vo va : Value} {p q o a : Nat} (hc : cells = stC s' vq vo va) (tq : TC E hR rl m vq (rowQ s' p q)) (to : TC E hR rl m vo (rowO s' o)) (ta : TC E hR rl m va (rowA s' a)) : All2 (TC E hR rl m) cells (sB s' p q o a).cells := by
  subst hc
  have nn : ∀ n : Int, TC E hR rl m (.int .i64 n) (.int .i64 n) := fun n => .un rfl rfl
  have bb : ∀ n : Bool, TC E hR rl m (.bool n) (.bool n) := fun n => .un rfl rfl
  exact .cons (nn _) (.cons (nn _) (.cons (nn _) (.cons (nn _) (.cons (bb _) (.cons (nn _) (.cons (nn _) (.cons (nn _) (.cons (nn _) (.cons (nn _) (.cons (nn _) (.cons (bb _) (.cons (bb _) (.cons tq (.cons to (.cons ta .nil)))))))))))))))
theorem len_succ {α : Type} (l : List α) (e : α) : l.length + 1 = (l ++ [e]).length := by simp
theorem ss_snoc (l : List ByteArray) (d : ByteArray) : ss l ++ [.string d] = ss ([] ++ (l ++ [d])) := by simp [ss]
def evv (w k a b c : Int) (d : ByteArray) : Value := .agg #[.int .i64 w, .int .i64 k, .int .i64 a, .int .i64 b, .int .i64 c, .string d]
theorem f44 : E.funcs 44 = some Try.f44 := by kernel_rfl
theorem user44 (s : St) (pre : List ByteArray) (w k a b c : Int) (d : ByteArray) (hd : d.size ≤ 140737488351232) (hA : s.ans.length ≤ 10000) (hok : s.Ok) : ∃ pre', Ct 44 [evv w k a b c d] s pre (.int .i64 (s.usr k d).1) (s.usr k d).2 pre' := by
  unfold St.usr evv
  by_cases h1 : k = 1
  · subst h1
    rw [if_pos rfl]
    by_cases h0 : s.state = 0
    · rw [if_neg (by omega)]
      have d1 : ((s.state : Int) != 0) = false := by rw [h0]; rfl
      obtain ⟨s1, hs1⟩ : ∃ s1, s1 = ({ s with ren := false } : St) := ⟨_, rfl⟩
      have c1 := begin62 s1 pre (by subst hs1; show s.ans.length ≤ _; omega) (by subst hs1; exact hok.gen)
      rw [← hs1]
      refine ⟨pre, Ct.of f44 rfl (of_decide_eq_true (by kernel_rfl)) rfl rfl ?_⟩
      unfold stIn sB stC rowQ rowO rowA qB aB
      refine Wp.seq (Wp.text (md 3 (vP 4 0) (Blk.mk 61 true [vI w, vI 1, vI a, vI b, vI c, Value.string d]) (kp 4 (vI 0) (WpOps.nil (thenK_at (Wp.seq (Wp.seq (Wp.text (kp 5 (vP 4 1) (kp 6 (vI 1) (WpOps.nil (thenK_at (Wp.block (Wp.seq (Wp.text (kp 8 vT (kp 7 vT (WpOps.nil (thenK_at (on' (Wp.seq (Wp.seq (Wp.text (kp 9 (vP 0 0) (kp 10 (vP 0 0) (kp 11 (vP 0 6) (kp 12 (vI (St.state s)) (kp 13 vF (WpOps.nil (thenK_at (off' (Wp.skip (thenK_at (Wp.seq (Wp.text (kp 14 (vP 0 0) (kp 15 (vP 0 0) (kp 16 (vP 0 12) (ld (.tuple #[]) (0) (Blk.mk 73 true [vI (St.left s), vI (St.wait s), vI (St.tried s), vI (St.tries s), Value.bool (St.first s), vI (St.win s), vI (St.state s), vI (St.gen s), vI (St.sent s), vI (St.acked s), vI (St.wanted s), Value.bool (St.rej s), vF, Value.slice (some (Addr.mk 1 (List.length pre) none)) (List.length (St.queue s)) (List.length (St.queue s)), Value.slice (some ⟨2, 0, none⟩) (List.length (St.out s)) (List.length (St.out s)), Value.slice (some ⟨3, 0, none⟩) (List.length (St.ans s)) (List.length (St.ans s))]) ?_))))))))))) (hop := fun _ => by_fact d1)))))))))))))))))))))))))))))
      refine WpOps.nil (thenK_at (Wp.text (kp 17 (vP 0 0) (cl 18 62 [vP 0 0] ?_))))
      refine WpCall.st 0 1 2 3 c1 (by decide) (by kernel_rfl) (by subst hs1; rfl) (by subst hs1; kernel_rfl) (by subst hs1; kernel_rfl) (by subst hs1; kernel_rfl) rfl (fun _ => rfl) ?_
      unfold behind sB stC rowQ rowO rowA qB aB
      refine WpOps.nil (blockK_norm (thenK_at (Wp.seq (Wp.text (kp 4 (vI 0) (WpOps.nil (thenK_at (Wp.ret (endK_retn [vI 0] (vI 0) (by kernel_rfl) (by kernel_rfl) ?_)))))))))
      exact endSt 5 6 7 (by kernel_rfl) rfl (by decide) (.is rfl (by kernel_rfl) rfl rfl) (.is rfl (by kernel_rfl) rfl rfl) (.is rfl (by kernel_rfl) rfl rfl) rfl (fun _ => rfl) rfl
    · rw [if_pos h0]
      have d1 : ((s.state : Int) != 0) = true := bne_iff_ne.2 (by omega)
      refine ⟨pre, Ct.of f44 rfl (of_decide_eq_true (by kernel_rfl)) rfl rfl ?_⟩
      unfold stIn sB stC rowQ rowO rowA qB aB
      refine Wp.seq (Wp.text (md 3 (vP 4 0) (Blk.mk 61 true [vI w, vI 1, vI a, vI b, vI c, Value.string d]) (kp 4 (vI 0) (WpOps.nil (thenK_at (Wp.seq (Wp.seq (Wp.text (kp 5 (vP 4 1) (kp 6 (vI 1) (WpOps.nil (thenK_at (Wp.block (Wp.seq (Wp.text (kp 8 vT (kp 7 vT (WpOps.nil (thenK_at (on' (Wp.seq (Wp.seq (Wp.text (kp 9 (vP 0 0) (kp 10 (vP 0 0) (kp 11 (vP 0 6) (kp 12 (vI (St.state s)) (kp 13 vT (WpOps.nil (thenK_at (on' (Wp.seq (Wp.text (kp 4 (vI 8) (WpOps.nil (thenK_at (Wp.ret (thenK_ret (blockK_ret (thenK_ret (endK_retn [vI 8] (vI 8) (by kernel_rfl) (by kernel_rfl) ?_))))))))))))) (hop := fun _ => by_fact d1)))))))))))))))))))))))))))))
      exact endSt 1 2 3 (by kernel_rfl) rfl (by decide) (.is rfl (by kernel_rfl) rfl rfl) (.is rfl (by kernel_rfl) rfl rfl) (.is rfl (by kernel_rfl) rfl rfl) rfl (fun _ => rfl) rfl
  rw [if_neg h1]
  have dk1 : (k == 1) = false := beq_false_of_ne h1
  by_cases h2 : k = 2
  · subst h2
    rw [if_pos rfl]
    by_cases hz : d.size > 1000
    · rw [if_pos hz]
      have d1 : decide ((d.size : Int) > 1000) = true := decide_eq_true (by omega)
      refine ⟨pre, Ct.of f44 rfl (of_decide_eq_true (by kernel_rfl)) rfl rfl ?_⟩
      unfold stIn sB stC rowQ rowO rowA qB aB
      refine Wp.seq (Wp.text (md 3 (vP 4 0) (Blk.mk 61 true [vI w, vI 2, vI a, vI b, vI c, Value.string d]) (kp 4 (vI 0) (WpOps.nil (thenK_at (Wp.seq (Wp.seq (Wp.text (kp 5 (vP 4 1) (kp 6 (vI 2) (WpOps.nil (thenK_at (Wp.block (Wp.seq (Wp.text (kp 8 vF (kp 7 vF (WpOps.nil (thenK_at (off' (Wp.seq (Wp.text (kp 20 vT (kp 19 vT (WpOps.nil (thenK_at (on' (Wp.seq (Wp.block (Wp.seq (Wp.text (kp 22 (vP 4 5) (kp 23 (.string d) (kp 24 (vI (ByteArray.size d)) (kp 25 vT (kp 21 vT (WpOps.nil (thenK_at (on' (Wp.seq (Wp.text (kp 4 (vI 1) (WpOps.nil (thenK_at (Wp.ret (blockK_ret (thenK_ret (blockK_ret (thenK_ret (endK_retn [vI 1] (vI 1) (by kernel_rfl) (by kernel_rfl) ?_))))))))))))))) (hop := fun _ => by_fact d1))))))))))))))))))))))))))))))))))))
      exact endSt 1 2 3 (by kernel_rfl) rfl (by decide) (.is rfl (by kernel_rfl) rfl rfl) (.is rfl (by kernel_rfl) rfl rfl) (.is rfl (by kernel_rfl) rfl rfl) rfl (fun _ => rfl) rfl
    rw [if_neg hz]
    have d1 : decide ((d.size : Int) > 1000) = false := decide_eq_false (by omega)
    by_cases h0 : s.state ≠ 2
    · rw [if_pos h0]
      have d2 : ((s.state : Int) != 2) = true := bne_iff_ne.2 (by omega)
      refine ⟨pre, Ct.of f44 rfl (of_decide_eq_true (by kernel_rfl)) rfl rfl ?_⟩
      unfold stIn sB stC rowQ rowO rowA qB aB
      refine Wp.seq (Wp.text (md 3 (vP 4 0) (Blk.mk 61 true [vI w, vI 2, vI a, vI b, vI c, Value.string d]) (kp 4 (vI 0) (WpOps.nil (thenK_at (Wp.seq (Wp.seq (Wp.text (kp 5 (vP 4 1) (kp 6 (vI 2) (WpOps.nil (thenK_at (Wp.block (Wp.seq (Wp.text (kp 8 vF (kp 7 vF (WpOps.nil (thenK_at (off' (Wp.seq (Wp.text (kp 20 vT (kp 19 vT (WpOps.nil (thenK_at (on' (Wp.seq (Wp.block (Wp.seq (Wp.text (kp 22 (vP 4 5) (kp 23 (.string d) (kp 24 (vI (ByteArray.size d)) (kp 25 vF (kp 21 vF (WpOps.nil (thenK_at (off' (Wp.seq (Wp.text (kp 27 (vP 0 0) (kp 28 (vP 0 0) (kp 29 (vP 0 6) (kp 30 (vI (St.state s)) (kp 31 vT (kp 26 vT (WpOps.nil (thenK_at (on' (Wp.seq (Wp.text (kp 4 (vI 8) (WpOps.nil (thenK_at (Wp.ret (blockK_ret (thenK_ret (blockK_ret (thenK_ret (endK_retn [vI 8] (vI 8) (by kernel_rfl) (by kernel_rfl) ?_))))))))))))))) (hop := fun _ => by_fact d2)))))))))))) (hop := fun _ => by_fact d1))))))))))))))))))))))))))))))))))))
      exact endSt 1 2 3 (by kernel_rfl) rfl (by decide) (.is rfl (by kernel_rfl) rfl rfl) (.is rfl (by kernel_rfl) rfl rfl) (.is rfl (by kernel_rfl) rfl rfl) rfl (fun _ => rfl) rfl
    rw [if_neg h0]
    have d2 : ((s.state : Int) != 2) = false := by rw [show s.state = 2 by omega]; rfl
    by_cases hq : s.queue.length ≥ 20
    · rw [if_pos hq]
      have d3 : decide ((s.queue.length : Int) ≥ 20) = true := decide_eq_true (by omega)
      refine ⟨pre, Ct.of f44 rfl (of_decide_eq_true (by kernel_rfl)) rfl rfl ?_⟩
      unfold stIn sB stC rowQ rowO rowA qB aB
      refine Wp.seq (Wp.text (md 3 (vP 4 0) (Blk.mk 61 true [vI w, vI 2, vI a, vI b, vI c, Value.string d]) (kp 4 (vI 0) (WpOps.nil (thenK_at (Wp.seq (Wp.seq (Wp.text (kp 5 (vP 4 1) (kp 6 (vI 2) (WpOps.nil (thenK_at (Wp.block (Wp.seq (Wp.text (kp 8 vF (kp 7 vF (WpOps.nil (thenK_at (off' (Wp.seq (Wp.text (kp 20 vT (kp 19 vT (WpOps.nil (thenK_at (on' (Wp.seq (Wp.block (Wp.seq (Wp.text (kp 22 (vP 4 5) (kp 23 (.string d) (kp 24 (vI (ByteArray.size d)) (kp 25 vF (kp 21 vF (WpOps.nil (thenK_at (off' (Wp.seq (Wp.text (kp 27 (vP 0 0) (kp 28 (vP 0 0) (kp 29 (vP 0 6) (kp 30 (vI (St.state s)) (kp 31 vF (kp 26 vF (WpOps.nil (thenK_at (off' (Wp.seq (Wp.text (kp 33 (vP 0 0) (kp 34 (vP 0 0) (kp 35 (vP 0 13) (kp 36 (.slice (some (Addr.mk 1 (List.length pre) none)) (List.length (St.queue s)) (List.length (St.queue s))) (kp 37 (vI (List.length (St.queue s))) (kp 38 vT (kp 32 vT (WpOps.nil (thenK_at (on' (Wp.seq (Wp.text (kp 4 (vI 9) (WpOps.nil (thenK_at (Wp.ret (blockK_ret (thenK_ret (blockK_ret (thenK_ret ?_)))))))))))))) (hop := fun _ => by_fact d3))))))))))))) (hop := fun _ => by_fact d2)))))))))))) (hop := fun _ => by_fact d1))))))))))))))))))))))))))))))))))))
      refine endK_retn [vI 9] (vI 9) (by kernel_rfl) (by kernel_rfl) ?_
      exact endSt 1 2 3 (by kernel_rfl) rfl (by decide) (.is rfl (by kernel_rfl) rfl rfl) (.is rfl (by kernel_rfl) rfl rfl) (.is rfl (by kernel_rfl) rfl rfl) rfl (fun _ => rfl) rfl
    rw [if_neg hq]
    have d3 : decide ((s.queue.length : Int) ≥ 20) = false := decide_eq_false (by omega)
    have q0 : cellsAt (ss (pre ++ s.queue)) pre.length (s.queue.length * 1) = some (ss s.queue) := by rw [ss_app]; exact cellsAt_off _ _ (ss_len _) (by rw [ss_len, Nat.mul_one])
    have q1 : ¬ s.queue.length + 1 ≤ s.queue.length := by omega
    have q2 : 1 ≤ 16 ∧ (s.queue.length + 1) * 16 ≤ 140737488355328 ∧ 1 = 1 ∧ s.queue.length + 1 ≤ 9223372036854775807 := by omega
    refine ⟨[], Ct.of f44 rfl (of_decide_eq_true (by kernel_rfl)) rfl rfl ?_⟩
    unfold stIn sB stC rowQ rowO rowA qB aB
    refine Wp.seq (Wp.text (md 3 (vP 4 0) (Blk.mk 61 true [vI w, vI 2, vI a, vI b, vI c, Value.string d]) (kp 4 (vI 0) (WpOps.nil (thenK_at (Wp.seq (Wp.seq (Wp.text (kp 5 (vP 4 1) (kp 6 (vI 2) (WpOps.nil (thenK_at (Wp.block (Wp.seq (Wp.text (kp 8 vF (kp 7 vF (WpOps.nil (thenK_at (off' (Wp.seq (Wp.text (kp 20 vT (kp 19 vT (WpOps.nil (thenK_at (on' (Wp.seq (Wp.block (Wp.seq (Wp.text (kp 22 (vP 4 5) (kp 23 (.string d) (kp 24 (vI (ByteArray.size d)) (kp 25 vF (kp 21 vF (WpOps.nil (thenK_at (off' (Wp.seq (Wp.text (kp 27 (vP 0 0) (kp 28 (vP 0 0) (kp 29 (vP 0 6) (kp 30 (vI (St.state s)) (kp 31 vF (kp 26 vF (WpOps.nil (thenK_at (off' (Wp.seq (Wp.text (kp 33 (vP 0 0) (kp 34 (vP 0 0) (kp 35 (vP 0 13) (kp 36 (.slice (some (Addr.mk 1 (List.length pre) none)) (List.length (St.queue s)) (List.length (St.queue s))) (kp 37 (vI (List.length (St.queue s))) (kp 38 vF (kp 32 vF (WpOps.nil (thenK_at (off' (Wp.skip (blockK_norm (thenK_at (Wp.region (by kernel_rfl) ?_)))))))) (hop := fun _ => by_fact d3))))))))))))) (hop := fun _ => by_fact d2)))))))))))) (hop := fun _ => by_fact d1))))))))))))))))))))))))))))))))))))
    refine kp 39 (vP 0 0) (kp 40 (vP 0 0) (kp 41 (vP 0 0) (kp 42 (vP 0 13) (kp 43 (.slice (some (Addr.mk 1 (List.length pre) none)) (List.length (St.queue s)) (List.length (St.queue s))) (kp 44 (vP 4 5) (kp 45 (.string d) (md 46 (.slice (some ⟨5, 0, none⟩) 1 1) (Blk.mk 9 true [Value.string d]) ?_)))))))
    refine ra 47 (.slice (some ⟨6, 0, none⟩) (List.length (St.queue s) + 1) (List.length (St.queue s) + 1)) (1) (Blk.mk 9 true (ss (St.queue s) ++ [Value.string d])) ?_ (hop := fun _ => o_append (e := 9) (1) (List.length pre) (List.length (St.queue s)) _ (List.length (St.queue s)) q1 q2 q0)
    refine kp 48 (vP 0 0) (kp 49 (vP 0 13) (ld (.tuple #[]) (0) (Blk.mk 73 true [vI (St.left s), vI (St.wait s), vI (St.tried s), vI (St.tries s), Value.bool (St.first s), vI (St.win s), vI (St.state s), vI (St.gen s), vI (St.sent s), vI (St.acked s), vI (St.wanted s), Value.bool (St.rej s), Value.bool (St.ren s), Value.slice (some ⟨6, 0, none⟩) (List.length (St.queue s) + 1) (List.length (St.queue s) + 1), Value.slice (some ⟨2, 0, none⟩) (List.length (St.out s)) (List.length (St.out s)), Value.slice (some ⟨3, 0, none⟩) (List.length (St.ans s)) (List.length (St.ans s))]) (WpOps.nil (blockK_norm (thenK_at (Wp.seq (Wp.text (kp 4 (vI 0) (WpOps.nil (thenK_at (Wp.ret (endK_retn [vI 0] (vI 0) (by kernel_rfl) (by kernel_rfl) ?_))))))))))))
    exact endSt 6 2 3 (by kernel_rfl) rfl (by decide) (.is rfl (by kernel_rfl) (len_succ _ _) (ss_snoc _ _)) (.is rfl (by kernel_rfl) rfl rfl) (.is rfl (by kernel_rfl) rfl rfl) rfl (fun _ => rfl) rfl
  rw [if_neg h2]
  have dk2 : (k == 2) = false := beq_false_of_ne h2
  by_cases h3 : k = 3
  · subst h3
    rw [if_pos rfl]
    by_cases hc : s.state ≠ 2 ∧ s.state ≠ 1
    · rw [if_pos hc]
      have d1 : ((s.state : Int) != 2) = true := bne_iff_ne.2 (by omega)
      have d2 : ((s.state : Int) != 1) = true := bne_iff_ne.2 (by omega)
      refine ⟨pre, Ct.of f44 rfl (of_decide_eq_true (by kernel_rfl)) rfl rfl ?_⟩
      unfold stIn sB stC rowQ rowO rowA qB aB
      refine Wp.seq (Wp.text (md 3 (vP 4 0) (Blk.mk 61 true [vI w, vI 3, vI a, vI b, vI c, Value.string d]) (kp 4 (vI 0) (WpOps.nil (thenK_at (Wp.seq (Wp.seq (Wp.text (kp 5 (vP 4 1) (kp 6 (vI 3) (WpOps.nil (thenK_at (Wp.block (Wp.seq (Wp.text (kp 8 vF (kp 7 vF (WpOps.nil (thenK_at (off' (Wp.seq (Wp.text (kp 20 vF (kp 19 vF (WpOps.nil (thenK_at (off' (Wp.seq (Wp.text (kp 51 vT (kp 50 vT (WpOps.nil (thenK_at (on' (Wp.seq (Wp.seq (Wp.text (kp 52 (vP 0 0) (kp 53 (vP 0 0) (kp 54 (vP 0 6) (kp 55 (vI (St.state s)) (kp 56 vT (kp 57 vT (kp 58 (vP 0 0) (kp 59 (vP 0 0) (kp 60 (vP 0 6) (kp 61 (vI (St.state s)) (kp 62 vT (kp 63 vT (WpOps.nil (thenK_at (on' (Wp.seq (Wp.text (kp 4 (vI 8) (WpOps.nil (thenK_at (Wp.ret (thenK_ret (blockK_ret (thenK_ret (endK_retn [vI 8] (vI 8) (by kernel_rfl) (by kernel_rfl) ?_)))))))))))))) (hop := fun _ => by_fact d2))))))) (hop := fun _ => by_fact d1)))))))))))))))))))))))))))))))))))))))))))
      exact endSt 1 2 3 (by kernel_rfl) rfl (by decide) (.is rfl (by kernel_rfl) rfl rfl) (.is rfl (by kernel_rfl) rfl rfl) (.is rfl (by kernel_rfl) rfl rfl) rfl (fun _ => rfl) rfl
    · rw [if_neg hc]
      obtain ⟨s1, hs1⟩ : ∃ s1, s1 = ({ s with queue := [], state := 3 } : St) := ⟨_, rfl⟩
      have c1 := send63 s1 [] 6 0 0 nob (by decide) (by subst hs1; show s.ans.length ≤ _; omega)
      have c2 := start64 (s1.snd 6 0 0 nob) []
      rw [← hs1]
      refine ⟨[], Ct.of f44 rfl (of_decide_eq_true (by kernel_rfl)) rfl rfl ?_⟩
      unfold stIn sB stC rowQ rowO rowA qB aB
      refine Wp.seq (Wp.text (md 3 (vP 4 0) (Blk.mk 61 true [vI w, vI 3, vI a, vI b, vI c, Value.string d]) (kp 4 (vI 0) (WpOps.nil (thenK_at (Wp.seq (Wp.seq (Wp.text (kp 5 (vP 4 1) (kp 6 (vI 3) (WpOps.nil (thenK_at (Wp.block (Wp.seq (Wp.text (kp 8 vF (kp 7 vF (WpOps.nil (thenK_at (off' (Wp.seq (Wp.text (kp 20 vF (kp 19 vF (WpOps.nil (thenK_at (off' (Wp.seq (Wp.text (kp 51 vT (kp 50 vT (WpOps.nil (thenK_at (on' (Wp.seq (Wp.seq (Wp.text (kp 52 (vP 0 0) (kp 53 (vP 0 0) (kp 54 (vP 0 6) (kp 55 (vI (St.state s)) (kp 56 (.bool ((↑(St.state s) : Int) != 2)) (kp 57 (.bool ((↑(St.state s) : Int) != 2)) ?_)))))))))))))))))))))))))))))))))))))))))))
      refine WpOps.fork 6 ((↑(St.state s) : Int) != 2) [58, 59, 60, 61, 62, 63] 63 ((↑(St.state s) : Int) != 1) (false) (by kernel_rfl) (fun g63 => ?_) (fun g63 => ?_) (fun f_63 b63 hb63 => ?_)
      · refine kp 58 (vP 0 0) (kp 59 (vP 0 0) (kp 60 (vP 0 6) (kp 61 (vI (St.state s)) (kp 62 (.bool ((↑(St.state s) : Int) != 1)) (kp 63 (.bool ((↑(St.state s) : Int) != 1)) (WpOps.nil ?_) (hop := fun _ => o_pickT g63)) (hw := wants_tt g63)) (hw := wants_tt g63)) (hw := wants_tt g63)) (hw := wants_tt g63)) (hw := wants_tt g63)
        exact ⟨rfl, (.upd rfl (.upd rfl (.upd rfl (.upd rfl (.upd rfl (.upd rfl .refl)))))), (by kernel_rfl)⟩
      · refine um 58 (um 59 (um 60 (um 61 (um 62 (kp 63 vF (WpOps.nil ?_) (hop := fun _ => o_pickF g63)) (hw := wants_ft g63)) (hw := wants_ft g63)) (hw := wants_ft g63)) (hw := wants_ft g63)) (hw := wants_ft g63)
        exact ⟨rfl, (.upd rfl (.upd rfl (.upd rfl (.upd rfl (.upd rfl (.upd rfl .refl)))))), (by kernel_rfl)⟩
      refine WpOps.nil (thenK_at ?_)
      obtain rfl : b63 = false := by
        rw [hb63]
        have h12 : s.state = 2 ∨ s.state = 1 := by omega
        rcases h12 with h | h <;> rw [h] <;> rfl
      refine off' (Wp.skip (thenK_at (Wp.seq (Wp.text (kp 64 (vP 0 0) (kp 65 (vP 0 0) (kp 66 (vP 0 13) (ld (.tuple #[]) (0) (Blk.mk 73 true [vI (St.left s), vI (St.wait s), vI (St.tried s), vI (St.tries s), Value.bool (St.first s), vI (St.win s), vI (St.state s), vI (St.gen s), vI (St.sent s), vI (St.acked s), vI (St.wanted s), Value.bool (St.rej s), Value.bool (St.ren s), vN, Value.slice (some ⟨2, 0, none⟩) (List.length (St.out s)) (List.length (St.out s)), Value.slice (some ⟨3, 0, none⟩) (List.length (St.ans s)) (List.length (St.ans s))]) (WpOps.nil (thenK_at (Wp.seq (Wp.text (kp 67 (vP 0 0) (kp 68 (vP 0 0) (kp 69 (vP 0 6) (ld (.tuple #[]) (0) (Blk.mk 73 true [vI (St.left s), vI (St.wait s), vI (St.tried s), vI (St.tries s), Value.bool (St.first s), vI (St.win s), vI 3, vI (St.gen s), vI (St.sent s), vI (St.acked s), vI (St.wanted s), Value.bool (St.rej s), Value.bool (St.ren s), vN, Value.slice (some ⟨2, 0, none⟩) (List.length (St.out s)) (List.length (St.out s)), Value.slice (some ⟨3, 0, none⟩) (List.length (St.ans s)) (List.length (St.ans s))]) (WpOps.nil (thenK_at (Wp.seq (Wp.text ?_))))))))))))))))))))
      refine kp 70 (vP 0 0) (cl 71 63 [vP 0 0, Value.int .u8 6, vI 0, vI 0, Value.string (ByteArray.mk #[])] ?_)
      subst hs1
      refine WpCall.told [0, 1, 2, 3, 4] [some (sB { s with queue := [], state := 3 } 0 1 2 3), some (qB []), some (qB s.out), some (aB s.ans), none] (of_decide_eq_true (by kernel_rfl)) (by kernel_rfl) (by kernel_rfl) rfl (show [0, 1, 2, 3].Nodup by decide) ⟨OneO.cells _ (by kernel_rfl) (objT rfl (.bare 1 0 rfl rfl (by show 1 < 5; decide)) (.un rfl rfl) (.un rfl rfl)), (RowE.nil (n := 0) (p := 0) rfl rfl rfl rfl (by kernel_rfl)).one rfl, OneO.flat _ (by kernel_rfl) rfl (ss_flat _), OneO.flat _ (by kernel_rfl) rfl (evl_flat _), trivial⟩ ?_
      refine WpCall.st 0 1 2 3 c1 (by decide) (by kernel_rfl) rfl (by kernel_rfl) (by kernel_rfl) (by kernel_rfl) rfl (fun _ => rfl) ?_
      unfold behind sB stC rowQ rowO rowA qB aB
      refine WpOps.nil (thenK_at (Wp.text (kp 72 (vP 0 0) (kp 73 (vP 0 0) (kp 74 (vP 0 0) (cl 75 64 [vP 0 0] ?_))))))
      refine WpCall.st 0 5 6 7 c2 (by decide) (by kernel_rfl) rfl (by kernel_rfl) (by kernel_rfl) (by kernel_rfl) rfl (fun _ => rfl) ?_
      unfold behind sB stC rowQ rowO rowA qB aB
      refine WpOps.nil (blockK_norm (thenK_at (Wp.seq (Wp.text (kp 4 (vI 0) (WpOps.nil (thenK_at (Wp.ret (endK_retn [vI 0] (vI 0) (by kernel_rfl) (by kernel_rfl) ?_)))))))))
      exact endSt 8 9 10 (by kernel_rfl) rfl (by decide) (.is rfl (by kernel_rfl) rfl rfl) (.is rfl (by kernel_rfl) rfl rfl) (.is rfl (by kernel_rfl) rfl rfl) rfl (fun _ => rfl) rfl
  · rw [if_neg h3]
    have dk3 : (k == 3) = false := beq_false_of_ne h3
    refine ⟨pre, Ct.of f44 rfl (of_decide_eq_true (by kernel_rfl)) rfl rfl ?_⟩
    unfold stIn sB stC rowQ rowO rowA qB aB
    refine Wp.seq (Wp.text (md 3 (vP 4 0) (Blk.mk 61 true [vI w, vI k, vI a, vI b, vI c, Value.string d]) (kp 4 (vI 0) (WpOps.nil (thenK_at (Wp.seq (Wp.seq (Wp.text (kp 5 (vP 4 1) (kp 6 (vI k) (WpOps.nil (thenK_at (Wp.block (Wp.seq (Wp.text (kp 8 vF (kp 7 vF (WpOps.nil (thenK_at (off' (Wp.seq (Wp.text (kp 20 vF (kp 19 vF (WpOps.nil (thenK_at (off' (Wp.seq (Wp.text (kp 51 vF (kp 50 vF (WpOps.nil (thenK_at (off' (Wp.seq (Wp.text (kp 4 (vI 1) (WpOps.nil (thenK_at (Wp.ret (blockK_ret (thenK_ret (endK_retn [vI 1] (vI 1) (by kernel_rfl) (by kernel_rfl) ?_))))))))))))) (hop := fun _ => by_fact dk3)))))))) (hop := fun _ => by_fact dk2)))))))) (hop := fun _ => by_fact dk1)))))))))))))))))
    exact endSt 1 2 3 (by kernel_rfl) rfl (by decide) (.is rfl (by kernel_rfl) rfl rfl) (.is rfl (by kernel_rfl) rfl rfl) (.is rfl (by kernel_rfl) rfl rfl) rfl (fun _ => rfl) rfl
open Go.Fw Go.RowKit

namespace St
/-- What has been taken off the queue, too. -/
def floP : Nat → St → List ByteArray → List ByteArray
  | 0, _, p => p
  | n + 1, s, p => if s.may then floP n (flo1 s) (p ++ [s.queue.headD nob]) else p
end St
theorem flo1_queue {s : St} {d : ByteArray} {q : List ByteArray} (h : s.queue = d :: q) : s.flo1.queue = q := by
  unfold St.flo1
  rw [h]
  dsimp only [St.snd, St.sta, List.headD, List.tail]
  split <;> rfl
/-- What is needed of a station while it sends. -/
structure Flo (s : St) (m : Nat) : Prop where
  sent : s.sent ≤ 7
  wanted : s.wanted ≤ 7
  win : s.win ≤ 7
  out : s.out.length ≤ s.win
  queue : s.queue.length ≤ 20
  ans : s.ans.length + s.queue.length ≤ m
theorem Flo.next {s : St} {m : Nat} {d : ByteArray} {q : List ByteArray} (f : Flo s m) (h : s.queue = d :: q) (hm : s.may) : Flo s.flo1 m := by
  have hq := flo1_queue h
  obtain ⟨h1, h2, h3⟩ := hm
  have f5 := f.queue
  have f6 := f.ans
  have f3 := f.win
  have hl : s.queue.length = q.length + 1 := by rw [h]; rfl
  have hs : s.flo1.sent = (s.sent + 1) % 8 ∧ s.flo1.wanted = s.wanted ∧ s.flo1.win = s.win ∧ s.flo1.out.length = s.out.length + 1 ∧ s.flo1.ans.length = s.ans.length + 1 := by
    unfold St.flo1
    dsimp only [St.snd, St.sta]
    split <;> simp
  obtain ⟨e1, e2, e3, e4, e5⟩ := hs
  exact ⟨by omega, by rw [e2]; exact f.wanted, by omega, by omega, by rw [hq]; omega, by rw [hq]; omega⟩
theorem blksS {h : Heap} {s' : St} {pre' : List ByteArray} (q o a : Nat) {cells : List Value} {vq vo va : Value} (h0 : h.get 0 = some ⟨73, true, cells⟩) (hc : cells = stC s' vq vo va) (rq' : RowE h 9 vq q pre'.length s'.queue.length (ss (pre' ++ s'.queue))) (ro' : RowE h 9 vo o 0 s'.out.length (ss s'.out)) (ra' : RowE h 61 va a 0 s'.ans.length (evl s'.ans)) :
    BlksO E h [0, 1, 2, 3, q, o, a] 7 [0, 1, 2, 3, q, o, a] (stOut s' pre') :=
  ⟨OneO.cells _ h0 (objT hc (rq'.cell (b := 4) (by decide : 4 < 7) rfl) (ro'.cell (b := 5) (by decide : 5 < 7) rfl) (ra'.cell (b := 6) (by decide : 6 < 7) rfl)), rq'.one (ss_flat _), ro'.one (ss_flat _), ra'.one (evl_flat _), trivial⟩
theorem viewS {n : Nat} {sl : Slots} {l : List (Nat × Value)} {h : Heap} {s' : St} {pre' : List ByteArray} (q o a : Nat) {cells : List Value} {vq vo va : Value} (h0 : h.get 0 = some ⟨73, true, cells⟩) (hc : cells = stC s' vq vo va) (hd : [0, q, o, a].Nodup) (rq' : RowE h 9 vq q pre'.length s'.queue.length (ss (pre' ++ s'.queue))) (ro' : RowE h 9 vo o 0 s'.out.length (ss s'.out)) (ra' : RowE h 61 va a 0 s'.ans.length (evl s'.ans))
    (hs : SlotsOk [0, 1, 2, 3, q, o, a] 7 sl l) : View 4 E n sl h (layj l) (heapO (stOut s' pre')) :=
  View.ofO [0, 1, 2, 3, q, o, a] (stOut s' pre') l hd rfl (blksS q o a h0 hc rq' ro' ra') hs.told
theorem f47 : E.funcs 47 = some Try.f47 := by kernel_rfl
theorem flow47 (s : St) (pre : List ByteArray) (m : Nat) (hm : m ≤ 10000) (hf : Flo s m) : Ct 47 [] s pre (.tuple #[]) s.flo (St.floP s.queue.length s pre) := by
  obtain ⟨T, hT⟩ : ∃ T, s.flo = T := ⟨_, rfl⟩
  obtain ⟨P, hP⟩ : ∃ P, St.floP s.queue.length s pre = P := ⟨_, rfl⟩
  rw [hT, hP]
  unfold St.flo at hT
  refine Ct.of f47 rfl (of_decide_eq_true (by kernel_rfl)) rfl rfl ?_
  unfold stIn sB stC rowQ rowO rowA qB aB
  refine Wp.block ?_
  refine Wp.loop (G := St × List ByteArray) (fun g => layj [(0, .pointer (some ⟨0, 0, none⟩))]) (fun g => heapO (stOut g.1 g.2)) (fun g => g.1.queue.length) (fun g => Flo g.1 m ∧ St.floN g.1.queue.length g.1 = T ∧ St.floP g.1.queue.length g.1 g.2 = P) (s, pre) ?_ ⟨hf, hT, hP⟩ ?_
  · exact viewS 1 2 3 (by kernel_rfl) rfl (by decide) (.is rfl (by kernel_rfl) rfl rfl) (.is rfl (by kernel_rfl) rfl rfl) (.is rfl (by kernel_rfl) rfl rfl) ⟨⟨by kernel_rfl, rfl⟩, trivial⟩
  clear hf hT hP
  clear s pre
  rintro ⟨s, pre⟩ ⟨hf, hT, hP⟩
  dsimp only at hf hT hP ⊢
  have f1 := hf.sent
  have f2 := hf.wanted
  have f3 := hf.win
  have f4 := hf.out
  have f5 := hf.queue
  have f6 := hf.ans
  by_cases hmay : s.may
  · obtain ⟨h1, h2, h3⟩ := hmay
    obtain ⟨d, q, hq⟩ := List.exists_cons_of_ne_nil h3
    have hnx := hf.next hq ⟨h1, h2, h3⟩
    have hq1 := flo1_queue hq
    rw [hq] at f5 f6 hT hP
    have hT' : St.floN q.length s.flo1 = T := by rw [← hT]; exact (if_pos ⟨h1, h2, h3⟩).symm
    have hP' : St.floP q.length s.flo1 (pre ++ [d]) = P := by
      rw [← hP]
      show _ = (if s.may then St.floP q.length s.flo1 (pre ++ [s.queue.headD nob]) else pre)
      rw [if_pos ⟨h1, h2, h3⟩, hq]
      rfl
    have g1 : (0 : Int) ≤ 0 ∧ (0 : Int) < ((d :: q).length : Int) := ⟨by decide, by rw [List.length_cons]; omega⟩
    have g4 : (0 : Int) ≤ 1 ∧ (1 : Int) ≤ ((d :: q).length : Int) := ⟨by decide, by rw [List.length_cons]; omega⟩
    have g2 : (ss (pre ++ d :: q))[pre.length + 0]? = some (.string d) := by
      rw [ss_app, Nat.add_zero, List.getElem?_append_right (by rw [ss_len]; omega), ss_len, Nat.sub_self]
      rfl
    have q0 : cellsAt (ss s.out) 0 (s.out.length * 1) = some (ss s.out) := cellsAt_all _ (by rw [ss_len]; omega)
    have q1 : ¬ s.out.length + 1 ≤ s.out.length := by omega
    have q2 : 1 ≤ 16 ∧ (s.out.length + 1) * 16 ≤ 140737488355328 ∧ 1 = 1 ∧ s.out.length + 1 ≤ 9223372036854775807 := by omega
    unfold stOut sB stC rowQ rowO rowA qB aB
    rw [hq]
    refine Wp.seq (Wp.seq (Wp.region (by kernel_rfl) (kp 3 (vP 0 0) (kp 4 (vP 0 0) (kp 5 (vP 0 6) (kp 6 (vI (St.state s)) (kp 7 (.bool ((↑(St.state s) : Int) == 2)) (kp 8 (.bool ((↑(St.state s) : Int) == 2)) ?_))))))))
    refine WpOps.fork 11 ((↑(St.state s) : Int) == 2) [9, 10, 11, 12, 13, 14, 15, 16, 17, 18, 19] 19 (decide ((↑(List.length (St.out s)) : Int) < (↑(St.win s) : Int))) (false) (by kernel_rfl) (fun g19 => ?_) (fun g19 => ?_) (fun f_19 b19 hb19 => ?_)
    · refine kp 9 (vP 0 0) (kp 10 (vP 0 0) (kp 11 (vP 0 14) (kp 12 (.slice (some ⟨5, 0, none⟩) (List.length (St.out s)) (List.length (St.out s))) (kp 13 (vI (List.length (St.out s))) (kp 14 (vP 0 0) (kp 15 (vP 0 0) (kp 16 (vP 0 5) (kp 17 (vI (St.win s)) (kp 18 (.bool (decide ((↑(List.length (St.out s)) : Int) < (↑(St.win s) : Int)))) (kp 19 (.bool (decide ((↑(List.length (St.out s)) : Int) < (↑(St.win s) : Int)))) (WpOps.nil ?_) (hop := fun _ => o_pickT g19)) (hw := wants_tt g19)) (hw := wants_tt g19)) (hw := wants_tt g19)) (hw := wants_tt g19)) (hw := wants_tt g19)) (hw := wants_tt g19)) (hw := wants_tt g19)) (hw := wants_tt g19)) (hw := wants_tt g19)) (hw := wants_tt g19)
      exact ⟨rfl, (.upd rfl (.upd rfl (.upd rfl (.upd rfl (.upd rfl (.upd rfl (.upd rfl (.upd rfl (.upd rfl (.upd rfl (.upd rfl .refl))))))))))), (by kernel_rfl)⟩
    · refine um 9 (um 10 (um 11 (um 12 (um 13 (um 14 (um 15 (um 16 (um 17 (um 18 (kp 19 vF (WpOps.nil ?_) (hop := fun _ => o_pickF g19)) (hw := wants_ft g19)) (hw := wants_ft g19)) (hw := wants_ft g19)) (hw := wants_ft g19)) (hw := wants_ft g19)) (hw := wants_ft g19)) (hw := wants_ft g19)) (hw := wants_ft g19)) (hw := wants_ft g19)) (hw := wants_ft g19)
      exact ⟨rfl, (.upd rfl (.upd rfl (.upd rfl (.upd rfl (.upd rfl (.upd rfl (.upd rfl (.upd rfl (.upd rfl (.upd rfl (.upd rfl .refl))))))))))), (by kernel_rfl)⟩
    refine kp 20 (.bool b19) ?_
    refine WpOps.fork 7 (b19) [21, 22, 23, 24, 25, 26, 27] 27 (decide ((↑(List.length (d :: q)) : Int) > 0)) (false) (by kernel_rfl) (fun g27 => ?_) (fun g27 => ?_) (fun f_27 b27 hb27 => ?_)
    · refine kp 21 (vP 0 0) (kp 22 (vP 0 0) (kp 23 (vP 0 13) (kp 24 (.slice (some (Addr.mk 4 (List.length pre) none)) (List.length (d :: q)) (List.length (d :: q))) (kp 25 (vI (List.length (d :: q))) (kp 26 (.bool (decide ((↑(List.length (d :: q)) : Int) > 0))) (kp 27 (.bool (decide ((↑(List.length (d :: q)) : Int) > 0))) (WpOps.nil ?_) (hop := fun _ => o_pickT g27)) (hw := wants_tt g27)) (hw := wants_tt g27)) (hw := wants_tt g27)) (hw := wants_tt g27)) (hw := wants_tt g27)) (hw := wants_tt g27)
      exact ⟨rfl, (.upd rfl (.upd rfl (.upd rfl (.upd rfl (.upd rfl (.upd rfl (.upd rfl .refl))))))), (by kernel_rfl)⟩
    · refine um 21 (um 22 (um 23 (um 24 (um 25 (um 26 (kp 27 vF (WpOps.nil ?_) (hop := fun _ => o_pickF g27)) (hw := wants_ft g27)) (hw := wants_ft g27)) (hw := wants_ft g27)) (hw := wants_ft g27)) (hw := wants_ft g27)) (hw := wants_ft g27)
      exact ⟨rfl, (.upd rfl (.upd rfl (.upd rfl (.upd rfl (.upd rfl (.upd rfl (.upd rfl .refl))))))), (by kernel_rfl)⟩
    refine WpOps.nil (thenK_at ?_)
    obtain rfl : b27 = true := by
      rw [hb27, hb19, h1, show decide ((s.out.length : Int) < s.win) = true from decide_eq_true (by omega), show decide (((d :: q).length : Int) > 0) = true from decide_eq_true (by rw [List.length_cons]; omega)]
      rfl
    refine on' (Wp.skip (thenK_at (Wp.block (Wp.seq (Wp.text (kp 28 (vP 0 0) (kp 29 (vP 0 0) (kp 30 (vP 0 13) (kp 31 (.slice (some (Addr.mk 4 (List.length pre) none)) (List.length (d :: q)) (List.length (d :: q))) (kp 32 (.pointer (some (Addr.mk 4 (List.length pre + 0) none))) (kp 33 (.string d) (kp 2 (.string d) (WpOps.nil (thenK_at (Wp.seq (Wp.text (kp 34 (vP 0 0) (kp 35 (vP 0 0) (kp 36 (vP 0 0) (kp 37 (vP 0 13) (kp 38 (.slice (some (Addr.mk 4 (List.length pre) none)) (List.length (d :: q)) (List.length (d :: q))) (kp 39 (.slice (some (Addr.mk (Addr.block (Addr.mk 4 (List.length pre) none)) (Addr.off (Addr.mk 4 (List.length pre) none) + 1) none)) (List.length (d :: q) - 1) (List.length (d :: q) - 1)) (kp 40 (vP 0 0) (kp 41 (vP 0 13) (ld (.tuple #[]) (0) (Blk.mk 73 true [vI (St.left s), vI (St.wait s), vI (St.tried s), vI (St.tries s), Value.bool (St.first s), vI (St.win s), vI (St.state s), vI (St.gen s), vI (St.sent s), vI (St.acked s), vI (St.wanted s), Value.bool (St.rej s), Value.bool (St.ren s), Value.slice (some (Addr.mk (Addr.block (Addr.mk 4 (List.length pre) none)) (Addr.off (Addr.mk 4 (List.length pre) none) + 1) none)) (List.length (d :: q) - 1) (List.length (d :: q) - 1), Value.slice (some ⟨5, 0, none⟩) (List.length (St.out s)) (List.length (St.out s)), Value.slice (some ⟨6, 0, none⟩) (List.length (St.ans s)) (List.length (St.ans s))]) ?_))) (hop := fun _ => o_cutS_lo (a := 1) (bl := 4) (off := List.length pre) (e := 9) (size := 1) g4)))))))))))) (hop := fun _ => o_load1 (4) (List.length pre + 0) g2)) (hop := fun _ => o_indexAddr (a := 0) (bl := 4) (off := List.length pre) (size := 1) 9 (List.length (d :: q)) g1)))))))))))
    refine WpOps.nil (thenK_at (Wp.seq (Wp.text (kp 42 (vP 0 0) (kp 43 (vP 0 0) (kp 44 (vP 0 0) (kp 45 (vP 0 14) (kp 46 (.slice (some ⟨5, 0, none⟩) (List.length (St.out s)) (List.length (St.out s))) (kp 47 (.string d) (md 48 (.slice (some ⟨7, 0, none⟩) 1 1) (Blk.mk 9 true [Value.string d]) ?_))))))))))
    refine ra 49 (.slice (some ⟨8, 0, none⟩) (List.length (St.out s) + 1) (List.length (St.out s) + 1)) (5) (Blk.mk 9 true (ss (St.out s) ++ [Value.string d])) ?_ (hop := fun _ => o_append (e := 9) (5) (0) (List.length (St.out s)) _ (List.length (St.out s)) q1 q2 q0)
    refine kp 50 (vP 0 0) (kp 51 (vP 0 14) (ld (.tuple #[]) (0) (Blk.mk 73 true [vI (St.left s), vI (St.wait s), vI (St.tried s), vI (St.tries s), Value.bool (St.first s), vI (St.win s), vI (St.state s), vI (St.gen s), vI (St.sent s), vI (St.acked s), vI (St.wanted s), Value.bool (St.rej s), Value.bool (St.ren s), Value.slice (some (Addr.mk (Addr.block (Addr.mk 4 (List.length pre) none)) (Addr.off (Addr.mk 4 (List.length pre) none) + 1) none)) (List.length (d :: q) - 1) (List.length (d :: q) - 1), Value.slice (some ⟨8, 0, none⟩) (List.length (St.out s) + 1) (List.length (St.out s) + 1), Value.slice (some ⟨6, 0, none⟩) (List.length (St.ans s)) (List.length (St.ans s))]) (WpOps.nil (thenK_at (Wp.seq (Wp.region (by kernel_rfl) (kp 52 (vP 0 0) (kp 53 (vP 0 0) (kp 54 (vP 0 0) (kp 55 (vP 0 8) (kp 56 (vI (St.sent s)) (kp 57 (vP 0 0) (kp 58 (vP 0 0) (kp 59 (vP 0 10) (kp 60 (vI (St.wanted s)) (kp 61 (.string d) (cl 62 63 [vP 0 0, Value.int .u8 3, vI (St.sent s), vI (St.wanted s), Value.string d] ?_)))))))))))))))))
    obtain ⟨s1, hs1⟩ : ∃ s1, s1 = ({ s with queue := q, out := s.out ++ [d] } : St) := ⟨_, rfl⟩
    have c1 := send63 s1 (pre ++ [d]) 3 s.sent s.wanted d (by decide) (by subst hs1; show s.ans.length ≤ _; omega)
    have e1 : (pre ++ [d]).length = pre.length + 1 := by simp
    have e2 : (s.out ++ [d]).length = s.out.length + 1 := by simp
    have e3 : (pre ++ [d]) ++ q = pre ++ d :: q := by simp
    have e4 : ss (s.out ++ [d]) = ss s.out ++ [.string d] := ss_app _ _
    have hflo : s.flo1 = (if s.left = 0 then ({ s1.snd 3 s.sent s.wanted d with sent := (s.sent + 1) % 8 } : St).sta else { s1.snd 3 s.sent s.wanted d with sent := (s.sent + 1) % 8 }) := by
      subst hs1
      unfold St.flo1
      rw [hq]
      rfl
    have el : s1.left = s.left := by rw [hs1]
    have es : s1.sent = s.sent := by rw [hs1]
    refine WpCall.st 0 4 8 6 c1 (by decide) (cells := stC s (.slice (some ⟨4, pre.length + 1, none⟩) q.length q.length) (.slice (some ⟨8, 0, none⟩) (s.out.length + 1) (s.out.length + 1)) (.slice (some ⟨6, 0, none⟩) s.ans.length s.ans.length)) (by kernel_rfl) (by subst hs1; unfold rowQ rowO rowA; dsimp only; rw [e1, e2]; rfl) (by subst hs1; dsimp only; rw [e3]; kernel_rfl) (by subst hs1; unfold qB; dsimp only; rw [e4]; kernel_rfl) (by subst hs1; kernel_rfl) rfl (fun _ => rfl) ?_
    clear hs1
    have w1 : (IntKind.i64.wrap (((s1.snd 3 s.sent s.wanted d).sent : Int) + 1)).tmod 8 = ((s.sent + 1) % 8 : Nat) := by
      show (IntKind.i64.wrap ((s1.sent : Int) + 1)).tmod 8 = _
      rw [es, wr _ (by omega) (by omega), Int.tmod_eq_emod_of_nonneg (by omega)]
      omega
    unfold behind sB stC rowQ rowO rowA qB aB
    refine WpOps.nil (thenK_at (Wp.seq (Wp.text (kp 63 (vP 0 0) (kp 64 (vP 0 0) (kp 65 (vP 0 0) (kp 66 (vP 0 8) (kp 67 (vI (St.sent (St.snd 3 (St.sent s) (St.wanted s) d s1))) (kp 68 (vI (IntKind.wrap .i64 ((↑(St.sent (St.snd 3 (St.sent s) (St.wanted s) d s1)) : Int) + 1))) (kp 69 (vI (Int.tmod (IntKind.wrap .i64 ((↑(St.sent (St.snd 3 (St.sent s) (St.wanted s) d s1)) : Int) + 1)) 8)) (kp 70 (vP 0 0) (kp 71 (vP 0 8) (cg0 (.tuple #[]) (Heap.set (Heap.alloc (Heap.alloc (Heap.alloc (Heap.set (Heap.set (Heap.set (Heap.set (Heap.set (Heap.alloc (Heap.set (Heap.alloc (Heap.set (heapO [some (Blk.mk 73 true [vI (St.left s), vI (St.wait s), vI (St.tried s), vI (St.tries s), Value.bool (St.first s), vI (St.win s), vI (St.state s), vI (St.gen s), vI (St.sent s), vI (St.acked s), vI (St.wanted s), Value.bool (St.rej s), Value.bool (St.ren s), Value.slice (some (Addr.mk 4 (List.length pre) none)) (List.length (d :: q)) (List.length (d :: q)), Value.slice (some ⟨5, 0, none⟩) (List.length (St.out s)) (List.length (St.out s)), Value.slice (some ⟨6, 0, none⟩) (List.length (St.ans s)) (List.length (St.ans s))]), none, none, none, some (Blk.mk 9 true (ss (pre ++ d :: q))), some (Blk.mk 9 true (ss (St.out s))), some (Blk.mk 61 true (evl (St.ans s)))]) 0 (some (Blk.mk 73 true [vI (St.left s), vI (St.wait s), vI (St.tried s), vI (St.tries s), Value.bool (St.first s), vI (St.win s), vI (St.state s), vI (St.gen s), vI (St.sent s), vI (St.acked s), vI (St.wanted s), Value.bool (St.rej s), Value.bool (St.ren s), Value.slice (some (Addr.mk (Addr.block (Addr.mk 4 (List.length pre) none)) (Addr.off (Addr.mk 4 (List.length pre) none) + 1) none)) (List.length (d :: q) - 1) (List.length (d :: q) - 1), Value.slice (some ⟨5, 0, none⟩) (List.length (St.out s)) (List.length (St.out s)), Value.slice (some ⟨6, 0, none⟩) (List.length (St.ans s)) (List.length (St.ans s))]))) (Blk.mk 9 true [Value.string d])) 5 none) (Blk.mk 9 true (ss (St.out s) ++ [Value.string d]))) 0 (some (Blk.mk 73 true [vI (St.left s), vI (St.wait s), vI (St.tried s), vI (St.tries s), Value.bool (St.first s), vI (St.win s), vI (St.state s), vI (St.gen s), vI (St.sent s), vI (St.acked s), vI (St.wanted s), Value.bool (St.rej s), Value.bool (St.ren s), Value.slice (some (Addr.mk (Addr.block (Addr.mk 4 (List.length pre) none)) (Addr.off (Addr.mk 4 (List.length pre) none) + 1) none)) (List.length (d :: q) - 1) (List.length (d :: q) - 1), Value.slice (some ⟨8, 0, none⟩) (List.length (St.out s) + 1) (List.length (St.out s) + 1), Value.slice (some ⟨6, 0, none⟩) (List.length (St.ans s)) (List.length (St.ans s))]))) 0 (some (Blk.mk 73 true [vI (St.left (St.snd 3 (St.sent s) (St.wanted s) d s1)), vI (St.wait (St.snd 3 (St.sent s) (St.wanted s) d s1)), vI (St.tried (St.snd 3 (St.sent s) (St.wanted s) d s1)), vI (St.tries (St.snd 3 (St.sent s) (St.wanted s) d s1)), Value.bool (St.first (St.snd 3 (St.sent s) (St.wanted s) d s1)), vI (St.win (St.snd 3 (St.sent s) (St.wanted s) d s1)), vI (St.state (St.snd 3 (St.sent s) (St.wanted s) d s1)), vI (St.gen (St.snd 3 (St.sent s) (St.wanted s) d s1)), vI (St.sent (St.snd 3 (St.sent s) (St.wanted s) d s1)), vI (St.acked (St.snd 3 (St.sent s) (St.wanted s) d s1)), vI (St.wanted (St.snd 3 (St.sent s) (St.wanted s) d s1)), Value.bool (St.rej (St.snd 3 (St.sent s) (St.wanted s) d s1)), Value.bool (St.ren (St.snd 3 (St.sent s) (St.wanted s) d s1)), Value.slice (some (Addr.mk 9 (List.length (pre ++ [d])) none)) (List.length (St.queue (St.snd 3 (St.sent s) (St.wanted s) d s1))) (List.length (St.queue (St.snd 3 (St.sent s) (St.wanted s) d s1))), Value.slice (some (Addr.mk (9 + 1) 0 none)) (List.length (St.out (St.snd 3 (St.sent s) (St.wanted s) d s1))) (List.length (St.out (St.snd 3 (St.sent s) (St.wanted s) d s1))), Value.slice (some (Addr.mk (9 + 2) 0 none)) (List.length (St.ans (St.snd 3 (St.sent s) (St.wanted s) d s1))) (List.length (St.ans (St.snd 3 (St.sent s) (St.wanted s) d s1)))]))) 4 none) 8 none) 6 none) (Blk.mk 9 true (ss (pre ++ [d] ++ St.queue (St.snd 3 (St.sent s) (St.wanted s) d s1))))) (Blk.mk 9 true (ss (St.out (St.snd 3 (St.sent s) (St.wanted s) d s1))))) (Blk.mk 61 true (evl (St.ans (St.snd 3 (St.sent s) (St.wanted s) d s1))))) 0 (some (Blk.mk 73 true [vI (St.left (St.snd 3 (St.sent s) (St.wanted s) d s1)), vI (St.wait (St.snd 3 (St.sent s) (St.wanted s) d s1)), vI (St.tried (St.snd 3 (St.sent s) (St.wanted s) d s1)), vI (St.tries (St.snd 3 (St.sent s) (St.wanted s) d s1)), Value.bool (St.first (St.snd 3 (St.sent s) (St.wanted s) d s1)), vI (St.win (St.snd 3 (St.sent s) (St.wanted s) d s1)), vI (St.state (St.snd 3 (St.sent s) (St.wanted s) d s1)), vI (St.gen (St.snd 3 (St.sent s) (St.wanted s) d s1)), vI (Int.tmod (IntKind.wrap .i64 ((↑(St.sent (St.snd 3 (St.sent s) (St.wanted s) d s1)) : Int) + 1)) 8), vI (St.acked (St.snd 3 (St.sent s) (St.wanted s) d s1)), vI (St.wanted (St.snd 3 (St.sent s) (St.wanted s) d s1)), Value.bool (St.rej (St.snd 3 (St.sent s) (St.wanted s) d s1)), Value.bool (St.ren (St.snd 3 (St.sent s) (St.wanted s) d s1)), Value.slice (some (Addr.mk 9 (List.length (pre ++ [d])) none)) (List.length (St.queue (St.snd 3 (St.sent s) (St.wanted s) d s1))) (List.length (St.queue (St.snd 3 (St.sent s) (St.wanted s) d s1))), Value.slice (some (Addr.mk (9 + 1) 0 none)) (List.length (St.out (St.snd 3 (St.sent s) (St.wanted s) d s1))) (List.length (St.out (St.snd 3 (St.sent s) (St.wanted s) d s1))), Value.slice (some (Addr.mk (9 + 2) 0 none)) (List.length (St.ans (St.snd 3 (St.sent s) (St.wanted s) d s1))) (List.length (St.ans (St.snd 3 (St.sent s) (St.wanted s) d s1)))]))) ?_)))))))))))))
    refine WpOps.nil (thenK_at (Wp.seq (Wp.text (kp 72 (vP 0 0) (kp 73 (vP 0 0) (kp 74 (vP 0 0) (kp 75 (vP 0 0) (kp 76 (vI (St.left (St.snd 3 (St.sent s) (St.wanted s) d s1))) (kp 77 (.bool ((↑(St.left (St.snd 3 (St.sent s) (St.wanted s) d s1)) : Int) == 0)) (WpOps.nil (thenK_at ?_)))))))))))
    rw [w1]
    by_cases hl : s.left = 0
    · rw [if_pos hl] at hflo
      have d1 : (((s1.snd 3 s.sent s.wanted d).left : Int) == 0) = true := by show ((s1.left : Int) == 0) = true; rw [el, hl]; rfl
      obtain ⟨s3, hs3⟩ : ∃ s3, s3 = ({ s1.snd 3 s.sent s.wanted d with sent := (s.sent + 1) % 8 } : St) := ⟨_, rfl⟩
      have c2 := start64 s3 (pre ++ [d])
      rw [← hs3] at hflo
      rw [← hflo] at c2
      clear hflo
      refine on' (Wp.text (kp 78 (vP 0 0) (kp 79 (vP 0 0) (kp 80 (vP 0 0) (cl 81 64 [vP 0 0] ?_))))) (hc := ev_fact d1)
      refine WpCall.st 0 9 10 11 c2 (by decide) (by kernel_rfl) (by subst hs3; rfl) (by subst hs3; kernel_rfl) (by subst hs3; kernel_rfl) (by subst hs3; kernel_rfl) rfl (fun _ => rfl) ?_
      unfold behind sB stC rowQ rowO rowA qB aB
      refine WpOps.nil (blockK_norm (thenK_at ?_))
      exact ⟨(s.flo1, pre ++ [d]), by dsimp only; rw [hq1]; exact Nat.lt_succ_self _, ⟨hnx, by rw [hq1]; exact hT', by rw [hq1]; exact hP'⟩, viewS 12 13 14 (by kernel_rfl) rfl (by decide) (.is rfl (by kernel_rfl) rfl rfl) (.is rfl (by kernel_rfl) rfl rfl) (.is rfl (by kernel_rfl) rfl rfl) ⟨⟨by kernel_rfl, rfl⟩, trivial⟩⟩
    · rw [if_neg hl] at hflo
      have d1 : (((s1.snd 3 s.sent s.wanted d).left : Int) == 0) = false := beq_false_of_ne (by show (s1.left : Int) ≠ 0; rw [el]; omega)
      refine off' (Wp.skip (blockK_norm (thenK_at ?_))) (hc := ev_fact d1)
      exact ⟨(s.flo1, pre ++ [d]), by dsimp only; rw [hq1]; exact Nat.lt_succ_self _, ⟨hnx, by rw [hq1]; exact hT', by rw [hq1]; exact hP'⟩, by dsimp only; rw [hflo]; exact viewS 9 10 11 (by kernel_rfl) rfl (by decide) (.is rfl (by kernel_rfl) rfl rfl) (.is rfl (by kernel_rfl) rfl rfl) (.is rfl (by kernel_rfl) rfl rfl) ⟨⟨by kernel_rfl, rfl⟩, trivial⟩⟩
  · unfold stOut sB stC rowQ rowO rowA qB aB
    refine Wp.seq (Wp.seq (Wp.region (by kernel_rfl) (kp 3 (vP 0 0) (kp 4 (vP 0 0) (kp 5 (vP 0 6) (kp 6 (vI (St.state s)) (kp 7 (.bool ((↑(St.state s) : Int) == 2)) (kp 8 (.bool ((↑(St.state s) : Int) == 2)) ?_))))))))
    refine WpOps.fork 11 ((↑(St.state s) : Int) == 2) [9, 10, 11, 12, 13, 14, 15, 16, 17, 18, 19] 19 (decide ((↑(List.length (St.out s)) : Int) < (↑(St.win s) : Int))) (false) (by kernel_rfl) (fun g19 => ?_) (fun g19 => ?_) (fun f_19 b19 hb19 => ?_)
    · refine kp 9 (vP 0 0) (kp 10 (vP 0 0) (kp 11 (vP 0 14) (kp 12 (.slice (some ⟨5, 0, none⟩) (List.length (St.out s)) (List.length (St.out s))) (kp 13 (vI (List.length (St.out s))) (kp 14 (vP 0 0) (kp 15 (vP 0 0) (kp 16 (vP 0 5) (kp 17 (vI (St.win s)) (kp 18 (.bool (decide ((↑(List.length (St.out s)) : Int) < (↑(St.win s) : Int)))) (kp 19 (.bool (decide ((↑(List.length (St.out s)) : Int) < (↑(St.win s) : Int)))) (WpOps.nil ?_) (hop := fun _ => o_pickT g19)) (hw := wants_tt g19)) (hw := wants_tt g19)) (hw := wants_tt g19)) (hw := wants_tt g19)) (hw := wants_tt g19)) (hw := wants_tt g19)) (hw := wants_tt g19)) (hw := wants_tt g19)) (hw := wants_tt g19)) (hw := wants_tt g19)
      exact ⟨rfl, (.upd rfl (.upd rfl (.upd rfl (.upd rfl (.upd rfl (.upd rfl (.upd rfl (.upd rfl (.upd rfl (.upd rfl (.upd rfl .refl))))))))))), (by kernel_rfl)⟩
    · refine um 9 (um 10 (um 11 (um 12 (um 13 (um 14 (um 15 (um 16 (um 17 (um 18 (kp 19 vF (WpOps.nil ?_) (hop := fun _ => o_pickF g19)) (hw := wants_ft g19)) (hw := wants_ft g19)) (hw := wants_ft g19)) (hw := wants_ft g19)) (hw := wants_ft g19)) (hw := wants_ft g19)) (hw := wants_ft g19)) (hw := wants_ft g19)) (hw := wants_ft g19)) (hw := wants_ft g19)
      exact ⟨rfl, (.upd rfl (.upd rfl (.upd rfl (.upd rfl (.upd rfl (.upd rfl (.upd rfl (.upd rfl (.upd rfl (.upd rfl (.upd rfl .refl))))))))))), (by kernel_rfl)⟩
    refine kp 20 (.bool b19) ?_
    refine WpOps.fork 7 (b19) [21, 22, 23, 24, 25, 26, 27] 27 (decide ((↑(List.length (St.queue s)) : Int) > 0)) (false) (by kernel_rfl) (fun g27 => ?_) (fun g27 => ?_) (fun f_27 b27 hb27 => ?_)
    · refine kp 21 (vP 0 0) (kp 22 (vP 0 0) (kp 23 (vP 0 13) (kp 24 (.slice (some (Addr.mk 4 (List.length pre) none)) (List.length (St.queue s)) (List.length (St.queue s))) (kp 25 (vI (List.length (St.queue s))) (kp 26 (.bool (decide ((↑(List.length (St.queue s)) : Int) > 0))) (kp 27 (.bool (decide ((↑(List.length (St.queue s)) : Int) > 0))) (WpOps.nil ?_) (hop := fun _ => o_pickT g27)) (hw := wants_tt g27)) (hw := wants_tt g27)) (hw := wants_tt g27)) (hw := wants_tt g27)) (hw := wants_tt g27)) (hw := wants_tt g27)
      exact ⟨rfl, (.upd rfl (.upd rfl (.upd rfl (.upd rfl (.upd rfl (.upd rfl (.upd rfl .refl))))))), (by kernel_rfl)⟩
    · refine um 21 (um 22 (um 23 (um 24 (um 25 (um 26 (kp 27 vF (WpOps.nil ?_) (hop := fun _ => o_pickF g27)) (hw := wants_ft g27)) (hw := wants_ft g27)) (hw := wants_ft g27)) (hw := wants_ft g27)) (hw := wants_ft g27)) (hw := wants_ft g27)
      exact ⟨rfl, (.upd rfl (.upd rfl (.upd rfl (.upd rfl (.upd rfl (.upd rfl (.upd rfl .refl))))))), (by kernel_rfl)⟩
    refine WpOps.nil (thenK_at ?_)
    obtain rfl : b27 = false := by
      rw [hb27, hb19]
      by_cases h1 : s.state = 2
      · by_cases h2 : s.out.length < s.win
        · have h3 : s.queue = [] := by
            cases hq : s.queue with
            | nil => rfl
            | cons d q => exact absurd ⟨h1, h2, by rw [hq]; exact List.cons_ne_nil _ _⟩ hmay
          rw [h3]
          cases ((s.state : Int) == 2) <;> cases decide ((s.out.length : Int) < s.win) <;> rfl
        · rw [show decide ((s.out.length : Int) < s.win) = false from decide_eq_false (by omega)]
          cases ((s.state : Int) == 2) <;> rfl
      · rw [show ((s.state : Int) == 2) = false from beq_false_of_ne (by omega)]
        rfl
    have hT' : s = T := by
      rw [← hT]
      cases s.queue.length with
      | zero => rfl
      | succ k => exact (if_neg hmay).symm
    have hP' : pre = P := by
      rw [← hP]
      cases s.queue.length with
      | zero => rfl
      | succ k => exact (if_neg hmay).symm
    subst hT' hP'
    refine off' (Wp.exit (thenK_exit (thenK_exit (blockK_hit (endK_norm [] (Value.tuple #[]) (by kernel_rfl) (by kernel_rfl) ?_)))))
    exact endSt 4 5 6 (by kernel_rfl) rfl (by decide) (.is rfl (by kernel_rfl) rfl rfl) (.is rfl (by kernel_rfl) rfl rfl) (.is rfl (by kernel_rfl) rfl rfl) rfl (fun _ => rfl) rfl
open Go.Fw Go.RowKit

/-- A station between two events: what it answered is not written any more. -/
def oB (s : St) (p q o nA : Nat) (cA : Array Value) : Blk := ⟨73, true, stC s (rowQ s p q) (rowO s o) (FS 61 nA 3 cA)⟩
def onIn (s : St) (pre : List ByteArray) (nA : Nat) (cA : Array Value) : List Blk := [oB s pre.length 1 2 nA cA, qB (pre ++ s.queue), qB s.out]
theorem ok_oB {m : Nat} (s : St) (p q o nA : Nat) (cA : Array Value) (hq : q < m) (ho : o < m) : (oB s p q o nA cA).cells.all (okC m) = true := by
  have h1 : okC m (rowQ s p q) = true := decide_eq_true hq
  have h2 : okC m (rowO s o) = true := decide_eq_true ho
  simp only [oB, stC, List.all_cons, List.all_nil, h1, h2]
  rfl
theorem onIn_ok (s : St) (pre : List ByteArray) (nA : Nat) (cA : Array Value) : (onIn s pre nA cA).all (fun x => x.cells.all (okC (onIn s pre nA cA).length)) = true := by
  show ((oB s pre.length 1 2 nA cA).cells.all (okC 3) && ((qB (pre ++ s.queue)).cells.all (okC 3) && ((qB s.out).cells.all (okC 3) && true))) = true
  rw [ok_oB _ _ _ _ _ _ (by decide) (by decide), ok_qB, ok_qB]
  rfl
theorem objI {hR : Heap} {s : St} {p nA : Nat} {cA : Array Value} : All2 (ToldC E hR [0, 1, 2] 3) (oB s p 1 2 nA cA).cells (oB s p 1 2 nA cA).cells := by
  have nn : ∀ n : Int, ToldC E hR [0, 1, 2] 3 (.int .i64 n) (.int .i64 n) := fun n => .inl ⟨rfl, rfl⟩
  have bb : ∀ n : Bool, ToldC E hR [0, 1, 2] 3 (.bool n) (.bool n) := fun n => .inl ⟨rfl, rfl⟩
  exact .cons (nn _) (.cons (nn _) (.cons (nn _) (.cons (nn _) (.cons (bb _) (.cons (nn _) (.cons (nn _) (.cons (nn _) (.cons (nn _) (.cons (nn _) (.cons (nn _) (.cons (bb _) (.cons (bb _) (.cons (.inl ⟨rfl, rfl⟩) (.cons (.inl ⟨rfl, rfl⟩) (.cons (.inl ⟨rfl, rfl⟩) .nil)))))))))))))))
theorem endGet {h : Heap} {v v1 : Value} {s : St} {pre : List ByteArray} {nA : Nat} {cA : Array Value} (h0 : h.get 0 = some (oB s pre.length 1 2 nA cA)) (h1 : h.get 1 = some (qB (pre ++ s.queue))) (h2 : h.get 2 = some (qB s.out)) (hv : ToldV E (h.less [0, 1, 2]) [0, 1, 2] 3 v1 v) : LentEnd E 3 v (onIn s pre nA cA) v1 h :=
  ⟨[0, 1, 2], by decide, by decide, ⟨⟨_, h0, objI⟩, ⟨_, h1, toldC_flat (ss_flat _)⟩, ⟨_, h2, toldC_flat (ss_flat _)⟩, trivial⟩, hv⟩
theorem none42o (s : St) (pre : List ByteArray) (nA : Nat) (cA : Array Value) (hw : 1 ≤ s.win) : Lent E 42 [.pointer (some ⟨0, 0, none⟩)] (onIn s pre nA cA) (.bool false) (onIn s pre nA cA) := by
  refine Lent.of h42 rfl (of_decide_eq_true (by kernel_rfl)) rfl rfl (Nat.le_refl _) rfl (onIn_ok _ _ _ _) rfl ?_
  have d1 : ((s.win : Int) == 0) = false := beq_false_of_ne (by omega)
  unfold onIn oB stC rowQ rowO qB
  refine Wp.seq (Wp.text (kp 2 vF (WpOps.nil (thenK_at (Wp.seq (Wp.text (kp 3 (vP 0 0) (kp 4 vF (kp 5 vF (kp 6 (vP 0 0) (kp 7 (vP 0 0) (kp 8 (vP 0 5) (kp 9 (vI (St.win s)) (kp 10 vF (kp 11 vF (kp 2 vF (WpOps.nil (thenK_at (Wp.ret (endK_retn [vF] vF (by kernel_rfl) (by kernel_rfl) ?_)))))) (hop := fun _ => by_fact d1)))))))))))))))
  exact endGet (by kernel_rfl) (by kernel_rfl) (by kernel_rfl) (.w (.un rfl rfl))
theorem WpCall.gS {f : FuncId} {s : St} {pre : List ByteArray} {nA : Nat} {cA : Array Value} {v : Value} {h : Heap} {K : Value → Heap → Prop} (c : Lent E f [.pointer (some ⟨0, 0, none⟩)] (onIn s pre nA cA) v (onIn s pre nA cA)) (h0 : h.get 0 = some (oB s pre.length 1 2 nA cA))
    (h1 : h.get 1 = some (qB (pre ++ s.queue))) (h2 : h.get 2 = some (qB s.out)) (hv : unT [0, 1, 2] v = v) (k : K v (((h.set 0 (some (oB s pre.length 1 2 nA cA))).set 1 (some (qB (pre ++ s.queue)))).set 2 (some (qB s.out)))) : WpCall E f [.pointer (some ⟨0, 0, none⟩)] h K :=
  WpCall.lent [0, 1, 2] c (by decide) ⟨⟨_, h0, rfl, ok_oB _ _ _ _ _ _ (by decide : 1 < 3) (by decide : 2 < 3)⟩, ⟨_, h1, CellsOk.eq rfl (ss_flat _)⟩, ⟨_, h2, CellsOk.eq rfl (ss_flat _)⟩, trivial⟩ rfl v [oB s pre.length 1 2 nA cA, qB (pre ++ s.queue), qB s.out]
    (.cons rfl (.cons (unB_flat (ss_flat _)) (.cons (unB_flat (ss_flat _)) .nil))) hv _ rfl k
theorem g28 : E.funcs 28 = some Try.f28 := by kernel_rfl
theorem state28 (s : St) (pre : List ByteArray) (nA : Nat) (cA : Array Value) (hw : 1 ≤ s.win) : Lent E 28 [.pointer (some ⟨0, 0, none⟩)] (onIn s pre nA cA) (.int .i64 s.state) (onIn s pre nA cA) := by
  have c0 := none42o s pre nA cA hw
  refine Lent.of g28 rfl (of_decide_eq_true (by kernel_rfl)) rfl rfl (Nat.le_refl _) rfl (onIn_ok _ _ _ _) rfl ?_
  have hf1 : (⟨9, true, ss (pre ++ s.queue)⟩ : Blk).cells.all flat = true := ss_flat _
  have hf2 : (⟨9, true, ss s.out⟩ : Blk).cells.all flat = true := ss_flat _
  unfold onIn oB stC rowQ rowO at *
  unfold qB at *
  refine Wp.seq (Wp.text (kp 2 (vI 0) (WpOps.nil (thenK_at (Wp.seq (Wp.seq (Wp.text (kp 3 (vP 0 0) (cl 4 42 [vP 0 0] (WpCall.gS (s := s) (pre := pre) (nA := nA) (cA := cA) c0 (by kernel_rfl) (by kernel_rfl) (by kernel_rfl) (by kernel_rfl) (WpOps.nil (thenK_at (off' (Wp.skip (thenK_at (Wp.seq (Wp.text (kp 5 (vP 0 0) (kp 6 (vP 0 0) (kp 7 (vP 0 6) (kp 8 (vI (St.state s)) (kp 2 (vI (St.state s)) (WpOps.nil (thenK_at (Wp.ret (endK_retn [vI (St.state s)] (vI (St.state s)) (by kernel_rfl) (by kernel_rfl) ?_))))))))))))))))))))))))))
  exact endGet (by kernel_rfl) (by kernel_rfl) (by kernel_rfl) (.w (.un rfl rfl))
theorem g29 : E.funcs 29 = some Try.f29 := by kernel_rfl
theorem queue29 (s : St) (pre : List ByteArray) (nA : Nat) (cA : Array Value) (hw : 1 ≤ s.win) : Lent E 29 [.pointer (some ⟨0, 0, none⟩)] (onIn s pre nA cA) (.int .i64 s.queue.length) (onIn s pre nA cA) := by
  have c0 := none42o s pre nA cA hw
  refine Lent.of g29 rfl (of_decide_eq_true (by kernel_rfl)) rfl rfl (Nat.le_refl _) rfl (onIn_ok _ _ _ _) rfl ?_
  have hf1 : (⟨9, true, ss (pre ++ s.queue)⟩ : Blk).cells.all flat = true := ss_flat _
  have hf2 : (⟨9, true, ss s.out⟩ : Blk).cells.all flat = true := ss_flat _
  unfold onIn oB stC rowQ rowO at *
  unfold qB at *
  refine Wp.seq (Wp.text (kp 2 (vI 0) (WpOps.nil (thenK_at (Wp.seq (Wp.seq (Wp.text (kp 3 (vP 0 0) (cl 4 42 [vP 0 0] (WpCall.gS (s := s) (pre := pre) (nA := nA) (cA := cA) c0 (by kernel_rfl) (by kernel_rfl) (by kernel_rfl) (by kernel_rfl) (WpOps.nil (thenK_at (off' (Wp.skip (thenK_at (Wp.seq (Wp.text (kp 5 (vP 0 0) (kp 6 (vP 0 0) (kp 7 (vP 0 13) (kp 8 (.slice (some (Addr.mk 1 (List.length pre) none)) (List.length (St.queue s)) (List.length (St.queue s))) (kp 9 (vI (List.length (St.queue s))) (kp 2 (vI (List.length (St.queue s))) (WpOps.nil (thenK_at (Wp.ret (endK_retn [vI (List.length (St.queue s))] (vI (List.length (St.queue s))) (by kernel_rfl) (by kernel_rfl) ?_)))))))))))))))))))))))))))
  exact endGet (by kernel_rfl) (by kernel_rfl) (by kernel_rfl) (.w (.un rfl rfl))
theorem g20 : E.funcs 20 = some Try.f20 := by kernel_rfl
theorem out20 (s : St) (pre : List ByteArray) (nA : Nat) (cA : Array Value) (hw : 1 ≤ s.win) : Lent E 20 [.pointer (some ⟨0, 0, none⟩)] (onIn s pre nA cA) (.int .i64 s.out.length) (onIn s pre nA cA) := by
  have c0 := none42o s pre nA cA hw
  refine Lent.of g20 rfl (of_decide_eq_true (by kernel_rfl)) rfl rfl (Nat.le_refl _) rfl (onIn_ok _ _ _ _) rfl ?_
  have hf1 : (⟨9, true, ss (pre ++ s.queue)⟩ : Blk).cells.all flat = true := ss_flat _
  have hf2 : (⟨9, true, ss s.out⟩ : Blk).cells.all flat = true := ss_flat _
  unfold onIn oB stC rowQ rowO at *
  unfold qB at *
  refine Wp.seq (Wp.text (kp 2 (vI 0) (WpOps.nil (thenK_at (Wp.seq (Wp.seq (Wp.text (kp 3 (vP 0 0) (cl 4 42 [vP 0 0] (WpCall.gS (s := s) (pre := pre) (nA := nA) (cA := cA) c0 (by kernel_rfl) (by kernel_rfl) (by kernel_rfl) (by kernel_rfl) (WpOps.nil (thenK_at (off' (Wp.skip (thenK_at (Wp.seq (Wp.text (kp 5 (vP 0 0) (kp 6 (vP 0 0) (kp 7 (vP 0 14) (kp 8 (.slice (some ⟨2, 0, none⟩) (List.length (St.out s)) (List.length (St.out s))) (kp 9 (vI (List.length (St.out s))) (kp 2 (vI (List.length (St.out s))) (WpOps.nil (thenK_at (Wp.ret (endK_retn [vI (List.length (St.out s))] (vI (List.length (St.out s))) (by kernel_rfl) (by kernel_rfl) ?_)))))))))))))))))))))))))))
  exact endGet (by kernel_rfl) (by kernel_rfl) (by kernel_rfl) (.w (.un rfl rfl))
theorem g30 : E.funcs 30 = some Try.f30 := by kernel_rfl
theorem generation30 (s : St) (pre : List ByteArray) (nA : Nat) (cA : Array Value) (hw : 1 ≤ s.win) : Lent E 30 [.pointer (some ⟨0, 0, none⟩)] (onIn s pre nA cA) (.int .i64 s.gen) (onIn s pre nA cA) := by
  have c0 := none42o s pre nA cA hw
  refine Lent.of g30 rfl (of_decide_eq_true (by kernel_rfl)) rfl rfl (Nat.le_refl _) rfl (onIn_ok _ _ _ _) rfl ?_
  have hf1 : (⟨9, true, ss (pre ++ s.queue)⟩ : Blk).cells.all flat = true := ss_flat _
  have hf2 : (⟨9, true, ss s.out⟩ : Blk).cells.all flat = true := ss_flat _
  unfold onIn oB stC rowQ rowO at *
  unfold qB at *
  refine Wp.seq (Wp.text (kp 2 (vI 0) (WpOps.nil (thenK_at (Wp.seq (Wp.seq (Wp.text (kp 3 (vP 0 0) (cl 4 42 [vP 0 0] (WpCall.gS (s := s) (pre := pre) (nA := nA) (cA := cA) c0 (by kernel_rfl) (by kernel_rfl) (by kernel_rfl) (by kernel_rfl) (WpOps.nil (thenK_at (off' (Wp.skip (thenK_at (Wp.seq (Wp.text (kp 5 (vP 0 0) (kp 6 (vP 0 0) (kp 7 (vP 0 7) (kp 8 (vI (St.gen s)) (kp 2 (vI (St.gen s)) (WpOps.nil (thenK_at (Wp.ret (endK_retn [vI (St.gen s)] (vI (St.gen s)) (by kernel_rfl) (by kernel_rfl) ?_))))))))))))))))))))))))))
  exact endGet (by kernel_rfl) (by kernel_rfl) (by kernel_rfl) (.w (.un rfl rfl))
theorem g31 : E.funcs 31 = some Try.f31 := by kernel_rfl
theorem numbers31 (s : St) (pre : List ByteArray) (nA : Nat) (cA : Array Value) (hw : 1 ≤ s.win) : Lent E 31 [.pointer (some ⟨0, 0, none⟩)] (onIn s pre nA cA) (.tuple #[.int .i64 s.sent, .int .i64 s.acked, .int .i64 s.wanted]) (onIn s pre nA cA) := by
  have c0 := none42o s pre nA cA hw
  refine Lent.of g31 rfl (of_decide_eq_true (by kernel_rfl)) rfl rfl (Nat.le_refl _) rfl (onIn_ok _ _ _ _) rfl ?_
  have hf1 : (⟨9, true, ss (pre ++ s.queue)⟩ : Blk).cells.all flat = true := ss_flat _
  have hf2 : (⟨9, true, ss s.out⟩ : Blk).cells.all flat = true := ss_flat _
  unfold onIn oB stC rowQ rowO at *
  unfold qB at *
  refine Wp.seq (Wp.text (kp 2 (vI 0) (kp 3 (vI 0) (kp 4 (vI 0) (WpOps.nil (thenK_at (Wp.seq (Wp.seq (Wp.text (kp 5 (vP 0 0) (cl 6 42 [vP 0 0] (WpCall.gS (s := s) (pre := pre) (nA := nA) (cA := cA) c0 (by kernel_rfl) (by kernel_rfl) (by kernel_rfl) (by kernel_rfl) (WpOps.nil (thenK_at (off' (Wp.skip (thenK_at (Wp.seq (Wp.region (by kernel_rfl) (kp 7 (vP 0 0) (kp 8 (vP 0 0) (kp 9 (vP 0 8) (kp 10 (vI (St.sent s)) (kp 11 (vP 0 0) (kp 12 (vP 0 0) (kp 13 (vP 0 9) (kp 14 (vI (St.acked s)) (kp 15 (vP 0 0) (kp 16 (vP 0 0) (kp 17 (vP 0 10) (kp 18 (vI (St.wanted s)) (kp 2 (vI (St.sent s)) (kp 3 (vI (St.acked s)) (kp 4 (vI (St.wanted s)) (WpOps.nil (thenK_at (Wp.ret (endK_retn [vI (St.sent s), vI (St.acked s), vI (St.wanted s)] (Value.tuple #[vI (St.sent s), vI (St.acked s), vI (St.wanted s)]) (by kernel_rfl) (by kernel_rfl) ?_))))))))))))))))))))))))))))))))))))))
  exact endGet (by kernel_rfl) (by kernel_rfl) (by kernel_rfl) (.tuple _ _ rfl rfl (.cons (.un rfl rfl) (.cons (.un rfl rfl) (.cons (.un rfl rfl) .nil))))
end Go.Proofs.Ytgefohjickhldaa.D
