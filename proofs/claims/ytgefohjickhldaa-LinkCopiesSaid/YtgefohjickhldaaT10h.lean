/- A station that ticks. -/
import Derived.Test.YtgefohjickhldaaFwLem
import Derived.Test.YtgefohjickhldaaM10f
namespace Go.Proofs.Ytgefohjickhldaa.D
open Go.Fw Go.RowKit

theorem f46 : E.funcs 46 = some Try.f46 := by kernel_rfl
theorem tick46 (s : St) (pre : List ByteArray) (hA : s.ans.length ≤ 10000) (hok : s.Ok) : ∃ pre', Ct 46 [] s pre (.tuple #[]) (s.tic false) pre' := by
  have o1 := hok.wait
  have o2 := hok.left
  have o3 := hok.tries
  have o4 := hok.tried
  have o5 := hok.win
  have o6 := hok.out
  have o7 := hok.acked
  unfold St.tic
  by_cases h0 : s.left = 0
  · rw [if_pos h0]
    have d1 : ((s.left : Int) == 0) = true := by rw [h0]; rfl
    refine ⟨pre, Ct.of f46 rfl (of_decide_eq_true (by kernel_rfl)) rfl rfl ?_⟩
    unfold stIn sB stC rowQ rowO rowA qB aB
    refine Wp.seq (Wp.seq (Wp.text (kp 2 (vP 0 0) (kp 3 (vP 0 0) (kp 4 (vP 0 0) (kp 5 (vP 0 0) (kp 6 (vI (St.left s)) (kp 7 vT (WpOps.nil (thenK_at (on' (Wp.ret (thenK_ret (endK_retn [] (Value.tuple #[]) (by kernel_rfl) (by kernel_rfl) ?_)))))) (hop := fun _ => by_fact d1)))))))))
    exact endSt 1 2 3 (by kernel_rfl) rfl (by decide) (.is rfl (by kernel_rfl) rfl rfl) (.is rfl (by kernel_rfl) rfl rfl) (.is rfl (by kernel_rfl) rfl rfl) rfl (fun _ => rfl) rfl
  rw [if_neg h0]
  have d1 : ((s.left : Int) == 0) = false := beq_false_of_ne (by omega)
  have wl : IntKind.i64.wrap ((s.left : Int) - 1) = ((s.left - 1 : Nat) : Int) := by rw [wr _ (by omega) (by omega)]; omega
  by_cases h1 : s.left - 1 > 0
  · rw [if_pos h1]
    have d2 : decide (((s.left - 1 : Nat) : Int) > 0) = true := decide_eq_true (by omega)
    refine ⟨pre, Ct.of f46 rfl (of_decide_eq_true (by kernel_rfl)) rfl rfl ?_⟩
    unfold stIn sB stC rowQ rowO rowA qB aB
    refine Wp.seq (Wp.seq (Wp.text (kp 2 (vP 0 0) (kp 3 (vP 0 0) (kp 4 (vP 0 0) (kp 5 (vP 0 0) (kp 6 (vI (St.left s)) (kp 7 vF (WpOps.nil (thenK_at (off' (Wp.skip (thenK_at (Wp.seq (Wp.text (kp 8 (vP 0 0) (kp 9 (vP 0 0) (kp 10 (vP 0 0) (kp 11 (vP 0 0) (kp 12 (vI (St.left s)) (kp 13 (vI (IntKind.wrap .i64 ((↑(St.left s) : Int) - 1))) (kp 14 (vP 0 0) (kp 15 (vP 0 0) (kp 16 (vP 0 0) (ld (.tuple #[]) (0) (Blk.mk 73 true [vI (IntKind.wrap .i64 ((↑(St.left s) : Int) - 1)), vI (St.wait s), vI (St.tried s), vI (St.tries s), Value.bool (St.first s), vI (St.win s), vI (St.state s), vI (St.gen s), vI (St.sent s), vI (St.acked s), vI (St.wanted s), Value.bool (St.rej s), Value.bool (St.ren s), Value.slice (some (Addr.mk 1 (List.length pre) none)) (List.length (St.queue s)) (List.length (St.queue s)), Value.slice (some ⟨2, 0, none⟩) (List.length (St.out s)) (List.length (St.out s)), Value.slice (some ⟨3, 0, none⟩) (List.length (St.ans s)) (List.length (St.ans s))]) (WpOps.nil (thenK_at (Wp.seq (Wp.seq (Wp.text (kp 17 (vP 0 0) (kp 18 (vP 0 0) ?_)))))))))))))))))))))))) (hop := fun _ => by_fact d1)))))))))
    refine kp 19 (vP 0 0) (kp 20 (vP 0 0) (kp 21 (vI (IntKind.wrap .i64 ((↑(St.left s) : Int) - 1))) (kp 22 (.bool (decide (IntKind.wrap .i64 ((↑(St.left s) : Int) - 1) > 0))) (WpOps.nil (thenK_at ?_)))))
    rw [wl]
    refine on' (Wp.ret (thenK_ret (endK_retn [] (Value.tuple #[]) (by kernel_rfl) (by kernel_rfl) ?_))) (hc := ev_fact d2)
    exact endSt 1 2 3 (by kernel_rfl) rfl (by decide) (.is rfl (by kernel_rfl) rfl rfl) (.is rfl (by kernel_rfl) rfl rfl) (.is rfl (by kernel_rfl) rfl rfl) rfl (fun _ => rfl) rfl
  rw [if_neg h1]
  have e1 : s.left - 1 = 0 := by omega
  have d2 : decide (((s.left - 1 : Nat) : Int) > 0) = false := decide_eq_false (by omega)
  by_cases h2 : s.tried ≥ s.tries
  · rw [if_pos h2]
    have d3 : decide ((s.tried : Int) ≥ (s.tries : Int)) = true := decide_eq_true (by omega)
    obtain ⟨s1, hs1⟩ : ∃ s1, s1 = ({ s with left := 0 } : St) := ⟨_, rfl⟩
    have c1 := giveUp68 s1 pre (by subst hs1; show s.ans.length ≤ _; omega)
    rw [← hs1]
    refine ⟨[], Ct.of f46 rfl (of_decide_eq_true (by kernel_rfl)) rfl rfl ?_⟩
    unfold stIn sB stC rowQ rowO rowA qB aB
    refine Wp.seq (Wp.seq (Wp.text (kp 2 (vP 0 0) (kp 3 (vP 0 0) (kp 4 (vP 0 0) (kp 5 (vP 0 0) (kp 6 (vI (St.left s)) (kp 7 vF (WpOps.nil (thenK_at (off' (Wp.skip (thenK_at (Wp.seq (Wp.text (kp 8 (vP 0 0) (kp 9 (vP 0 0) (kp 10 (vP 0 0) (kp 11 (vP 0 0) (kp 12 (vI (St.left s)) (kp 13 (vI (IntKind.wrap .i64 ((↑(St.left s) : Int) - 1))) (kp 14 (vP 0 0) (kp 15 (vP 0 0) (kp 16 (vP 0 0) (ld (.tuple #[]) (0) (Blk.mk 73 true [vI (IntKind.wrap .i64 ((↑(St.left s) : Int) - 1)), vI (St.wait s), vI (St.tried s), vI (St.tries s), Value.bool (St.first s), vI (St.win s), vI (St.state s), vI (St.gen s), vI (St.sent s), vI (St.acked s), vI (St.wanted s), Value.bool (St.rej s), Value.bool (St.ren s), Value.slice (some (Addr.mk 1 (List.length pre) none)) (List.length (St.queue s)) (List.length (St.queue s)), Value.slice (some ⟨2, 0, none⟩) (List.length (St.out s)) (List.length (St.out s)), Value.slice (some ⟨3, 0, none⟩) (List.length (St.ans s)) (List.length (St.ans s))]) (WpOps.nil (thenK_at (Wp.seq (Wp.seq (Wp.text (kp 17 (vP 0 0) (kp 18 (vP 0 0) ?_)))))))))))))))))))))))) (hop := fun _ => by_fact d1)))))))))
    refine kp 19 (vP 0 0) (kp 20 (vP 0 0) (kp 21 (vI (IntKind.wrap .i64 ((↑(St.left s) : Int) - 1))) (kp 22 (.bool (decide (IntKind.wrap .i64 ((↑(St.left s) : Int) - 1) > 0))) (WpOps.nil (thenK_at ?_)))))
    rw [wl]
    refine off' (Wp.skip (thenK_at (Wp.seq (Wp.seq (Wp.region (by kernel_rfl) (kp 23 (vP 0 0) (kp 24 (vP 0 0) (kp 25 (vP 0 0) (kp 26 (vP 0 2) (kp 27 (vI (St.tried s)) (kp 28 (vP 0 0) (kp 29 (vP 0 0) (kp 30 (vP 0 0) (kp 31 (vP 0 3) (kp 32 (vI (St.tries s)) (kp 33 vT (WpOps.nil (thenK_at (on' (Wp.seq (Wp.text (kp 34 (vP 0 0) (cl 35 68 [vP 0 0] ?_))))))) (hop := fun _ => by_fact d3))))))))))))))))) (hc := ev_fact d2)
    rw [e1]
    refine WpCall.st 0 1 2 3 c1 (by decide) (by kernel_rfl) (by subst hs1; rfl) (by subst hs1; kernel_rfl) (by subst hs1; kernel_rfl) (by subst hs1; kernel_rfl) rfl (fun _ => rfl) ?_
    unfold behind sB stC rowQ rowO rowA qB aB
    refine WpOps.nil (thenK_at (Wp.ret (thenK_ret (endK_retn [] (Value.tuple #[]) (by kernel_rfl) (by kernel_rfl) ?_))))
    exact endSt 4 5 6 (by kernel_rfl) rfl (by decide) (.is rfl (by kernel_rfl) rfl rfl) (.is rfl (by kernel_rfl) rfl rfl) (.is rfl (by kernel_rfl) rfl rfl) rfl (fun _ => rfl) rfl
  rw [if_neg h2]
  have d3 : decide ((s.tried : Int) ≥ (s.tries : Int)) = false := decide_eq_false (by omega)
  have wt : IntKind.i64.wrap ((s.tried : Int) + 1) = ((s.tried + 1 : Nat) : Int) := by rw [wr _ (by omega) (by omega)]; omega
  dsimp only
  obtain ⟨s1, hs1⟩ : ∃ s1, s1 = ({ s with tried := s.tried + 1, left := s.wait } : St) := ⟨_, rfl⟩
  have ea : s1.ans = s.ans := by rw [hs1]
  rw [← hs1]
  refine ⟨pre, Ct.of f46 rfl (of_decide_eq_true (by kernel_rfl)) rfl rfl ?_⟩
  unfold stIn sB stC rowQ rowO rowA qB aB
  refine Wp.seq (Wp.seq (Wp.text (kp 2 (vP 0 0) (kp 3 (vP 0 0) (kp 4 (vP 0 0) (kp 5 (vP 0 0) (kp 6 (vI (St.left s)) (kp 7 vF (WpOps.nil (thenK_at (off' (Wp.skip (thenK_at (Wp.seq (Wp.text (kp 8 (vP 0 0) (kp 9 (vP 0 0) (kp 10 (vP 0 0) (kp 11 (vP 0 0) (kp 12 (vI (St.left s)) (kp 13 (vI (IntKind.wrap .i64 ((↑(St.left s) : Int) - 1))) (kp 14 (vP 0 0) (kp 15 (vP 0 0) (kp 16 (vP 0 0) (ld (.tuple #[]) (0) (Blk.mk 73 true [vI (IntKind.wrap .i64 ((↑(St.left s) : Int) - 1)), vI (St.wait s), vI (St.tried s), vI (St.tries s), Value.bool (St.first s), vI (St.win s), vI (St.state s), vI (St.gen s), vI (St.sent s), vI (St.acked s), vI (St.wanted s), Value.bool (St.rej s), Value.bool (St.ren s), Value.slice (some (Addr.mk 1 (List.length pre) none)) (List.length (St.queue s)) (List.length (St.queue s)), Value.slice (some ⟨2, 0, none⟩) (List.length (St.out s)) (List.length (St.out s)), Value.slice (some ⟨3, 0, none⟩) (List.length (St.ans s)) (List.length (St.ans s))]) (WpOps.nil (thenK_at (Wp.seq (Wp.seq (Wp.text (kp 17 (vP 0 0) (kp 18 (vP 0 0) ?_)))))))))))))))))))))))) (hop := fun _ => by_fact d1)))))))))
  refine kp 19 (vP 0 0) (kp 20 (vP 0 0) (kp 21 (vI (IntKind.wrap .i64 ((↑(St.left s) : Int) - 1))) (kp 22 (.bool (decide (IntKind.wrap .i64 ((↑(St.left s) : Int) - 1) > 0))) (WpOps.nil (thenK_at ?_)))))
  rw [wl]
  refine off' (Wp.skip (thenK_at (Wp.seq (Wp.seq (Wp.region (by kernel_rfl) (kp 23 (vP 0 0) (kp 24 (vP 0 0) (kp 25 (vP 0 0) (kp 26 (vP 0 2) (kp 27 (vI (St.tried s)) (kp 28 (vP 0 0) (kp 29 (vP 0 0) (kp 30 (vP 0 0) (kp 31 (vP 0 3) (kp 32 (vI (St.tries s)) (kp 33 vF (WpOps.nil (thenK_at (off' (Wp.skip (thenK_at (Wp.seq (Wp.text (kp 36 (vP 0 0) (kp 37 (vP 0 0) (kp 38 (vP 0 0) (kp 39 (vP 0 2) (kp 40 (vI (St.tried s)) (kp 41 (vI (IntKind.wrap .i64 ((↑(St.tried s) : Int) + 1))) (kp 42 (vP 0 0) (kp 43 (vP 0 0) (kp 44 (vP 0 2) (ld (.tuple #[]) (0) (Blk.mk 73 true [vI (↑(St.left s - 1) : Int), vI (St.wait s), vI (IntKind.wrap .i64 ((↑(St.tried s) : Int) + 1)), vI (St.tries s), Value.bool (St.first s), vI (St.win s), vI (St.state s), vI (St.gen s), vI (St.sent s), vI (St.acked s), vI (St.wanted s), Value.bool (St.rej s), Value.bool (St.ren s), Value.slice (some (Addr.mk 1 (List.length pre) none)) (List.length (St.queue s)) (List.length (St.queue s)), Value.slice (some ⟨2, 0, none⟩) (List.length (St.out s)) (List.length (St.out s)), Value.slice (some ⟨3, 0, none⟩) (List.length (St.ans s)) (List.length (St.ans s))]) ?_))))))))))))))))) (hop := fun _ => by_fact d3))))))))))))))))) (hc := ev_fact d2)
  refine WpOps.nil (thenK_at (Wp.seq (Wp.text (kp 45 (vP 0 0) (kp 46 (vP 0 0) (kp 47 (vP 0 0) (kp 48 (vP 0 0) (kp 49 (vP 0 1) (kp 50 (vI (St.wait s)) (kp 51 (vP 0 0) (kp 52 (vP 0 0) (kp 53 (vP 0 0) (ld (.tuple #[]) (0) (Blk.mk 73 true [vI (St.wait s), vI (St.wait s), vI (IntKind.wrap .i64 ((↑(St.tried s) : Int) + 1)), vI (St.tries s), Value.bool (St.first s), vI (St.win s), vI (St.state s), vI (St.gen s), vI (St.sent s), vI (St.acked s), vI (St.wanted s), Value.bool (St.rej s), Value.bool (St.ren s), Value.slice (some (Addr.mk 1 (List.length pre) none)) (List.length (St.queue s)) (List.length (St.queue s)), Value.slice (some ⟨2, 0, none⟩) (List.length (St.out s)) (List.length (St.out s)), Value.slice (some ⟨3, 0, none⟩) (List.length (St.ans s)) (List.length (St.ans s))]) (WpOps.nil (thenK_at (Wp.seq (Wp.text (kp 54 (vP 0 0) (kp 55 (vP 0 0) (kp 56 (vP 0 6) (kp 57 (vI (St.state s)) (WpOps.nil (thenK_at (Wp.block (Wp.seq (Wp.text (kp 59 (.bool ((↑(St.state s) : Int) == 1)) (kp 58 (.bool ((↑(St.state s) : Int) == 1)) (WpOps.nil (thenK_at ?_))))))))))))))))))))))))))))))
  rw [wt]
  skip
  by_cases h3 : s.state = 1
  · have d4 : ((s.state : Int) == 1) = true := by rw [h3]; rfl
    have c1 := ask70 s1 pre (by rw [ea]; omega)
    rw [if_pos h3]
    refine on' (Wp.text (kp 60 (vP 0 0) (cl 61 70 [vP 0 0] ?_))) (hc := ev_fact d4)
    refine WpCall.st 0 1 2 3 c1 (by decide) (by kernel_rfl) (by subst hs1; rfl) (by subst hs1; kernel_rfl) (by subst hs1; kernel_rfl) (by subst hs1; kernel_rfl) rfl (fun _ => rfl) ?_
    unfold behind sB stC rowQ rowO rowA qB aB
    refine WpOps.nil (blockK_norm (endK_norm [] (Value.tuple #[]) (by kernel_rfl) (by kernel_rfl) ?_))
    exact endSt 4 5 6 (by kernel_rfl) rfl (by decide) (.is rfl (by kernel_rfl) rfl rfl) (.is rfl (by kernel_rfl) rfl rfl) (.is rfl (by kernel_rfl) rfl rfl) rfl (fun _ => rfl) rfl
  rw [if_neg h3]
  have d4 : ((s.state : Int) == 1) = false := beq_false_of_ne (by omega)
  by_cases h4 : s.state = 3
  · have d5 : ((s.state : Int) == 3) = true := by rw [h4]; rfl
    have c1 := send63 s1 pre 6 0 0 nob (by decide) (by rw [ea]; omega)
    rw [if_pos h4]
    refine off' (Wp.seq (Wp.text (kp 63 vT (kp 62 vT (WpOps.nil (thenK_at (on' (Wp.text (kp 64 (vP 0 0) (cl 65 63 [vP 0 0, Value.int .u8 6, vI 0, vI 0, Value.string (ByteArray.mk #[])] ?_))))))) (hop := fun _ => by_fact d5)))) (hc := ev_fact d4)
    refine WpCall.st 0 1 2 3 c1 (by decide) (by kernel_rfl) (by subst hs1; rfl) (by subst hs1; kernel_rfl) (by subst hs1; kernel_rfl) (by subst hs1; kernel_rfl) rfl (fun _ => rfl) ?_
    unfold behind sB stC rowQ rowO rowA qB aB
    refine WpOps.nil (blockK_norm (endK_norm [] (Value.tuple #[]) (by kernel_rfl) (by kernel_rfl) ?_))
    exact endSt 4 5 6 (by kernel_rfl) rfl (by decide) (.is rfl (by kernel_rfl) rfl rfl) (.is rfl (by kernel_rfl) rfl rfl) (.is rfl (by kernel_rfl) rfl rfl) rfl (fun _ => rfl) rfl
  rw [if_neg h4]
  have d5 : ((s.state : Int) == 3) = false := beq_false_of_ne (by omega)
  by_cases h5 : s.state = 2
  · have d6 : ((s.state : Int) == 2) = true := by rw [h5]; rfl
    have c1 := again71 s1 pre (by rw [hs1]; exact o7) (by rw [hs1]; show s.out.length ≤ _; omega) (by rw [ea]; omega)
    rw [if_pos h5]
    refine off' (Wp.seq (Wp.text (kp 63 vF (kp 62 vF (WpOps.nil (thenK_at (off' (Wp.seq (Wp.text (kp 67 vT (kp 66 vT (WpOps.nil (thenK_at (on' (Wp.text (kp 68 (vP 0 0) (cl 69 71 [vP 0 0] ?_))))))) (hop := fun _ => by_fact d6)))))))) (hop := fun _ => by_fact d5)))) (hc := ev_fact d4)
    refine WpCall.st 0 1 2 3 c1 (by decide) (by kernel_rfl) (by subst hs1; rfl) (by subst hs1; kernel_rfl) (by subst hs1; kernel_rfl) (by subst hs1; kernel_rfl) rfl (fun _ => rfl) ?_
    unfold behind sB stC rowQ rowO rowA qB aB
    refine WpOps.nil (blockK_norm (endK_norm [] (Value.tuple #[]) (by kernel_rfl) (by kernel_rfl) ?_))
    exact endSt 4 5 6 (by kernel_rfl) rfl (by decide) (.is rfl (by kernel_rfl) rfl rfl) (.is rfl (by kernel_rfl) rfl rfl) (.is rfl (by kernel_rfl) rfl rfl) rfl (fun _ => rfl) rfl
  rw [if_neg h5]
  have d6 : ((s.state : Int) == 2) = false := beq_false_of_ne (by omega)
  refine off' (Wp.seq (Wp.text (kp 63 vF (kp 62 vF (WpOps.nil (thenK_at (off' (Wp.seq (Wp.text (kp 67 vF (kp 66 vF (WpOps.nil (thenK_at (off' (Wp.skip (blockK_norm (endK_norm [] (Value.tuple #[]) (by kernel_rfl) (by kernel_rfl) ?_))))))) (hop := fun _ => by_fact d6)))))))) (hop := fun _ => by_fact d5)))) (hc := ev_fact d4)
  subst hs1
  exact endSt 1 2 3 (by kernel_rfl) rfl (by decide) (.is rfl (by kernel_rfl) rfl rfl) (.is rfl (by kernel_rfl) rfl rfl) (.is rfl (by kernel_rfl) rfl rfl) rfl (fun _ => rfl) rfl
theorem f45 : E.funcs 45 = some Try.f45 := by kernel_rfl
theorem frame45 (s : St) (pre : List ByteArray) (b : ByteArray) (hA : s.ans.length ≤ 10000) (hok : s.Ok) : ∃ pre', Ct 45 [.string b] s pre (.tuple #[]) (s.frmB false b) pre' := by
  have c0 := read13 b
  unfold rdV at c0
  unfold St.frmB
  by_cases hr : RdOk b
  · rw [if_pos hr] at c0 ⊢
    obtain ⟨_, _, ⟨k1, k2⟩, ⟨g1, g2⟩, ⟨n1, n2⟩, ⟨r1, r2⟩, _⟩ := hr
    have ek : at' b 0 = ((byteAt b 0).toNat : Nat) := rfl
    have eg : at' b 1 = ((byteAt b 1).toNat : Nat) := rfl
    have en : at' b 2 / 8 = (((byteAt b 2).toNat / 8 : Nat) : Int) := rfl
    have er : at' b 2 % 8 = (((byteAt b 2).toNat % 8 : Nat) : Int) := rfl
    rw [ek] at k1 k2 c0
    rw [eg] at g1 g2 c0
    rw [en] at n1 n2 c0
    rw [er] at r1 r2 c0
    generalize (byteAt b 0).toNat = k at *
    generalize (byteAt b 1).toNat = g at *
    generalize (byteAt b 2).toNat / 8 = n at *
    generalize (byteAt b 2).toNat % 8 = r at *
    generalize dat b = d at *
    have hk8 : k = 1 ∨ k = 2 ∨ k = 3 ∨ k = 4 ∨ k = 5 ∨ k = 6 ∨ k = 7 ∨ k = 8 := by omega
    obtain ⟨p1, cS⟩ := setFrame65 s pre g (by omega)
    obtain ⟨P, hP⟩ : ∃ P, P = (if k = 1 then p1 else if (k = 2 ∧ g = s.gen ∧ s.state = 1 ∧ s.first = true) ∨ (k = 6 ∧ g = s.gen ∧ s.state ≠ 0) ∨ (k = 7 ∧ g = s.gen ∧ s.state = 3) then [] else pre) := ⟨_, rfl⟩
    refine ⟨P, Ct.of f45 rfl (of_decide_eq_true (by kernel_rfl)) rfl rfl ?_⟩
    unfold stIn sB stC rowQ rowO rowA qB aB
    refine Wp.seq (Wp.text (kp 12 (.string b) (fr 13 13 [Value.string b] (WpFun.of (c0) (kp 11 (.tuple #[vI k, vI g, vI n, vI r, Value.string d, vI 0]) (kp 14 (vI k) (kp 15 (vI g) (kp 16 (vI n) (kp 17 (vI r) (kp 18 (.string d) (kp 19 (vI 0) (kp 4 (vI k) (kp 5 (vI g) (kp 6 (vI n) (kp 7 (vI r) (kp 8 (.string d) (kp 9 (vI 0) (WpOps.nil (thenK_at (Wp.seq (Wp.seq (Wp.text (kp 20 (vI 0) (kp 21 vF (WpOps.nil (thenK_at (off' (Wp.skip (thenK_at (Wp.seq (Wp.text (kp 22 (vI k) (kp 23 (.int .u8 (IntKind.wrap .u8 (↑k : Int))) (kp 10 (.int .u8 (IntKind.wrap .u8 (↑k : Int))) (WpOps.nil (thenK_at ?_))))))))))))))))))))))))))))))))))))
    rcases hk8 with rfl | rfl | rfl | rfl | rfl | rfl | rfl | rfl
    · rw [show s.frm false 1 g n r d = s.setf false g from by unfold St.frm; rw [if_neg (fun h => h.1 rfl), if_pos rfl]]
      have c1 := cS
      obtain rfl : P = p1 := by rw [hP, if_pos rfl]
      refine Wp.seq (Wp.seq (Wp.text (kp 24 (.int .u8 (IntKind.wrap .u8 (↑1 : Int))) (kp 25 vF (kp 26 vF (um 27 (um 28 (kp 29 vF (kp 30 vF (um 31 (um 32 (um 33 (um 34 (um 35 (um 36 (kp 37 vF (WpOps.nil (thenK_at (off' (Wp.skip (thenK_at (Wp.seq (Wp.text (kp 38 (.int .u8 (IntKind.wrap .u8 (↑1 : Int))) (WpOps.nil (thenK_at (Wp.block (Wp.seq (Wp.text (kp 40 vT (kp 39 vT (WpOps.nil (thenK_at (on' (Wp.text (kp 41 (vP 0 0) (kp 42 (vI g) (cl 43 65 [vP 0 0, vI g] ?_))))))))))))))))))))))))))))))))))))))
      refine WpCall.st 0 1 2 3 c1 (by decide) (by kernel_rfl) rfl (by kernel_rfl) (by kernel_rfl) (by kernel_rfl) rfl (fun _ => rfl) ?_
      unfold behind sB stC rowQ rowO rowA qB aB
      refine WpOps.nil (blockK_norm (endK_norm [] (Value.tuple #[]) (by kernel_rfl) (by kernel_rfl) ?_))
      exact endSt 4 5 6 (by kernel_rfl) rfl (by decide) (.is rfl (by kernel_rfl) rfl rfl) (.is rfl (by kernel_rfl) rfl rfl) (.is rfl (by kernel_rfl) rfl rfl) rfl (fun _ => rfl) rfl
    · by_cases hg : g = s.gen
      · have dg : ((g : Int) != (s.gen : Int)) = false := by rw [hg]; exact bne_self_eq_false _
        rw [show s.frm false 2 g n r d = (if s.state = 1 ∧ s.first = true then (if s.ren then { s.rise false with ren := false } else { (s.rise false).tel 1 nob with ren := false }) else s) from by unfold St.frm; rw [if_neg (fun h => h.2.2 hg), if_neg (by decide), if_neg (by decide), if_pos rfl]]
        by_cases hc : s.state = 1 ∧ s.first = true
        · rw [if_pos hc]
          have d1 : ((s.state : Int) == 1) = true := by rw [hc.1]; rfl
          have d2 : s.first = true := hc.2
          have c1 := rise67 s pre
          by_cases hn : s.ren = true
          ·
            have hn' : (s.rise false).ren = true := hn
            rw [if_pos hn]
            obtain rfl : P = [] := by rw [hP, if_neg (by decide), if_pos (by first | exact .inl ⟨rfl, hg, hc⟩ | exact .inr (.inl ⟨rfl, hg, hc⟩) | exact .inr (.inr ⟨rfl, hg, hc⟩))]
            refine Wp.seq (Wp.seq (Wp.text (kp 24 (.int .u8 (IntKind.wrap .u8 (↑2 : Int))) (kp 25 vT (kp 26 vT (kp 27 (.int .u8 (IntKind.wrap .u8 (↑2 : Int))) (kp 28 vT (kp 29 vT (kp 30 vT (kp 31 (vI g) (kp 32 (vP 0 0) (kp 33 (vP 0 0) (kp 34 (vP 0 7) (kp 35 (vI (St.gen s)) (kp 36 vF (kp 37 vF (WpOps.nil (thenK_at (off' (Wp.skip (thenK_at (Wp.seq (Wp.text (kp 38 (.int .u8 (IntKind.wrap .u8 (↑2 : Int))) (WpOps.nil (thenK_at (Wp.block (Wp.seq (Wp.text (kp 40 vF (kp 39 vF (WpOps.nil (thenK_at (off' (Wp.seq (Wp.text (kp 45 vF (kp 44 vF (WpOps.nil (thenK_at (off' (Wp.seq (Wp.text (kp 81 vT (kp 80 vT (WpOps.nil (thenK_at (on' (Wp.seq (Wp.text (kp 82 (vP 0 0) (kp 83 (vP 0 0) (kp 84 (vP 0 6) (kp 85 (vI (St.state s)) (kp 86 vT (kp 87 vT (kp 88 (vP 0 0) (kp 89 (vP 0 0) (kp 90 (vP 0 4) (kp 91 vT (kp 92 vT (WpOps.nil (thenK_at (on' (Wp.seq (Wp.text (kp 93 (vP 0 0) (cl 94 67 [vP 0 0] ?_)))))))) (hop := fun _ => by_fact d2)))))) (hop := fun _ => by_fact d1))))))))))))))))))))))))))))))))))))))))) (hop := fun _ => by_fact dg))))))))))))))))
            refine WpCall.st 0 1 2 3 c1 (by decide) (by kernel_rfl) rfl (by kernel_rfl) (by kernel_rfl) (by kernel_rfl) rfl (fun _ => rfl) ?_
            unfold behind sB stC rowQ rowO rowA qB aB
            refine WpOps.nil (thenK_at (Wp.seq (Wp.seq (Wp.text (kp 95 (vP 0 0) (kp 96 (vP 0 0) (kp 97 (vP 0 12) (kp 98 vT (kp 99 vF (WpOps.nil (thenK_at (off' (Wp.skip (thenK_at (Wp.text (kp 102 (vP 0 0) (kp 103 (vP 0 0) (kp 104 (vP 0 12) (cg0 (.tuple #[]) (Heap.set (Heap.alloc (Heap.alloc (Heap.alloc (Heap.set (Heap.set (Heap.set (Heap.set (heapOf [Blk.mk 73 true [vI (St.left s), vI (St.wait s), vI (St.tried s), vI (St.tries s), Value.bool (St.first s), vI (St.win s), vI (St.state s), vI (St.gen s), vI (St.sent s), vI (St.acked s), vI (St.wanted s), Value.bool (St.rej s), Value.bool (St.ren s), Value.slice (some (Addr.mk 1 (List.length pre) none)) (List.length (St.queue s)) (List.length (St.queue s)), Value.slice (some ⟨2, 0, none⟩) (List.length (St.out s)) (List.length (St.out s)), Value.slice (some ⟨3, 0, none⟩) (List.length (St.ans s)) (List.length (St.ans s))], Blk.mk 9 true (ss (pre ++ St.queue s)), Blk.mk 9 true (ss (St.out s)), Blk.mk 61 true (evl (St.ans s))]) 0 (some (Blk.mk 73 true [vI (St.left (St.rise false s)), vI (St.wait (St.rise false s)), vI (St.tried (St.rise false s)), vI (St.tries (St.rise false s)), Value.bool (St.first (St.rise false s)), vI (St.win (St.rise false s)), vI (St.state (St.rise false s)), vI (St.gen (St.rise false s)), vI (St.sent (St.rise false s)), vI (St.acked (St.rise false s)), vI (St.wanted (St.rise false s)), Value.bool (St.rej (St.rise false s)), Value.bool (St.ren (St.rise false s)), Value.slice (some ⟨4, 0, none⟩) (List.length (St.queue (St.rise false s))) (List.length (St.queue (St.rise false s))), Value.slice (some (Addr.mk (4 + 1) 0 none)) (List.length (St.out (St.rise false s))) (List.length (St.out (St.rise false s))), Value.slice (some (Addr.mk (4 + 2) 0 none)) (List.length (St.ans (St.rise false s))) (List.length (St.ans (St.rise false s)))]))) 1 none) 2 none) 3 none) (Blk.mk 9 true (ss ([] ++ St.queue (St.rise false s))))) (Blk.mk 9 true (ss (St.out (St.rise false s))))) (Blk.mk 61 true (evl (St.ans (St.rise false s))))) 0 (some (Blk.mk 73 true [vI (St.left (St.rise false s)), vI (St.wait (St.rise false s)), vI (St.tried (St.rise false s)), vI (St.tries (St.rise false s)), Value.bool (St.first (St.rise false s)), vI (St.win (St.rise false s)), vI (St.state (St.rise false s)), vI (St.gen (St.rise false s)), vI (St.sent (St.rise false s)), vI (St.acked (St.rise false s)), vI (St.wanted (St.rise false s)), Value.bool (St.rej (St.rise false s)), vF, Value.slice (some ⟨4, 0, none⟩) (List.length (St.queue (St.rise false s))) (List.length (St.queue (St.rise false s))), Value.slice (some (Addr.mk (4 + 1) 0 none)) (List.length (St.out (St.rise false s))) (List.length (St.out (St.rise false s))), Value.slice (some (Addr.mk (4 + 2) 0 none)) (List.length (St.ans (St.rise false s))) (List.length (St.ans (St.rise false s)))]))) ?_))))))))))) (hop := fun _ => by_fact hn')))))))))
            refine WpOps.nil (blockK_norm (endK_norm [] (Value.tuple #[]) (by kernel_rfl) (by kernel_rfl) ?_))
            exact endSt 4 5 6 (by kernel_rfl) rfl (by decide) (.is rfl (by kernel_rfl) rfl rfl) (.is rfl (by kernel_rfl) rfl rfl) (.is rfl (by kernel_rfl) rfl rfl) rfl (fun _ => rfl) rfl
          · have hn : s.ren = false := by simpa using hn
            have hn' : (s.rise false).ren = false := hn
            have c2 := tell66 (s.rise false) [] 1 nob (by show s.ans.length ≤ _; omega)
            rw [if_neg (by rw [hn]; decide)]
            obtain rfl : P = [] := by rw [hP, if_neg (by decide), if_pos (by first | exact .inl ⟨rfl, hg, hc⟩ | exact .inr (.inl ⟨rfl, hg, hc⟩) | exact .inr (.inr ⟨rfl, hg, hc⟩))]
            refine Wp.seq (Wp.seq (Wp.text (kp 24 (.int .u8 (IntKind.wrap .u8 (↑2 : Int))) (kp 25 vT (kp 26 vT (kp 27 (.int .u8 (IntKind.wrap .u8 (↑2 : Int))) (kp 28 vT (kp 29 vT (kp 30 vT (kp 31 (vI g) (kp 32 (vP 0 0) (kp 33 (vP 0 0) (kp 34 (vP 0 7) (kp 35 (vI (St.gen s)) (kp 36 vF (kp 37 vF (WpOps.nil (thenK_at (off' (Wp.skip (thenK_at (Wp.seq (Wp.text (kp 38 (.int .u8 (IntKind.wrap .u8 (↑2 : Int))) (WpOps.nil (thenK_at (Wp.block (Wp.seq (Wp.text (kp 40 vF (kp 39 vF (WpOps.nil (thenK_at (off' (Wp.seq (Wp.text (kp 45 vF (kp 44 vF (WpOps.nil (thenK_at (off' (Wp.seq (Wp.text (kp 81 vT (kp 80 vT (WpOps.nil (thenK_at (on' (Wp.seq (Wp.text (kp 82 (vP 0 0) (kp 83 (vP 0 0) (kp 84 (vP 0 6) (kp 85 (vI (St.state s)) (kp 86 vT (kp 87 vT (kp 88 (vP 0 0) (kp 89 (vP 0 0) (kp 90 (vP 0 4) (kp 91 vT (kp 92 vT (WpOps.nil (thenK_at (on' (Wp.seq (Wp.text (kp 93 (vP 0 0) (cl 94 67 [vP 0 0] ?_)))))))) (hop := fun _ => by_fact d2)))))) (hop := fun _ => by_fact d1))))))))))))))))))))))))))))))))))))))))) (hop := fun _ => by_fact dg))))))))))))))))
            refine WpCall.st 0 1 2 3 c1 (by decide) (by kernel_rfl) rfl (by kernel_rfl) (by kernel_rfl) (by kernel_rfl) rfl (fun _ => rfl) ?_
            unfold behind sB stC rowQ rowO rowA qB aB
            refine WpOps.nil (thenK_at (Wp.seq (Wp.seq (Wp.text (kp 95 (vP 0 0) (kp 96 (vP 0 0) (kp 97 (vP 0 12) (kp 98 vF (kp 99 vT (WpOps.nil (thenK_at (on' (Wp.text (kp 100 (vP 0 0) (cl 101 66 [vP 0 0, vI 1, Value.string (ByteArray.mk #[])] ?_))))))) (hop := fun _ => by_fact hn')))))))))
            refine WpCall.st 0 4 5 6 c2 (by decide) (by kernel_rfl) rfl (by kernel_rfl) (by kernel_rfl) (by kernel_rfl) rfl (fun _ => rfl) ?_
            unfold behind sB stC rowQ rowO rowA qB aB
            refine WpOps.nil (thenK_at (Wp.text (kp 102 (vP 0 0) (kp 103 (vP 0 0) (kp 104 (vP 0 12) (cg0 (.tuple #[]) (Heap.set (Heap.alloc (Heap.alloc (Heap.alloc (Heap.set (Heap.set (Heap.set (Heap.set (Heap.alloc (Heap.alloc (Heap.alloc (Heap.set (Heap.set (Heap.set (Heap.set (heapOf [Blk.mk 73 true [vI (St.left s), vI (St.wait s), vI (St.tried s), vI (St.tries s), Value.bool (St.first s), vI (St.win s), vI (St.state s), vI (St.gen s), vI (St.sent s), vI (St.acked s), vI (St.wanted s), Value.bool (St.rej s), Value.bool (St.ren s), Value.slice (some (Addr.mk 1 (List.length pre) none)) (List.length (St.queue s)) (List.length (St.queue s)), Value.slice (some ⟨2, 0, none⟩) (List.length (St.out s)) (List.length (St.out s)), Value.slice (some ⟨3, 0, none⟩) (List.length (St.ans s)) (List.length (St.ans s))], Blk.mk 9 true (ss (pre ++ St.queue s)), Blk.mk 9 true (ss (St.out s)), Blk.mk 61 true (evl (St.ans s))]) 0 (some (Blk.mk 73 true [vI (St.left (St.rise false s)), vI (St.wait (St.rise false s)), vI (St.tried (St.rise false s)), vI (St.tries (St.rise false s)), Value.bool (St.first (St.rise false s)), vI (St.win (St.rise false s)), vI (St.state (St.rise false s)), vI (St.gen (St.rise false s)), vI (St.sent (St.rise false s)), vI (St.acked (St.rise false s)), vI (St.wanted (St.rise false s)), Value.bool (St.rej (St.rise false s)), Value.bool (St.ren (St.rise false s)), Value.slice (some ⟨4, 0, none⟩) (List.length (St.queue (St.rise false s))) (List.length (St.queue (St.rise false s))), Value.slice (some (Addr.mk (4 + 1) 0 none)) (List.length (St.out (St.rise false s))) (List.length (St.out (St.rise false s))), Value.slice (some (Addr.mk (4 + 2) 0 none)) (List.length (St.ans (St.rise false s))) (List.length (St.ans (St.rise false s)))]))) 1 none) 2 none) 3 none) (Blk.mk 9 true (ss ([] ++ St.queue (St.rise false s))))) (Blk.mk 9 true (ss (St.out (St.rise false s))))) (Blk.mk 61 true (evl (St.ans (St.rise false s))))) 0 (some (Blk.mk 73 true [vI (St.left (St.tel 1 nob (St.rise false s))), vI (St.wait (St.tel 1 nob (St.rise false s))), vI (St.tried (St.tel 1 nob (St.rise false s))), vI (St.tries (St.tel 1 nob (St.rise false s))), Value.bool (St.first (St.tel 1 nob (St.rise false s))), vI (St.win (St.tel 1 nob (St.rise false s))), vI (St.state (St.tel 1 nob (St.rise false s))), vI (St.gen (St.tel 1 nob (St.rise false s))), vI (St.sent (St.tel 1 nob (St.rise false s))), vI (St.acked (St.tel 1 nob (St.rise false s))), vI (St.wanted (St.tel 1 nob (St.rise false s))), Value.bool (St.rej (St.tel 1 nob (St.rise false s))), Value.bool (St.ren (St.tel 1 nob (St.rise false s))), Value.slice (some ⟨7, 0, none⟩) (List.length (St.queue (St.tel 1 nob (St.rise false s)))) (List.length (St.queue (St.tel 1 nob (St.rise false s)))), Value.slice (some (Addr.mk (7 + 1) 0 none)) (List.length (St.out (St.tel 1 nob (St.rise false s)))) (List.length (St.out (St.tel 1 nob (St.rise false s)))), Value.slice (some (Addr.mk (7 + 2) 0 none)) (List.length (St.ans (St.tel 1 nob (St.rise false s)))) (List.length (St.ans (St.tel 1 nob (St.rise false s))))]))) 4 none) 5 none) 6 none) (Blk.mk 9 true (ss ([] ++ St.queue (St.tel 1 nob (St.rise false s)))))) (Blk.mk 9 true (ss (St.out (St.tel 1 nob (St.rise false s)))))) (Blk.mk 61 true (evl (St.ans (St.tel 1 nob (St.rise false s)))))) 0 (some (Blk.mk 73 true [vI (St.left (St.tel 1 nob (St.rise false s))), vI (St.wait (St.tel 1 nob (St.rise false s))), vI (St.tried (St.tel 1 nob (St.rise false s))), vI (St.tries (St.tel 1 nob (St.rise false s))), Value.bool (St.first (St.tel 1 nob (St.rise false s))), vI (St.win (St.tel 1 nob (St.rise false s))), vI (St.state (St.tel 1 nob (St.rise false s))), vI (St.gen (St.tel 1 nob (St.rise false s))), vI (St.sent (St.tel 1 nob (St.rise false s))), vI (St.acked (St.tel 1 nob (St.rise false s))), vI (St.wanted (St.tel 1 nob (St.rise false s))), Value.bool (St.rej (St.tel 1 nob (St.rise false s))), vF, Value.slice (some ⟨7, 0, none⟩) (List.length (St.queue (St.tel 1 nob (St.rise false s)))) (List.length (St.queue (St.tel 1 nob (St.rise false s)))), Value.slice (some (Addr.mk (7 + 1) 0 none)) (List.length (St.out (St.tel 1 nob (St.rise false s)))) (List.length (St.out (St.tel 1 nob (St.rise false s)))), Value.slice (some (Addr.mk (7 + 2) 0 none)) (List.length (St.ans (St.tel 1 nob (St.rise false s)))) (List.length (St.ans (St.tel 1 nob (St.rise false s))))]))) ?_))))))
            refine WpOps.nil (blockK_norm (endK_norm [] (Value.tuple #[]) (by kernel_rfl) (by kernel_rfl) ?_))
            exact endSt 7 8 9 (by kernel_rfl) rfl (by decide) (.is rfl (by kernel_rfl) rfl rfl) (.is rfl (by kernel_rfl) rfl rfl) (.is rfl (by kernel_rfl) rfl rfl) rfl (fun _ => rfl) rfl
        · rw [if_neg hc]
          obtain rfl : P = pre := by rw [hP, if_neg (by decide), if_neg (by rintro (⟨h, h1, h2⟩ | ⟨h, h1, h2⟩ | ⟨h, h1, h2⟩) <;> first | omega | exact hc h2)]
          refine Wp.seq (Wp.seq (Wp.text (kp 24 (.int .u8 (IntKind.wrap .u8 (↑2 : Int))) (kp 25 vT (kp 26 vT (kp 27 (.int .u8 (IntKind.wrap .u8 (↑2 : Int))) (kp 28 vT (kp 29 vT (kp 30 vT (kp 31 (vI g) (kp 32 (vP 0 0) (kp 33 (vP 0 0) (kp 34 (vP 0 7) (kp 35 (vI (St.gen s)) (kp 36 vF (kp 37 vF (WpOps.nil (thenK_at (off' (Wp.skip (thenK_at (Wp.seq (Wp.text (kp 38 (.int .u8 (IntKind.wrap .u8 (↑2 : Int))) (WpOps.nil (thenK_at (Wp.block (Wp.seq (Wp.text (kp 40 vF (kp 39 vF (WpOps.nil (thenK_at (off' (Wp.seq (Wp.text (kp 45 vF (kp 44 vF (WpOps.nil (thenK_at (off' (Wp.seq (Wp.text (kp 81 vT (kp 80 vT (WpOps.nil (thenK_at (on' (Wp.seq (Wp.text (kp 82 (vP 0 0) (kp 83 (vP 0 0) (kp 84 (vP 0 6) (kp 85 (vI (St.state s)) (kp 86 (.bool ((↑(St.state s) : Int) == 1)) (kp 87 (.bool ((↑(St.state s) : Int) == 1)) ?_))))))))))))))))))))))))))))))))))))))))) (hop := fun _ => by_fact dg))))))))))))))))
          refine WpOps.fork 5 ((↑(St.state s) : Int) == 1) [88, 89, 90, 91, 92] 92 (St.first s) (false) (by kernel_rfl) (fun g92 => ?_) (fun g92 => ?_) (fun f_92 b92 hb92 => ?_)
          · refine kp 88 (vP 0 0) (kp 89 (vP 0 0) (kp 90 (vP 0 4) (kp 91 (.bool (St.first s)) (kp 92 (.bool (St.first s)) (WpOps.nil ?_) (hop := fun _ => o_pickT g92)) (hw := wants_tt g92)) (hw := wants_tt g92)) (hw := wants_tt g92)) (hw := wants_tt g92)
            exact ⟨rfl, (.upd rfl (.upd rfl (.upd rfl (.upd rfl (.upd rfl .refl))))), (by kernel_rfl)⟩
          · refine um 88 (um 89 (um 90 (um 91 (kp 92 vF (WpOps.nil ?_) (hop := fun _ => o_pickF g92)) (hw := wants_ft g92)) (hw := wants_ft g92)) (hw := wants_ft g92)) (hw := wants_ft g92)
            exact ⟨rfl, (.upd rfl (.upd rfl (.upd rfl (.upd rfl (.upd rfl .refl))))), (by kernel_rfl)⟩
          refine WpOps.nil (thenK_at ?_)
          obtain rfl : b92 = false := by
            rw [hb92]
            cases hf : s.first with
            | false => cases ((s.state : Int) == 1) <;> rfl
            | true => rw [show ((s.state : Int) == 1) = false from beq_false_of_ne (fun h => hc ⟨by omega, hf⟩)]; rfl
          refine off' (Wp.skip (blockK_norm (endK_norm [] (Value.tuple #[]) (by kernel_rfl) (by kernel_rfl) ?_)))
          exact endSt 1 2 3 (by kernel_rfl) rfl (by decide) (.is rfl (by kernel_rfl) rfl rfl) (.is rfl (by kernel_rfl) rfl rfl) (.is rfl (by kernel_rfl) rfl rfl) rfl (fun _ => rfl) rfl
      · rw [show s.frm false 2 g n r d = s from if_pos ⟨by decide, by decide, hg⟩]
        have dg : ((g : Int) != (s.gen : Int)) = true := bne_iff_ne.2 (by omega)
        obtain rfl : P = pre := by rw [hP, if_neg (by decide), if_neg (by rintro (⟨h, h1, h2⟩ | ⟨h, h1, h2⟩ | ⟨h, h1, h2⟩) <;> first | omega | exact hc h2)]
        refine Wp.seq (Wp.seq (Wp.text (kp 24 (.int .u8 (IntKind.wrap .u8 (↑2 : Int))) (kp 25 vT (kp 26 vT (kp 27 (.int .u8 (IntKind.wrap .u8 (↑2 : Int))) (kp 28 vT (kp 29 vT (kp 30 vT (kp 31 (vI g) (kp 32 (vP 0 0) (kp 33 (vP 0 0) (kp 34 (vP 0 7) (kp 35 (vI (St.gen s)) (kp 36 vT (kp 37 vT (WpOps.nil (thenK_at (on' (Wp.ret (thenK_ret (endK_retn [] (Value.tuple #[]) (by kernel_rfl) (by kernel_rfl) ?_))))))) (hop := fun _ => by_fact dg))))))))))))))))
        exact endSt 1 2 3 (by kernel_rfl) rfl (by decide) (.is rfl (by kernel_rfl) rfl rfl) (.is rfl (by kernel_rfl) rfl rfl) (.is rfl (by kernel_rfl) rfl rfl) rfl (fun _ => rfl) rfl
    · by_cases hg : g = s.gen
      · have dg : ((g : Int) != (s.gen : Int)) = false := by rw [hg]; exact bne_self_eq_false _
        rw [show s.frm false 3 g n r d = (if s.state = 2 then s.car 3 n r d else s) from by unfold St.frm; rw [if_neg (fun h => h.2.2 hg), if_neg (by decide), if_neg (by decide), if_neg (by decide), if_neg (by decide), if_neg (by decide)]]
        by_cases hc : s.state = 2
        · rw [if_pos hc]
          have d1 : ((s.state : Int) == 2) = true := by rw [hc]; rfl
          have c1 := carry69 s pre 3 n r d hA (by omega) hok.acked hok.wanted (by have := hok.out; have := hok.win; omega)
          obtain rfl : P = pre := by rw [hP, if_neg (by decide), if_neg (by rintro (⟨h, h1, h2⟩ | ⟨h, h1, h2⟩ | ⟨h, h1, h2⟩) <;> first | omega | exact hc h2)]
          refine Wp.seq (Wp.seq (Wp.text (kp 24 (.int .u8 (IntKind.wrap .u8 (↑3 : Int))) (kp 25 vT (kp 26 vT (kp 27 (.int .u8 (IntKind.wrap .u8 (↑3 : Int))) (kp 28 vT (kp 29 vT (kp 30 vT (kp 31 (vI g) (kp 32 (vP 0 0) (kp 33 (vP 0 0) (kp 34 (vP 0 7) (kp 35 (vI (St.gen s)) (kp 36 vF (kp 37 vF (WpOps.nil (thenK_at (off' (Wp.skip (thenK_at (Wp.seq (Wp.text (kp 38 (.int .u8 (IntKind.wrap .u8 (↑3 : Int))) (WpOps.nil (thenK_at (Wp.block (Wp.seq (Wp.text (kp 40 vF (kp 39 vF (WpOps.nil (thenK_at (off' (Wp.seq (Wp.text (kp 45 vF (kp 44 vF (WpOps.nil (thenK_at (off' (Wp.seq (Wp.text (kp 81 vF (kp 80 vF (WpOps.nil (thenK_at (off' (Wp.seq (Wp.text (kp 106 vF (kp 105 vF (WpOps.nil (thenK_at (off' (Wp.seq (Wp.text (kp 117 vF (kp 116 vF (WpOps.nil (thenK_at (off' (Wp.seq (Wp.seq (Wp.text (kp 126 vT (kp 125 vT (WpOps.nil (thenK_at (on' (Wp.skip (thenK_at (on' (Wp.seq (Wp.text (kp 129 (vP 0 0) (kp 130 (vP 0 0) (kp 131 (vP 0 6) (kp 132 (vI (St.state s)) (kp 133 vT (WpOps.nil (thenK_at (on' (Wp.text (kp 134 (vP 0 0) ?_))))) (hop := fun _ => by_fact d1)))))))))))))))))))))))))))))))))))))))))))))))))))))))))))))))))) (hop := fun _ => by_fact dg))))))))))))))))
          refine kp 135 (.int .u8 (IntKind.wrap .u8 (↑3 : Int))) (kp 136 (vI n) (kp 137 (vI r) (kp 138 (.string d) (cl 139 69 [vP 0 0, Value.int .u8 (IntKind.wrap .u8 (↑3 : Int)), vI n, vI r, Value.string d] ?_))))
          refine WpCall.st 0 1 2 3 c1 (by decide) (by kernel_rfl) rfl (by kernel_rfl) (by kernel_rfl) (by kernel_rfl) rfl (fun _ => rfl) ?_
          unfold behind sB stC rowQ rowO rowA qB aB
          refine WpOps.nil (blockK_norm (endK_norm [] (Value.tuple #[]) (by kernel_rfl) (by kernel_rfl) ?_))
          exact endSt 4 5 6 (by kernel_rfl) rfl (by decide) (.is rfl (by kernel_rfl) rfl rfl) (.is rfl (by kernel_rfl) rfl rfl) (.is rfl (by kernel_rfl) rfl rfl) rfl (fun _ => rfl) rfl
        · rw [if_neg hc]
          have d1 : ((s.state : Int) == 2) = false := beq_false_of_ne (by omega)
          obtain rfl : P = pre := by rw [hP, if_neg (by decide), if_neg (by rintro (⟨h, h1, h2⟩ | ⟨h, h1, h2⟩ | ⟨h, h1, h2⟩) <;> first | omega | exact hc h2)]
          refine Wp.seq (Wp.seq (Wp.text (kp 24 (.int .u8 (IntKind.wrap .u8 (↑3 : Int))) (kp 25 vT (kp 26 vT (kp 27 (.int .u8 (IntKind.wrap .u8 (↑3 : Int))) (kp 28 vT (kp 29 vT (kp 30 vT (kp 31 (vI g) (kp 32 (vP 0 0) (kp 33 (vP 0 0) (kp 34 (vP 0 7) (kp 35 (vI (St.gen s)) (kp 36 vF (kp 37 vF (WpOps.nil (thenK_at (off' (Wp.skip (thenK_at (Wp.seq (Wp.text (kp 38 (.int .u8 (IntKind.wrap .u8 (↑3 : Int))) (WpOps.nil (thenK_at (Wp.block (Wp.seq (Wp.text (kp 40 vF (kp 39 vF (WpOps.nil (thenK_at (off' (Wp.seq (Wp.text (kp 45 vF (kp 44 vF (WpOps.nil (thenK_at (off' (Wp.seq (Wp.text (kp 81 vF (kp 80 vF (WpOps.nil (thenK_at (off' (Wp.seq (Wp.text (kp 106 vF (kp 105 vF (WpOps.nil (thenK_at (off' (Wp.seq (Wp.text (kp 117 vF (kp 116 vF (WpOps.nil (thenK_at (off' (Wp.seq (Wp.seq (Wp.text (kp 126 vT (kp 125 vT (WpOps.nil (thenK_at (on' (Wp.skip (thenK_at (on' (Wp.seq (Wp.text (kp 129 (vP 0 0) (kp 130 (vP 0 0) (kp 131 (vP 0 6) (kp 132 (vI (St.state s)) (kp 133 vF (WpOps.nil (thenK_at (off' (Wp.skip (blockK_norm ?_))))) (hop := fun _ => by_fact d1)))))))))))))))))))))))))))))))))))))))))))))))))))))))))))))))))) (hop := fun _ => by_fact dg))))))))))))))))
          refine endK_norm [] (Value.tuple #[]) (by kernel_rfl) (by kernel_rfl) ?_
          exact endSt 1 2 3 (by kernel_rfl) rfl (by decide) (.is rfl (by kernel_rfl) rfl rfl) (.is rfl (by kernel_rfl) rfl rfl) (.is rfl (by kernel_rfl) rfl rfl) rfl (fun _ => rfl) rfl
      · rw [show s.frm false 3 g n r d = s from if_pos ⟨by decide, by decide, hg⟩]
        have dg : ((g : Int) != (s.gen : Int)) = true := bne_iff_ne.2 (by omega)
        obtain rfl : P = pre := by rw [hP, if_neg (by decide), if_neg (by rintro (⟨h, h1, h2⟩ | ⟨h, h1, h2⟩ | ⟨h, h1, h2⟩) <;> first | omega | exact hc h2)]
        refine Wp.seq (Wp.seq (Wp.text (kp 24 (.int .u8 (IntKind.wrap .u8 (↑3 : Int))) (kp 25 vT (kp 26 vT (kp 27 (.int .u8 (IntKind.wrap .u8 (↑3 : Int))) (kp 28 vT (kp 29 vT (kp 30 vT (kp 31 (vI g) (kp 32 (vP 0 0) (kp 33 (vP 0 0) (kp 34 (vP 0 7) (kp 35 (vI (St.gen s)) (kp 36 vT (kp 37 vT (WpOps.nil (thenK_at (on' (Wp.ret (thenK_ret (endK_retn [] (Value.tuple #[]) (by kernel_rfl) (by kernel_rfl) ?_))))))) (hop := fun _ => by_fact dg))))))))))))))))
        exact endSt 1 2 3 (by kernel_rfl) rfl (by decide) (.is rfl (by kernel_rfl) rfl rfl) (.is rfl (by kernel_rfl) rfl rfl) (.is rfl (by kernel_rfl) rfl rfl) rfl (fun _ => rfl) rfl
    · by_cases hg : g = s.gen
      · have dg : ((g : Int) != (s.gen : Int)) = false := by rw [hg]; exact bne_self_eq_false _
        rw [show s.frm false 4 g n r d = (if s.state = 2 then s.car 4 n r d else s) from by unfold St.frm; rw [if_neg (fun h => h.2.2 hg), if_neg (by decide), if_neg (by decide), if_neg (by decide), if_neg (by decide), if_neg (by decide)]]
        by_cases hc : s.state = 2
        · rw [if_pos hc]
          have d1 : ((s.state : Int) == 2) = true := by rw [hc]; rfl
          have c1 := carry69 s pre 4 n r d hA (by omega) hok.acked hok.wanted (by have := hok.out; have := hok.win; omega)
          obtain rfl : P = pre := by rw [hP, if_neg (by decide), if_neg (by rintro (⟨h, h1, h2⟩ | ⟨h, h1, h2⟩ | ⟨h, h1, h2⟩) <;> first | omega | exact hc h2)]
          refine Wp.seq (Wp.seq (Wp.text (kp 24 (.int .u8 (IntKind.wrap .u8 (↑4 : Int))) (kp 25 vT (kp 26 vT (kp 27 (.int .u8 (IntKind.wrap .u8 (↑4 : Int))) (kp 28 vT (kp 29 vT (kp 30 vT (kp 31 (vI g) (kp 32 (vP 0 0) (kp 33 (vP 0 0) (kp 34 (vP 0 7) (kp 35 (vI (St.gen s)) (kp 36 vF (kp 37 vF (WpOps.nil (thenK_at (off' (Wp.skip (thenK_at (Wp.seq (Wp.text (kp 38 (.int .u8 (IntKind.wrap .u8 (↑4 : Int))) (WpOps.nil (thenK_at (Wp.block (Wp.seq (Wp.text (kp 40 vF (kp 39 vF (WpOps.nil (thenK_at (off' (Wp.seq (Wp.text (kp 45 vF (kp 44 vF (WpOps.nil (thenK_at (off' (Wp.seq (Wp.text (kp 81 vF (kp 80 vF (WpOps.nil (thenK_at (off' (Wp.seq (Wp.text (kp 106 vF (kp 105 vF (WpOps.nil (thenK_at (off' (Wp.seq (Wp.text (kp 117 vF (kp 116 vF (WpOps.nil (thenK_at (off' (Wp.seq (Wp.seq (Wp.text (kp 126 vF (kp 125 vF (WpOps.nil (thenK_at (off' (Wp.seq (Wp.text (kp 127 vT (kp 125 vT (WpOps.nil (thenK_at (on' (Wp.skip (thenK_at (on' (Wp.seq (Wp.text (kp 129 (vP 0 0) (kp 130 (vP 0 0) (kp 131 (vP 0 6) (kp 132 (vI (St.state s)) (kp 133 vT ?_ (hop := fun _ => by_fact d1))))))))))))))))))))))))))))))))))))))))))))))))))))))))))))))))))))))))) (hop := fun _ => by_fact dg))))))))))))))))
          refine WpOps.nil (thenK_at (on' (Wp.text (kp 134 (vP 0 0) (kp 135 (.int .u8 (IntKind.wrap .u8 (↑4 : Int))) (kp 136 (vI n) (kp 137 (vI r) (kp 138 (.string d) (cl 139 69 [vP 0 0, Value.int .u8 (IntKind.wrap .u8 (↑4 : Int)), vI n, vI r, Value.string d] ?_)))))))))
          refine WpCall.st 0 1 2 3 c1 (by decide) (by kernel_rfl) rfl (by kernel_rfl) (by kernel_rfl) (by kernel_rfl) rfl (fun _ => rfl) ?_
          unfold behind sB stC rowQ rowO rowA qB aB
          refine WpOps.nil (blockK_norm (endK_norm [] (Value.tuple #[]) (by kernel_rfl) (by kernel_rfl) ?_))
          exact endSt 4 5 6 (by kernel_rfl) rfl (by decide) (.is rfl (by kernel_rfl) rfl rfl) (.is rfl (by kernel_rfl) rfl rfl) (.is rfl (by kernel_rfl) rfl rfl) rfl (fun _ => rfl) rfl
        · rw [if_neg hc]
          have d1 : ((s.state : Int) == 2) = false := beq_false_of_ne (by omega)
          obtain rfl : P = pre := by rw [hP, if_neg (by decide), if_neg (by rintro (⟨h, h1, h2⟩ | ⟨h, h1, h2⟩ | ⟨h, h1, h2⟩) <;> first | omega | exact hc h2)]
          refine Wp.seq (Wp.seq (Wp.text (kp 24 (.int .u8 (IntKind.wrap .u8 (↑4 : Int))) (kp 25 vT (kp 26 vT (kp 27 (.int .u8 (IntKind.wrap .u8 (↑4 : Int))) (kp 28 vT (kp 29 vT (kp 30 vT (kp 31 (vI g) (kp 32 (vP 0 0) (kp 33 (vP 0 0) (kp 34 (vP 0 7) (kp 35 (vI (St.gen s)) (kp 36 vF (kp 37 vF (WpOps.nil (thenK_at (off' (Wp.skip (thenK_at (Wp.seq (Wp.text (kp 38 (.int .u8 (IntKind.wrap .u8 (↑4 : Int))) (WpOps.nil (thenK_at (Wp.block (Wp.seq (Wp.text (kp 40 vF (kp 39 vF (WpOps.nil (thenK_at (off' (Wp.seq (Wp.text (kp 45 vF (kp 44 vF (WpOps.nil (thenK_at (off' (Wp.seq (Wp.text (kp 81 vF (kp 80 vF (WpOps.nil (thenK_at (off' (Wp.seq (Wp.text (kp 106 vF (kp 105 vF (WpOps.nil (thenK_at (off' (Wp.seq (Wp.text (kp 117 vF (kp 116 vF (WpOps.nil (thenK_at (off' (Wp.seq (Wp.seq (Wp.text (kp 126 vF (kp 125 vF (WpOps.nil (thenK_at (off' (Wp.seq (Wp.text (kp 127 vT (kp 125 vT (WpOps.nil (thenK_at (on' (Wp.skip (thenK_at (on' (Wp.seq (Wp.text (kp 129 (vP 0 0) (kp 130 (vP 0 0) (kp 131 (vP 0 6) (kp 132 (vI (St.state s)) (kp 133 vF ?_ (hop := fun _ => by_fact d1))))))))))))))))))))))))))))))))))))))))))))))))))))))))))))))))))))))))) (hop := fun _ => by_fact dg))))))))))))))))
          refine WpOps.nil (thenK_at (off' (Wp.skip (blockK_norm (endK_norm [] (Value.tuple #[]) (by kernel_rfl) (by kernel_rfl) ?_)))))
          exact endSt 1 2 3 (by kernel_rfl) rfl (by decide) (.is rfl (by kernel_rfl) rfl rfl) (.is rfl (by kernel_rfl) rfl rfl) (.is rfl (by kernel_rfl) rfl rfl) rfl (fun _ => rfl) rfl
      · rw [show s.frm false 4 g n r d = s from if_pos ⟨by decide, by decide, hg⟩]
        have dg : ((g : Int) != (s.gen : Int)) = true := bne_iff_ne.2 (by omega)
        obtain rfl : P = pre := by rw [hP, if_neg (by decide), if_neg (by rintro (⟨h, h1, h2⟩ | ⟨h, h1, h2⟩ | ⟨h, h1, h2⟩) <;> first | omega | exact hc h2)]
        refine Wp.seq (Wp.seq (Wp.text (kp 24 (.int .u8 (IntKind.wrap .u8 (↑4 : Int))) (kp 25 vT (kp 26 vT (kp 27 (.int .u8 (IntKind.wrap .u8 (↑4 : Int))) (kp 28 vT (kp 29 vT (kp 30 vT (kp 31 (vI g) (kp 32 (vP 0 0) (kp 33 (vP 0 0) (kp 34 (vP 0 7) (kp 35 (vI (St.gen s)) (kp 36 vT (kp 37 vT (WpOps.nil (thenK_at (on' (Wp.ret (thenK_ret (endK_retn [] (Value.tuple #[]) (by kernel_rfl) (by kernel_rfl) ?_))))))) (hop := fun _ => by_fact dg))))))))))))))))
        exact endSt 1 2 3 (by kernel_rfl) rfl (by decide) (.is rfl (by kernel_rfl) rfl rfl) (.is rfl (by kernel_rfl) rfl rfl) (.is rfl (by kernel_rfl) rfl rfl) rfl (fun _ => rfl) rfl
    · by_cases hg : g = s.gen
      · have dg : ((g : Int) != (s.gen : Int)) = false := by rw [hg]; exact bne_self_eq_false _
        rw [show s.frm false 5 g n r d = (if s.state = 2 then s.car 5 n r d else s) from by unfold St.frm; rw [if_neg (fun h => h.2.2 hg), if_neg (by decide), if_neg (by decide), if_neg (by decide), if_neg (by decide), if_neg (by decide)]]
        by_cases hc : s.state = 2
        · rw [if_pos hc]
          have d1 : ((s.state : Int) == 2) = true := by rw [hc]; rfl
          have c1 := carry69 s pre 5 n r d hA (by omega) hok.acked hok.wanted (by have := hok.out; have := hok.win; omega)
          obtain rfl : P = pre := by rw [hP, if_neg (by decide), if_neg (by rintro (⟨h, h1, h2⟩ | ⟨h, h1, h2⟩ | ⟨h, h1, h2⟩) <;> first | omega | exact hc h2)]
          refine Wp.seq (Wp.seq (Wp.text (kp 24 (.int .u8 (IntKind.wrap .u8 (↑5 : Int))) (kp 25 vT (kp 26 vT (kp 27 (.int .u8 (IntKind.wrap .u8 (↑5 : Int))) (kp 28 vT (kp 29 vT (kp 30 vT (kp 31 (vI g) (kp 32 (vP 0 0) (kp 33 (vP 0 0) (kp 34 (vP 0 7) (kp 35 (vI (St.gen s)) (kp 36 vF (kp 37 vF (WpOps.nil (thenK_at (off' (Wp.skip (thenK_at (Wp.seq (Wp.text (kp 38 (.int .u8 (IntKind.wrap .u8 (↑5 : Int))) (WpOps.nil (thenK_at (Wp.block (Wp.seq (Wp.text (kp 40 vF (kp 39 vF (WpOps.nil (thenK_at (off' (Wp.seq (Wp.text (kp 45 vF (kp 44 vF (WpOps.nil (thenK_at (off' (Wp.seq (Wp.text (kp 81 vF (kp 80 vF (WpOps.nil (thenK_at (off' (Wp.seq (Wp.text (kp 106 vF (kp 105 vF (WpOps.nil (thenK_at (off' (Wp.seq (Wp.text (kp 117 vF (kp 116 vF (WpOps.nil (thenK_at (off' (Wp.seq (Wp.seq (Wp.text (kp 126 vF (kp 125 vF (WpOps.nil (thenK_at (off' (Wp.seq (Wp.text (kp 127 vF (kp 125 vF (WpOps.nil (thenK_at (off' (Wp.text (kp 128 vT (kp 125 vT (WpOps.nil (thenK_at (on' (Wp.seq (Wp.text (kp 129 (vP 0 0) (kp 130 (vP 0 0) (kp 131 (vP 0 6) ?_))))))))))))))))))))))))))))))))))))))))))))))))))))))))))))))))))))))))) (hop := fun _ => by_fact dg))))))))))))))))
          refine kp 132 (vI (St.state s)) (kp 133 vT (WpOps.nil (thenK_at (on' (Wp.text (kp 134 (vP 0 0) (kp 135 (.int .u8 (IntKind.wrap .u8 (↑5 : Int))) (kp 136 (vI n) (kp 137 (vI r) (kp 138 (.string d) (cl 139 69 [vP 0 0, Value.int .u8 (IntKind.wrap .u8 (↑5 : Int)), vI n, vI r, Value.string d] ?_)))))))))) (hop := fun _ => by_fact d1))
          refine WpCall.st 0 1 2 3 c1 (by decide) (by kernel_rfl) rfl (by kernel_rfl) (by kernel_rfl) (by kernel_rfl) rfl (fun _ => rfl) ?_
          unfold behind sB stC rowQ rowO rowA qB aB
          refine WpOps.nil (blockK_norm (endK_norm [] (Value.tuple #[]) (by kernel_rfl) (by kernel_rfl) ?_))
          exact endSt 4 5 6 (by kernel_rfl) rfl (by decide) (.is rfl (by kernel_rfl) rfl rfl) (.is rfl (by kernel_rfl) rfl rfl) (.is rfl (by kernel_rfl) rfl rfl) rfl (fun _ => rfl) rfl
        · rw [if_neg hc]
          have d1 : ((s.state : Int) == 2) = false := beq_false_of_ne (by omega)
          obtain rfl : P = pre := by rw [hP, if_neg (by decide), if_neg (by rintro (⟨h, h1, h2⟩ | ⟨h, h1, h2⟩ | ⟨h, h1, h2⟩) <;> first | omega | exact hc h2)]
          refine Wp.seq (Wp.seq (Wp.text (kp 24 (.int .u8 (IntKind.wrap .u8 (↑5 : Int))) (kp 25 vT (kp 26 vT (kp 27 (.int .u8 (IntKind.wrap .u8 (↑5 : Int))) (kp 28 vT (kp 29 vT (kp 30 vT (kp 31 (vI g) (kp 32 (vP 0 0) (kp 33 (vP 0 0) (kp 34 (vP 0 7) (kp 35 (vI (St.gen s)) (kp 36 vF (kp 37 vF (WpOps.nil (thenK_at (off' (Wp.skip (thenK_at (Wp.seq (Wp.text (kp 38 (.int .u8 (IntKind.wrap .u8 (↑5 : Int))) (WpOps.nil (thenK_at (Wp.block (Wp.seq (Wp.text (kp 40 vF (kp 39 vF (WpOps.nil (thenK_at (off' (Wp.seq (Wp.text (kp 45 vF (kp 44 vF (WpOps.nil (thenK_at (off' (Wp.seq (Wp.text (kp 81 vF (kp 80 vF (WpOps.nil (thenK_at (off' (Wp.seq (Wp.text (kp 106 vF (kp 105 vF (WpOps.nil (thenK_at (off' (Wp.seq (Wp.text (kp 117 vF (kp 116 vF (WpOps.nil (thenK_at (off' (Wp.seq (Wp.seq (Wp.text (kp 126 vF (kp 125 vF (WpOps.nil (thenK_at (off' (Wp.seq (Wp.text (kp 127 vF (kp 125 vF (WpOps.nil (thenK_at (off' (Wp.text (kp 128 vT (kp 125 vT (WpOps.nil (thenK_at (on' (Wp.seq (Wp.text (kp 129 (vP 0 0) (kp 130 (vP 0 0) (kp 131 (vP 0 6) ?_))))))))))))))))))))))))))))))))))))))))))))))))))))))))))))))))))))))))) (hop := fun _ => by_fact dg))))))))))))))))
          refine kp 132 (vI (St.state s)) (kp 133 vF (WpOps.nil (thenK_at (off' (Wp.skip (blockK_norm (endK_norm [] (Value.tuple #[]) (by kernel_rfl) (by kernel_rfl) ?_)))))) (hop := fun _ => by_fact d1))
          exact endSt 1 2 3 (by kernel_rfl) rfl (by decide) (.is rfl (by kernel_rfl) rfl rfl) (.is rfl (by kernel_rfl) rfl rfl) (.is rfl (by kernel_rfl) rfl rfl) rfl (fun _ => rfl) rfl
      · rw [show s.frm false 5 g n r d = s from if_pos ⟨by decide, by decide, hg⟩]
        have dg : ((g : Int) != (s.gen : Int)) = true := bne_iff_ne.2 (by omega)
        obtain rfl : P = pre := by rw [hP, if_neg (by decide), if_neg (by rintro (⟨h, h1, h2⟩ | ⟨h, h1, h2⟩ | ⟨h, h1, h2⟩) <;> first | omega | exact hc h2)]
        refine Wp.seq (Wp.seq (Wp.text (kp 24 (.int .u8 (IntKind.wrap .u8 (↑5 : Int))) (kp 25 vT (kp 26 vT (kp 27 (.int .u8 (IntKind.wrap .u8 (↑5 : Int))) (kp 28 vT (kp 29 vT (kp 30 vT (kp 31 (vI g) (kp 32 (vP 0 0) (kp 33 (vP 0 0) (kp 34 (vP 0 7) (kp 35 (vI (St.gen s)) (kp 36 vT (kp 37 vT (WpOps.nil (thenK_at (on' (Wp.ret (thenK_ret (endK_retn [] (Value.tuple #[]) (by kernel_rfl) (by kernel_rfl) ?_))))))) (hop := fun _ => by_fact dg))))))))))))))))
        exact endSt 1 2 3 (by kernel_rfl) rfl (by decide) (.is rfl (by kernel_rfl) rfl rfl) (.is rfl (by kernel_rfl) rfl rfl) (.is rfl (by kernel_rfl) rfl rfl) rfl (fun _ => rfl) rfl
    · by_cases hg : g = s.gen
      · have dg : ((g : Int) != (s.gen : Int)) = false := by rw [hg]; exact bne_self_eq_false _
        rw [show s.frm false 6 g n r d = (if s.state = 0 then s.snd 7 0 0 nob else (s.snd 7 0 0 nob).giv false) from by unfold St.frm; rw [if_neg (fun h => h.2.2 hg), if_neg (by decide), if_neg (by decide), if_neg (by decide), if_pos rfl]]
        have c1 := send63 s pre 7 0 0 nob (by decide) (by omega)
        by_cases hc : s.state = 0
        · rw [if_pos hc]
          have d1 : (((s.snd 7 0 0 nob).state : Int) != 0) = false := by show ((s.state : Int) != 0) = false; rw [hc]; rfl
          obtain rfl : P = pre := by rw [hP, if_neg (by decide), if_neg (by rintro (⟨h, h1, h2⟩ | ⟨h, h1, h2⟩ | ⟨h, h1, h2⟩) <;> first | omega | exact hc h2)]
          refine Wp.seq (Wp.seq (Wp.text (kp 24 (.int .u8 (IntKind.wrap .u8 (↑6 : Int))) (kp 25 vT (kp 26 vT (kp 27 (.int .u8 (IntKind.wrap .u8 (↑6 : Int))) (kp 28 vT (kp 29 vT (kp 30 vT (kp 31 (vI g) (kp 32 (vP 0 0) (kp 33 (vP 0 0) (kp 34 (vP 0 7) (kp 35 (vI (St.gen s)) (kp 36 vF (kp 37 vF (WpOps.nil (thenK_at (off' (Wp.skip (thenK_at (Wp.seq (Wp.text (kp 38 (.int .u8 (IntKind.wrap .u8 (↑6 : Int))) (WpOps.nil (thenK_at (Wp.block (Wp.seq (Wp.text (kp 40 vF (kp 39 vF (WpOps.nil (thenK_at (off' (Wp.seq (Wp.text (kp 45 vF (kp 44 vF (WpOps.nil (thenK_at (off' (Wp.seq (Wp.text (kp 81 vF (kp 80 vF (WpOps.nil (thenK_at (off' (Wp.seq (Wp.text (kp 106 vT (kp 105 vT (WpOps.nil (thenK_at (on' (Wp.seq (Wp.text (kp 107 (vP 0 0) (cl 108 63 [vP 0 0, Value.int .u8 7, vI 0, vI 0, Value.string (ByteArray.mk #[])] ?_)))))))))))))))))))))))))))))))))))))))))))) (hop := fun _ => by_fact dg))))))))))))))))
          refine WpCall.st 0 1 2 3 c1 (by decide) (by kernel_rfl) rfl (by kernel_rfl) (by kernel_rfl) (by kernel_rfl) rfl (fun _ => rfl) ?_
          unfold behind sB stC rowQ rowO rowA qB aB
          refine WpOps.nil (thenK_at (Wp.seq (Wp.text (kp 109 (vP 0 0) (kp 110 (vP 0 0) (kp 111 (vP 0 6) (kp 112 (vI (St.state (St.snd 7 0 0 nob s))) (kp 113 vF (WpOps.nil (thenK_at (off' (Wp.skip (blockK_norm (endK_norm [] (Value.tuple #[]) (by kernel_rfl) (by kernel_rfl) ?_)))))) (hop := fun _ => by_fact d1)))))))))
          exact endSt 4 5 6 (by kernel_rfl) rfl (by decide) (.is rfl (by kernel_rfl) rfl rfl) (.is rfl (by kernel_rfl) rfl rfl) (.is rfl (by kernel_rfl) rfl rfl) rfl (fun _ => rfl) rfl
        · rw [if_neg hc]
          have d1 : (((s.snd 7 0 0 nob).state : Int) != 0) = true := bne_iff_ne.2 (by show (s.state : Int) ≠ 0; omega)
          have c2 := giveUp68 (s.snd 7 0 0 nob) pre (by show (s.ans ++ _).length ≤ _; rw [List.length_append]; show s.ans.length + 1 ≤ _; omega)
          obtain rfl : P = [] := by rw [hP, if_neg (by decide), if_pos (by first | exact .inl ⟨rfl, hg, hc⟩ | exact .inr (.inl ⟨rfl, hg, hc⟩) | exact .inr (.inr ⟨rfl, hg, hc⟩))]
          refine Wp.seq (Wp.seq (Wp.text (kp 24 (.int .u8 (IntKind.wrap .u8 (↑6 : Int))) (kp 25 vT (kp 26 vT (kp 27 (.int .u8 (IntKind.wrap .u8 (↑6 : Int))) (kp 28 vT (kp 29 vT (kp 30 vT (kp 31 (vI g) (kp 32 (vP 0 0) (kp 33 (vP 0 0) (kp 34 (vP 0 7) (kp 35 (vI (St.gen s)) (kp 36 vF (kp 37 vF (WpOps.nil (thenK_at (off' (Wp.skip (thenK_at (Wp.seq (Wp.text (kp 38 (.int .u8 (IntKind.wrap .u8 (↑6 : Int))) (WpOps.nil (thenK_at (Wp.block (Wp.seq (Wp.text (kp 40 vF (kp 39 vF (WpOps.nil (thenK_at (off' (Wp.seq (Wp.text (kp 45 vF (kp 44 vF (WpOps.nil (thenK_at (off' (Wp.seq (Wp.text (kp 81 vF (kp 80 vF (WpOps.nil (thenK_at (off' (Wp.seq (Wp.text (kp 106 vT (kp 105 vT (WpOps.nil (thenK_at (on' (Wp.seq (Wp.text (kp 107 (vP 0 0) (cl 108 63 [vP 0 0, Value.int .u8 7, vI 0, vI 0, Value.string (ByteArray.mk #[])] ?_)))))))))))))))))))))))))))))))))))))))))))) (hop := fun _ => by_fact dg))))))))))))))))
          refine WpCall.st 0 1 2 3 c1 (by decide) (by kernel_rfl) rfl (by kernel_rfl) (by kernel_rfl) (by kernel_rfl) rfl (fun _ => rfl) ?_
          unfold behind sB stC rowQ rowO rowA qB aB
          refine WpOps.nil (thenK_at (Wp.seq (Wp.text (kp 109 (vP 0 0) (kp 110 (vP 0 0) (kp 111 (vP 0 6) (kp 112 (vI (St.state (St.snd 7 0 0 nob s))) (kp 113 vT (WpOps.nil (thenK_at (on' (Wp.text (kp 114 (vP 0 0) (cl 115 68 [vP 0 0] ?_)))))) (hop := fun _ => by_fact d1)))))))))
          refine WpCall.st 0 4 5 6 c2 (by decide) (by kernel_rfl) rfl (by kernel_rfl) (by kernel_rfl) (by kernel_rfl) rfl (fun _ => rfl) ?_
          unfold behind sB stC rowQ rowO rowA qB aB
          refine WpOps.nil (blockK_norm (endK_norm [] (Value.tuple #[]) (by kernel_rfl) (by kernel_rfl) ?_))
          exact endSt 7 8 9 (by kernel_rfl) rfl (by decide) (.is rfl (by kernel_rfl) rfl rfl) (.is rfl (by kernel_rfl) rfl rfl) (.is rfl (by kernel_rfl) rfl rfl) rfl (fun _ => rfl) rfl
      · rw [show s.frm false 6 g n r d = s from if_pos ⟨by decide, by decide, hg⟩]
        have dg : ((g : Int) != (s.gen : Int)) = true := bne_iff_ne.2 (by omega)
        obtain rfl : P = pre := by rw [hP, if_neg (by decide), if_neg (by rintro (⟨h, h1, h2⟩ | ⟨h, h1, h2⟩ | ⟨h, h1, h2⟩) <;> first | omega | exact hc h2)]
        refine Wp.seq (Wp.seq (Wp.text (kp 24 (.int .u8 (IntKind.wrap .u8 (↑6 : Int))) (kp 25 vT (kp 26 vT (kp 27 (.int .u8 (IntKind.wrap .u8 (↑6 : Int))) (kp 28 vT (kp 29 vT (kp 30 vT (kp 31 (vI g) (kp 32 (vP 0 0) (kp 33 (vP 0 0) (kp 34 (vP 0 7) (kp 35 (vI (St.gen s)) (kp 36 vT (kp 37 vT (WpOps.nil (thenK_at (on' (Wp.ret (thenK_ret (endK_retn [] (Value.tuple #[]) (by kernel_rfl) (by kernel_rfl) ?_))))))) (hop := fun _ => by_fact dg))))))))))))))))
        exact endSt 1 2 3 (by kernel_rfl) rfl (by decide) (.is rfl (by kernel_rfl) rfl rfl) (.is rfl (by kernel_rfl) rfl rfl) (.is rfl (by kernel_rfl) rfl rfl) rfl (fun _ => rfl) rfl
    · by_cases hg : g = s.gen
      · have dg : ((g : Int) != (s.gen : Int)) = false := by rw [hg]; exact bne_self_eq_false _
        rw [show s.frm false 7 g n r d = (if s.state = 3 then s.giv false else s) from by unfold St.frm; rw [if_neg (fun h => h.2.2 hg), if_neg (by decide), if_neg (by decide), if_neg (by decide), if_neg (by decide), if_pos rfl]]
        by_cases hc : s.state = 3
        · rw [if_pos hc]
          have d1 : ((s.state : Int) == 3) = true := by rw [hc]; rfl
          have c1 := giveUp68 s pre (by omega)
          obtain rfl : P = [] := by rw [hP, if_neg (by decide), if_pos (by first | exact .inl ⟨rfl, hg, hc⟩ | exact .inr (.inl ⟨rfl, hg, hc⟩) | exact .inr (.inr ⟨rfl, hg, hc⟩))]
          refine Wp.seq (Wp.seq (Wp.text (kp 24 (.int .u8 (IntKind.wrap .u8 (↑7 : Int))) (kp 25 vT (kp 26 vT (kp 27 (.int .u8 (IntKind.wrap .u8 (↑7 : Int))) (kp 28 vT (kp 29 vT (kp 30 vT (kp 31 (vI g) (kp 32 (vP 0 0) (kp 33 (vP 0 0) (kp 34 (vP 0 7) (kp 35 (vI (St.gen s)) (kp 36 vF (kp 37 vF (WpOps.nil (thenK_at (off' (Wp.skip (thenK_at (Wp.seq (Wp.text (kp 38 (.int .u8 (IntKind.wrap .u8 (↑7 : Int))) (WpOps.nil (thenK_at (Wp.block (Wp.seq (Wp.text (kp 40 vF (kp 39 vF (WpOps.nil (thenK_at (off' (Wp.seq (Wp.text (kp 45 vF (kp 44 vF (WpOps.nil (thenK_at (off' (Wp.seq (Wp.text (kp 81 vF (kp 80 vF (WpOps.nil (thenK_at (off' (Wp.seq (Wp.text (kp 106 vF (kp 105 vF (WpOps.nil (thenK_at (off' (Wp.seq (Wp.text (kp 117 vT (kp 116 vT (WpOps.nil (thenK_at (on' (Wp.seq (Wp.text (kp 118 (vP 0 0) (kp 119 (vP 0 0) (kp 120 (vP 0 6) (kp 121 (vI (St.state s)) (kp 122 vT (WpOps.nil (thenK_at (on' (Wp.text (kp 123 (vP 0 0) (cl 124 68 [vP 0 0] ?_)))))) (hop := fun _ => by_fact d1))))))))))))))))))))))))))))))))))))))))))))))))))))))) (hop := fun _ => by_fact dg))))))))))))))))
          refine WpCall.st 0 1 2 3 c1 (by decide) (by kernel_rfl) rfl (by kernel_rfl) (by kernel_rfl) (by kernel_rfl) rfl (fun _ => rfl) ?_
          unfold behind sB stC rowQ rowO rowA qB aB
          refine WpOps.nil (blockK_norm (endK_norm [] (Value.tuple #[]) (by kernel_rfl) (by kernel_rfl) ?_))
          exact endSt 4 5 6 (by kernel_rfl) rfl (by decide) (.is rfl (by kernel_rfl) rfl rfl) (.is rfl (by kernel_rfl) rfl rfl) (.is rfl (by kernel_rfl) rfl rfl) rfl (fun _ => rfl) rfl
        · rw [if_neg hc]
          have d1 : ((s.state : Int) == 3) = false := beq_false_of_ne (by omega)
          obtain rfl : P = pre := by rw [hP, if_neg (by decide), if_neg (by rintro (⟨h, h1, h2⟩ | ⟨h, h1, h2⟩ | ⟨h, h1, h2⟩) <;> first | omega | exact hc h2)]
          refine Wp.seq (Wp.seq (Wp.text (kp 24 (.int .u8 (IntKind.wrap .u8 (↑7 : Int))) (kp 25 vT (kp 26 vT (kp 27 (.int .u8 (IntKind.wrap .u8 (↑7 : Int))) (kp 28 vT (kp 29 vT (kp 30 vT (kp 31 (vI g) (kp 32 (vP 0 0) (kp 33 (vP 0 0) (kp 34 (vP 0 7) (kp 35 (vI (St.gen s)) (kp 36 vF (kp 37 vF (WpOps.nil (thenK_at (off' (Wp.skip (thenK_at (Wp.seq (Wp.text (kp 38 (.int .u8 (IntKind.wrap .u8 (↑7 : Int))) (WpOps.nil (thenK_at (Wp.block (Wp.seq (Wp.text (kp 40 vF (kp 39 vF (WpOps.nil (thenK_at (off' (Wp.seq (Wp.text (kp 45 vF (kp 44 vF (WpOps.nil (thenK_at (off' (Wp.seq (Wp.text (kp 81 vF (kp 80 vF (WpOps.nil (thenK_at (off' (Wp.seq (Wp.text (kp 106 vF (kp 105 vF (WpOps.nil (thenK_at (off' (Wp.seq (Wp.text (kp 117 vT (kp 116 vT (WpOps.nil (thenK_at (on' (Wp.seq (Wp.text (kp 118 (vP 0 0) (kp 119 (vP 0 0) (kp 120 (vP 0 6) (kp 121 (vI (St.state s)) (kp 122 vF (WpOps.nil (thenK_at (off' (Wp.skip (blockK_norm (endK_norm [] (Value.tuple #[]) (by kernel_rfl) (by kernel_rfl) ?_)))))) (hop := fun _ => by_fact d1))))))))))))))))))))))))))))))))))))))))))))))))))))))) (hop := fun _ => by_fact dg))))))))))))))))
          exact endSt 1 2 3 (by kernel_rfl) rfl (by decide) (.is rfl (by kernel_rfl) rfl rfl) (.is rfl (by kernel_rfl) rfl rfl) (.is rfl (by kernel_rfl) rfl rfl) rfl (fun _ => rfl) rfl
      · rw [show s.frm false 7 g n r d = s from if_pos ⟨by decide, by decide, hg⟩]
        have dg : ((g : Int) != (s.gen : Int)) = true := bne_iff_ne.2 (by omega)
        obtain rfl : P = pre := by rw [hP, if_neg (by decide), if_neg (by rintro (⟨h, h1, h2⟩ | ⟨h, h1, h2⟩ | ⟨h, h1, h2⟩) <;> first | omega | exact hc h2)]
        refine Wp.seq (Wp.seq (Wp.text (kp 24 (.int .u8 (IntKind.wrap .u8 (↑7 : Int))) (kp 25 vT (kp 26 vT (kp 27 (.int .u8 (IntKind.wrap .u8 (↑7 : Int))) (kp 28 vT (kp 29 vT (kp 30 vT (kp 31 (vI g) (kp 32 (vP 0 0) (kp 33 (vP 0 0) (kp 34 (vP 0 7) (kp 35 (vI (St.gen s)) (kp 36 vT (kp 37 vT (WpOps.nil (thenK_at (on' (Wp.ret (thenK_ret (endK_retn [] (Value.tuple #[]) (by kernel_rfl) (by kernel_rfl) ?_))))))) (hop := fun _ => by_fact dg))))))))))))))))
        exact endSt 1 2 3 (by kernel_rfl) rfl (by decide) (.is rfl (by kernel_rfl) rfl rfl) (.is rfl (by kernel_rfl) rfl rfl) (.is rfl (by kernel_rfl) rfl rfl) rfl (fun _ => rfl) rfl
    · rw [show s.frm false 8 g n r d = (if s.first = true ∧ (s.state = 0 ∨ s.state = 2) then (if s.state = 2 then ({ s with ren := true }.tel 4 nob).beg else { s with ren := false }.beg) else s) from by unfold St.frm; rw [if_neg (fun h => h.2.1 rfl), if_neg (by decide), if_pos rfl]]
      by_cases hc : s.first = true ∧ (s.state = 0 ∨ s.state = 2)
      · rw [if_pos hc]
        by_cases h2 : s.state = 2
        · rw [if_pos h2]
          obtain ⟨s1, hs1⟩ : ∃ s1, s1 = ({ s with ren := true } : St) := ⟨_, rfl⟩
          have c1 := tell66 s1 pre 4 nob (by rw [hs1]; show s.ans.length ≤ _; omega)
          have c2 := begin62 (s1.tel 4 nob) pre (by subst hs1; show (s.ans ++ _).length ≤ _; rw [List.length_append]; show s.ans.length + 1 ≤ _; omega) (by subst hs1; exact hok.gen)
          rw [← hs1]
          have d2 : ((s.state : Int) == 2) = true := by rw [h2]; rfl
          obtain rfl : P = pre := by rw [hP, if_neg (by decide), if_neg (by rintro (⟨h, h1, h2⟩ | ⟨h, h1, h2⟩ | ⟨h, h1, h2⟩) <;> first | omega | exact hc h2)]
          refine Wp.seq (Wp.seq (Wp.text (kp 24 (.int .u8 (IntKind.wrap .u8 (↑8 : Int))) (kp 25 vT (kp 26 vT (kp 27 (.int .u8 (IntKind.wrap .u8 (↑8 : Int))) (kp 28 vF (kp 29 vF (kp 30 vF (um 31 (um 32 (um 33 (um 34 (um 35 (um 36 (kp 37 vF (WpOps.nil (thenK_at (off' (Wp.skip (thenK_at (Wp.seq (Wp.text (kp 38 (.int .u8 (IntKind.wrap .u8 (↑8 : Int))) (WpOps.nil (thenK_at (Wp.block (Wp.seq (Wp.text (kp 40 vF (kp 39 vF (WpOps.nil (thenK_at (off' (Wp.seq (Wp.text (kp 45 vT (kp 44 vT (WpOps.nil (thenK_at (on' (Wp.seq (Wp.text (kp 46 (vP 0 0) (kp 47 (vP 0 0) (kp 48 (vP 0 4) (kp 49 (.bool (St.first s)) (kp 50 (.bool (St.first s)) ?_))))))))))))))))))))))))))))))))))))))))))))))))
          refine WpOps.fork 13 (St.first s) [51, 52, 53, 54, 55, 56, 57, 58, 59, 60, 61, 62, 63] 63 (bif (↑(St.state s) : Int) == 0 then true else true) (false) (by kernel_rfl) (fun g63 => ?_) (fun g63 => ?_) (fun f_63 b63 hb63 => ?_)
          · refine kp 51 (vP 0 0) (kp 52 (vP 0 0) (kp 53 (vP 0 6) (kp 54 (vI (St.state s)) (kp 55 (.bool ((↑(St.state s) : Int) == 0)) (kp 56 (.bool ((↑(St.state s) : Int) == 0)) ?_ (hw := wants_tt g63)) (hw := wants_tt g63)) (hw := wants_tt g63)) (hw := wants_tt g63)) (hw := wants_tt g63)) (hw := wants_tt g63)
            refine WpOps.forkE 7 ((↑(St.state s) : Int) == 0) [57, 58, 59, 60, 61, 62, 63] 63 (true) (true) (by kernel_rfl) (fun g63' => ?_) (fun g63' => ?_) (fun f_63 => ?_)
            · refine um 57 (um 58 (um 59 (um 60 (um 61 (kp 62 vT (kp 63 vT (WpOps.nil ?_) (hop := fun _ => o_pickT g63)) (hw := wants_tt g63) (hop := fun _ => o_pickT g63')) (hw := wants_tf g63')) (hw := wants_tf g63')) (hw := wants_tf g63')) (hw := wants_tf g63')) (hw := wants_tf g63')
              exact ⟨rfl, (.upd rfl (.upd rfl (.upd rfl (.upd rfl (.upd rfl (.upd rfl (.upd rfl .refl))))))), (by kernel_rfl)⟩
            · refine kp 57 (vP 0 0) (kp 58 (vP 0 0) (kp 59 (vP 0 6) (kp 60 (vI (St.state s)) (kp 61 vT (kp 62 vT (kp 63 vT (WpOps.nil ?_) (hop := fun _ => o_pickT g63)) (hw := wants_tt g63) (hop := fun _ => o_pickF g63')) (hw := wants_ff g63') (hop := fun _ => by_fact d2)) (hw := wants_ff g63')) (hw := wants_ff g63')) (hw := wants_ff g63')) (hw := wants_ff g63')
              exact ⟨rfl, (.upd rfl (.upd rfl (.upd rfl (.upd rfl (.upd rfl (.upd rfl (.upd rfl .refl))))))), (by kernel_rfl)⟩
            refine WpOps.nil ?_
            exact ⟨rfl, (.upd rfl (.mix rfl (.upd rfl (.upd rfl (.upd rfl (.upd rfl (.upd rfl (.upd rfl .refl)))))))), (by kernel_rfl)⟩
          · refine um 51 (um 52 (um 53 (um 54 (um 55 (um 56 (um 57 (um 58 (um 59 (um 60 (um 61 (um 62 (kp 63 vF (WpOps.nil ?_) (hop := fun _ => o_pickF g63)) (hw := wants_ft g63))))))) (hw := wants_ft g63)) (hw := wants_ft g63)) (hw := wants_ft g63)) (hw := wants_ft g63)) (hw := wants_ft g63)) (hw := wants_ft g63)
            exact ⟨rfl, (.upd rfl (.upd rfl (.upd rfl (.upd rfl (.upd rfl (.upd rfl (.upd rfl (.upd rfl (.upd rfl (.upd rfl (.upd rfl (.upd rfl (.upd rfl .refl))))))))))))), (by kernel_rfl)⟩
          refine WpOps.nil (thenK_at ?_)
          obtain rfl : b63 = true := by rw [hb63, hc.1, h2]; rfl
          refine on' (Wp.seq (Wp.text (kp 64 (vP 0 0) (kp 65 (vP 0 0) (kp 66 (vP 0 0) (kp 67 (vP 0 6) (kp 68 (vI (St.state s)) (kp 69 vT (kp 70 (vP 0 0) (kp 71 (vP 0 12) (ld (.tuple #[]) (0) (Blk.mk 73 true [vI (St.left s), vI (St.wait s), vI (St.tried s), vI (St.tries s), Value.bool (St.first s), vI (St.win s), vI (St.state s), vI (St.gen s), vI (St.sent s), vI (St.acked s), vI (St.wanted s), Value.bool (St.rej s), vT, Value.slice (some (Addr.mk 1 (List.length P) none)) (List.length (St.queue s)) (List.length (St.queue s)), Value.slice (some ⟨2, 0, none⟩) (List.length (St.out s)) (List.length (St.out s)), Value.slice (some ⟨3, 0, none⟩) (List.length (St.ans s)) (List.length (St.ans s))]) (WpOps.nil (thenK_at (Wp.seq (Wp.seq (Wp.text (kp 72 (vP 0 0) (kp 73 (vP 0 0) (kp 74 (vP 0 12) (kp 75 vT (WpOps.nil (thenK_at (on' (Wp.text (kp 76 (vP 0 0) (cl 77 66 [vP 0 0, vI 4, Value.string (ByteArray.mk #[])] ?_)))))))))))))))))) (hop := fun _ => by_fact d2)))))))))
          refine WpCall.st 0 1 2 3 c1 (by decide) (by kernel_rfl) (by subst hs1; rfl) (by subst hs1; kernel_rfl) (by subst hs1; kernel_rfl) (by subst hs1; kernel_rfl) rfl (fun _ => rfl) ?_
          unfold behind sB stC rowQ rowO rowA qB aB
          refine WpOps.nil (thenK_at (Wp.text (kp 78 (vP 0 0) (cl 79 62 [vP 0 0] ?_))))
          refine WpCall.st 0 4 5 6 c2 (by decide) (by kernel_rfl) rfl (by kernel_rfl) (by kernel_rfl) (by kernel_rfl) rfl (fun _ => rfl) ?_
          unfold behind sB stC rowQ rowO rowA qB aB
          refine WpOps.nil (blockK_norm (endK_norm [] (Value.tuple #[]) (by kernel_rfl) (by kernel_rfl) ?_))
          exact endSt 7 8 9 (by kernel_rfl) rfl (by decide) (.is rfl (by kernel_rfl) rfl rfl) (.is rfl (by kernel_rfl) rfl rfl) (.is rfl (by kernel_rfl) rfl rfl) rfl (fun _ => rfl) rfl
        · rw [if_neg h2]
          obtain ⟨s1, hs1⟩ : ∃ s1, s1 = ({ s with ren := false } : St) := ⟨_, rfl⟩
          have c1 := begin62 s1 pre (by subst hs1; show s.ans.length ≤ _; omega) (by subst hs1; exact hok.gen)
          rw [← hs1]
          have h0 : s.state = 0 := hc.2.resolve_right h2
          have d2 : ((s.state : Int) == 2) = false := by rw [h0]; rfl
          obtain rfl : P = pre := by rw [hP, if_neg (by decide), if_neg (by rintro (⟨h, h1, h2⟩ | ⟨h, h1, h2⟩ | ⟨h, h1, h2⟩) <;> first | omega | exact hc h2)]
          refine Wp.seq (Wp.seq (Wp.text (kp 24 (.int .u8 (IntKind.wrap .u8 (↑8 : Int))) (kp 25 vT (kp 26 vT (kp 27 (.int .u8 (IntKind.wrap .u8 (↑8 : Int))) (kp 28 vF (kp 29 vF (kp 30 vF (um 31 (um 32 (um 33 (um 34 (um 35 (um 36 (kp 37 vF (WpOps.nil (thenK_at (off' (Wp.skip (thenK_at (Wp.seq (Wp.text (kp 38 (.int .u8 (IntKind.wrap .u8 (↑8 : Int))) (WpOps.nil (thenK_at (Wp.block (Wp.seq (Wp.text (kp 40 vF (kp 39 vF (WpOps.nil (thenK_at (off' (Wp.seq (Wp.text (kp 45 vT (kp 44 vT (WpOps.nil (thenK_at (on' (Wp.seq (Wp.text (kp 46 (vP 0 0) (kp 47 (vP 0 0) (kp 48 (vP 0 4) (kp 49 (.bool (St.first s)) (kp 50 (.bool (St.first s)) ?_))))))))))))))))))))))))))))))))))))))))))))))))
          refine WpOps.fork 13 (St.first s) [51, 52, 53, 54, 55, 56, 57, 58, 59, 60, 61, 62, 63] 63 (bif (↑(St.state s) : Int) == 0 then true else false) (false) (by kernel_rfl) (fun g63 => ?_) (fun g63 => ?_) (fun f_63 b63 hb63 => ?_)
          · refine kp 51 (vP 0 0) (kp 52 (vP 0 0) (kp 53 (vP 0 6) (kp 54 (vI (St.state s)) (kp 55 (.bool ((↑(St.state s) : Int) == 0)) (kp 56 (.bool ((↑(St.state s) : Int) == 0)) ?_ (hw := wants_tt g63)) (hw := wants_tt g63)) (hw := wants_tt g63)) (hw := wants_tt g63)) (hw := wants_tt g63)) (hw := wants_tt g63)
            refine WpOps.forkE 7 ((↑(St.state s) : Int) == 0) [57, 58, 59, 60, 61, 62, 63] 63 (true) (false) (by kernel_rfl) (fun g63' => ?_) (fun g63' => ?_) (fun f_63 => ?_)
            · refine um 57 (um 58 (um 59 (um 60 (um 61 (kp 62 vT (kp 63 vT (WpOps.nil ?_) (hop := fun _ => o_pickT g63)) (hw := wants_tt g63) (hop := fun _ => o_pickT g63')) (hw := wants_tf g63')) (hw := wants_tf g63')) (hw := wants_tf g63')) (hw := wants_tf g63')) (hw := wants_tf g63')
              exact ⟨rfl, (.upd rfl (.upd rfl (.upd rfl (.upd rfl (.upd rfl (.upd rfl (.upd rfl .refl))))))), (by kernel_rfl)⟩
            · refine kp 57 (vP 0 0) (kp 58 (vP 0 0) (kp 59 (vP 0 6) (kp 60 (vI (St.state s)) (kp 61 vF (kp 62 vF (kp 63 vF (WpOps.nil ?_) (hop := fun _ => o_pickT g63)) (hw := wants_tt g63) (hop := fun _ => o_pickF g63')) (hw := wants_ff g63') (hop := fun _ => by_fact d2)) (hw := wants_ff g63')) (hw := wants_ff g63')) (hw := wants_ff g63')) (hw := wants_ff g63')
              exact ⟨rfl, (.upd rfl (.upd rfl (.upd rfl (.upd rfl (.upd rfl (.upd rfl (.upd rfl .refl))))))), (by kernel_rfl)⟩
            refine WpOps.nil ?_
            exact ⟨rfl, (.upd rfl (.mix rfl (.upd rfl (.upd rfl (.upd rfl (.upd rfl (.upd rfl (.upd rfl .refl)))))))), (by kernel_rfl)⟩
          · refine um 51 (um 52 (um 53 (um 54 (um 55 (um 56 (um 57 (um 58 (um 59 (um 60 (um 61 (um 62 (kp 63 vF (WpOps.nil ?_) (hop := fun _ => o_pickF g63)) (hw := wants_ft g63))))))) (hw := wants_ft g63)) (hw := wants_ft g63)) (hw := wants_ft g63)) (hw := wants_ft g63)) (hw := wants_ft g63)) (hw := wants_ft g63)
            exact ⟨rfl, (.upd rfl (.upd rfl (.upd rfl (.upd rfl (.upd rfl (.upd rfl (.upd rfl (.upd rfl (.upd rfl (.upd rfl (.upd rfl (.upd rfl (.upd rfl .refl))))))))))))), (by kernel_rfl)⟩
          refine WpOps.nil (thenK_at ?_)
          obtain rfl : b63 = true := by rw [hb63, hc.1, h0]; rfl
          refine on' (Wp.seq (Wp.text (kp 64 (vP 0 0) (kp 65 (vP 0 0) (kp 66 (vP 0 0) (kp 67 (vP 0 6) (kp 68 (vI (St.state s)) (kp 69 vF (kp 70 (vP 0 0) (kp 71 (vP 0 12) (ld (.tuple #[]) (0) (Blk.mk 73 true [vI (St.left s), vI (St.wait s), vI (St.tried s), vI (St.tries s), Value.bool (St.first s), vI (St.win s), vI (St.state s), vI (St.gen s), vI (St.sent s), vI (St.acked s), vI (St.wanted s), Value.bool (St.rej s), vF, Value.slice (some (Addr.mk 1 (List.length P) none)) (List.length (St.queue s)) (List.length (St.queue s)), Value.slice (some ⟨2, 0, none⟩) (List.length (St.out s)) (List.length (St.out s)), Value.slice (some ⟨3, 0, none⟩) (List.length (St.ans s)) (List.length (St.ans s))]) (WpOps.nil (thenK_at (Wp.seq (Wp.seq (Wp.text (kp 72 (vP 0 0) (kp 73 (vP 0 0) (kp 74 (vP 0 12) (kp 75 vF (WpOps.nil (thenK_at (off' (Wp.skip (thenK_at (Wp.text (kp 78 (vP 0 0) (cl 79 62 [vP 0 0] ?_)))))))))))))))))))) (hop := fun _ => by_fact d2)))))))))
          refine WpCall.st 0 1 2 3 c1 (by decide) (by kernel_rfl) (by subst hs1; rfl) (by subst hs1; kernel_rfl) (by subst hs1; kernel_rfl) (by subst hs1; kernel_rfl) rfl (fun _ => rfl) ?_
          unfold behind sB stC rowQ rowO rowA qB aB
          refine WpOps.nil (blockK_norm (endK_norm [] (Value.tuple #[]) (by kernel_rfl) (by kernel_rfl) ?_))
          exact endSt 4 5 6 (by kernel_rfl) rfl (by decide) (.is rfl (by kernel_rfl) rfl rfl) (.is rfl (by kernel_rfl) rfl rfl) (.is rfl (by kernel_rfl) rfl rfl) rfl (fun _ => rfl) rfl
      · rw [if_neg hc]
        obtain rfl : P = pre := by rw [hP, if_neg (by decide), if_neg (by rintro (⟨h, h1, h2⟩ | ⟨h, h1, h2⟩ | ⟨h, h1, h2⟩) <;> first | omega | exact hc h2)]
        refine Wp.seq (Wp.seq (Wp.text (kp 24 (.int .u8 (IntKind.wrap .u8 (↑8 : Int))) (kp 25 vT (kp 26 vT (kp 27 (.int .u8 (IntKind.wrap .u8 (↑8 : Int))) (kp 28 vF (kp 29 vF (kp 30 vF (um 31 (um 32 (um 33 (um 34 (um 35 (um 36 (kp 37 vF (WpOps.nil (thenK_at (off' (Wp.skip (thenK_at (Wp.seq (Wp.text (kp 38 (.int .u8 (IntKind.wrap .u8 (↑8 : Int))) (WpOps.nil (thenK_at (Wp.block (Wp.seq (Wp.text (kp 40 vF (kp 39 vF (WpOps.nil (thenK_at (off' (Wp.seq (Wp.text (kp 45 vT (kp 44 vT (WpOps.nil (thenK_at (on' (Wp.seq (Wp.text (kp 46 (vP 0 0) (kp 47 (vP 0 0) (kp 48 (vP 0 4) (kp 49 (.bool (St.first s)) (kp 50 (.bool (St.first s)) ?_))))))))))))))))))))))))))))))))))))))))))))))))
        refine WpOps.fork 13 (St.first s) [51, 52, 53, 54, 55, 56, 57, 58, 59, 60, 61, 62, 63] 63 (bif (↑(St.state s) : Int) == 0 then true else (↑(St.state s) : Int) == 2) (false) (by kernel_rfl) (fun g63 => ?_) (fun g63 => ?_) (fun f_63 b63 hb63 => ?_)
        · refine kp 51 (vP 0 0) (kp 52 (vP 0 0) (kp 53 (vP 0 6) (kp 54 (vI (St.state s)) (kp 55 (.bool ((↑(St.state s) : Int) == 0)) (kp 56 (.bool ((↑(St.state s) : Int) == 0)) ?_ (hw := wants_tt g63)) (hw := wants_tt g63)) (hw := wants_tt g63)) (hw := wants_tt g63)) (hw := wants_tt g63)) (hw := wants_tt g63)
          refine WpOps.forkE 7 ((↑(St.state s) : Int) == 0) [57, 58, 59, 60, 61, 62, 63] 63 (true) ((↑(St.state s) : Int) == 2) (by kernel_rfl) (fun g63' => ?_) (fun g63' => ?_) (fun f_63 => ?_)
          · refine um 57 (um 58 (um 59 (um 60 (um 61 (kp 62 vT (kp 63 vT (WpOps.nil ?_) (hop := fun _ => o_pickT g63)) (hw := wants_tt g63) (hop := fun _ => o_pickT g63')) (hw := wants_tf g63')) (hw := wants_tf g63')) (hw := wants_tf g63')) (hw := wants_tf g63')) (hw := wants_tf g63')
            exact ⟨rfl, (.upd rfl (.upd rfl (.upd rfl (.upd rfl (.upd rfl (.upd rfl (.upd rfl .refl))))))), (by kernel_rfl)⟩
          · refine kp 57 (vP 0 0) (kp 58 (vP 0 0) (kp 59 (vP 0 6) (kp 60 (vI (St.state s)) (kp 61 (.bool ((↑(St.state s) : Int) == 2)) (kp 62 (.bool ((↑(St.state s) : Int) == 2)) (kp 63 (.bool ((↑(St.state s) : Int) == 2)) (WpOps.nil ?_) (hop := fun _ => o_pickT g63)) (hw := wants_tt g63) (hop := fun _ => o_pickF g63')) (hw := wants_ff g63')) (hw := wants_ff g63')) (hw := wants_ff g63')) (hw := wants_ff g63')) (hw := wants_ff g63')
            exact ⟨rfl, (.upd rfl (.upd rfl (.upd rfl (.upd rfl (.upd rfl (.upd rfl (.upd rfl .refl))))))), (by kernel_rfl)⟩
          refine WpOps.nil ?_
          exact ⟨rfl, (.upd rfl (.mix rfl (.upd rfl (.upd rfl (.upd rfl (.upd rfl (.upd rfl (.upd rfl .refl)))))))), (by kernel_rfl)⟩
        · refine um 51 (um 52 (um 53 (um 54 (um 55 (um 56 (um 57 (um 58 (um 59 (um 60 (um 61 (um 62 (kp 63 vF (WpOps.nil ?_) (hop := fun _ => o_pickF g63)) (hw := wants_ft g63))))))) (hw := wants_ft g63)) (hw := wants_ft g63)) (hw := wants_ft g63)) (hw := wants_ft g63)) (hw := wants_ft g63)) (hw := wants_ft g63)
          exact ⟨rfl, (.upd rfl (.upd rfl (.upd rfl (.upd rfl (.upd rfl (.upd rfl (.upd rfl (.upd rfl (.upd rfl (.upd rfl (.upd rfl (.upd rfl (.upd rfl .refl))))))))))))), (by kernel_rfl)⟩
        refine WpOps.nil (thenK_at ?_)
        obtain rfl : b63 = false := by
          rw [hb63]
          cases hf : s.first with
          | false => rfl
          | true => rw [show ((s.state : Int) == 0) = false from beq_false_of_ne (fun h => hc ⟨hf, .inl (by omega)⟩), show ((s.state : Int) == 2) = false from beq_false_of_ne (fun h => hc ⟨hf, .inr (by omega)⟩)]; rfl
        refine off' (Wp.skip (blockK_norm (endK_norm [] (Value.tuple #[]) (by kernel_rfl) (by kernel_rfl) ?_)))
        exact endSt 1 2 3 (by kernel_rfl) rfl (by decide) (.is rfl (by kernel_rfl) rfl rfl) (.is rfl (by kernel_rfl) rfl rfl) (.is rfl (by kernel_rfl) rfl rfl) rfl (fun _ => rfl) rfl
  · rw [if_neg hr] at c0 ⊢
    refine ⟨pre, Ct.of f45 rfl (of_decide_eq_true (by kernel_rfl)) rfl rfl ?_⟩
    unfold stIn sB stC rowQ rowO rowA qB aB
    refine Wp.seq (Wp.text (kp 12 (.string b) (fr 13 13 [Value.string b] (WpFun.of (c0) (kp 11 (.tuple #[vI 0, vI 0, vI 0, vI 0, Value.string ByteArray.empty, vI 4]) (kp 14 (vI 0) (kp 15 (vI 0) (kp 16 (vI 0) (kp 17 (vI 0) (kp 18 (.string ByteArray.empty) (kp 19 (vI 4) (kp 4 (vI 0) (kp 5 (vI 0) (kp 6 (vI 0) (kp 7 (vI 0) (kp 8 (.string ByteArray.empty) (kp 9 (vI 4) (WpOps.nil (thenK_at (Wp.seq (Wp.seq (Wp.text (kp 20 (vI 4) (kp 21 vT (WpOps.nil (thenK_at (on' (Wp.ret (thenK_ret (endK_retn [] (Value.tuple #[]) (by kernel_rfl) (by kernel_rfl) ?_))))))))))))))))))))))))))))))
    exact endSt 1 2 3 (by kernel_rfl) rfl (by decide) (.is rfl (by kernel_rfl) rfl rfl) (.is rfl (by kernel_rfl) rfl rfl) (.is rfl (by kernel_rfl) rfl rfl) rfl (fun _ => rfl) rfl
end Go.Proofs.Ytgefohjickhldaa.D
