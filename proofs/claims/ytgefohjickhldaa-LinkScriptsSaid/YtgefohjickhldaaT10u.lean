/- The specification's station: a frame comes; what waits is sent. -/
import Derived.Test.YtgefohjickhldaaFwLem
import Derived.Test.YtgefohjickhldaaFwMat
import Derived.Test.YtgefohjickhldaaT10t
namespace Go.Proofs.Ytgefohjickhldaa.D
open Go.Fw Go.RowKit

theorem f50 : E.funcs 50 = some Try.f50 := by kernel_rfl
theorem frame50 (s : St) (b : ByteArray) (ha : s.ans = []) (hok : s.Ok) : Lent E 50 [.pointer (some ⟨0, 0, none⟩), .string b] [rB s] (lv (s.frmB true b).ans) [rB (s.frmB true b)] := by
  have c0 := read14 b
  have hA : s.ans.length = 0 := by rw [ha]; rfl
  have oo := hok.out
  have ow := hok.win
  have oa := hok.acked
  have oe := hok.wanted
  unfold rdV at c0
  unfold St.frmB
  by_cases hr : RdOk b
  · rw [if_pos hr] at c0 ⊢
    obtain ⟨_, _, ⟨k1, k2⟩, ⟨g1, g2⟩, ⟨n1, n2⟩, ⟨r1, r2⟩, _⟩ := hr
    have ek : at' b 0 = ((byteAt b 0).toNat : Nat) := rfl
    have eg : at' b 1 = ((byteAt b 1).toNat : Nat) := rfl
    have en : at' b 2 / 8 = (((byteAt b 2).toNat / 8 : Nat) : Int) := rfl
    have er : at' b 2 % 8 = (((byteAt b 2).toNat % 8 : Nat) : Int) := rfl
    rw [ek] at k1 k2 c0
    rw [eg] at g1 g2 c0
    rw [en] at n1 n2 c0
    rw [er] at r1 r2 c0
    generalize (byteAt b 0).toNat = k at *
    generalize (byteAt b 1).toNat = g at *
    generalize (byteAt b 2).toNat / 8 = n at *
    generalize (byteAt b 2).toNat % 8 = r at *
    generalize dat b = d at *
    have hk8 : k = 1 ∨ k = 2 ∨ k = 3 ∨ k = 4 ∨ k = 5 ∨ k = 6 ∨ k = 7 ∨ k = 8 := by omega
    refine Lent.of f50 rfl (of_decide_eq_true (by kernel_rfl)) rfl rfl (Nat.le_refl _) rfl (rB_ok _) rfl ?_
    unfold rB rC sv
    try unfold lv
    refine Wp.seq (Wp.text (kp 4 vN (WpOps.nil (thenK_at (Wp.seq (Wp.text (kp 14 (.string b) (fr 15 14 [Value.string b] (WpFun.of (c0) (kp 13 (.tuple #[vI k, vI g, vI n, vI r, Value.string d, vI 0]) (kp 16 (vI k) (kp 17 (vI g) (kp 18 (vI n) (kp 19 (vI r) (kp 20 (.string d) (kp 21 (vI 0) (kp 5 (vI k) (kp 6 (vI g) (kp 7 (vI n) (kp 8 (vI r) (kp 9 (.string d) (kp 10 (vI 0) (WpOps.nil (thenK_at ?_))))))))))))))))))))))))
    rcases hk8 with rfl | rfl | rfl | rfl | rfl | rfl | rfl | rfl
    · rw [show s.frm true 1 g n r d = s.setf true g from by unfold St.frm; rw [if_neg (fun h => h.1 rfl), if_pos rfl]]
      have c1 := set75 s g ha
      refine Wp.seq (Wp.seq (Wp.text (kp 22 (vI 0) (kp 23 vF (kp 24 vF (kp 25 (vI (↑1 : Int)) (kp 26 vF (kp 27 vF (um 28 (um 29 (kp 30 vF (kp 31 vF (um 32 (um 33 (um 34 (um 35 (um 36 (um 37 (kp 38 vF (kp 39 vF (WpOps.nil (thenK_at (off' (Wp.skip (thenK_at (Wp.seq (Wp.seq (Wp.text (kp 40 (vI (↑1 : Int)) (WpOps.nil (thenK_at (Wp.block (Wp.seq (Wp.text (kp 42 vT (kp 41 vT (WpOps.nil (thenK_at (on' (Wp.seq (Wp.text (kp 43 (vP 0 0) (kp 44 (vI g) (cl 45 75 [vP 0 0, vI g] (WpCall.rf c1 (by kernel_rfl) rfl (by kernel_rfl) (by kernel_rfl) (kp 4 (lv (St.ans (St.setf true g s))) (WpOps.nil (thenK_at (Wp.ret (blockK_ret (thenK_ret (endK_retn [Value.iface 61 (Value.iface (List.length (St.ans (St.setf true g s))) (Value.iface 3 (Value.agg (List.toArray (evl (St.ans (St.setf true g s)))))))] (lv (St.ans (St.setf true g s))) (by kernel_rfl) (by kernel_rfl) ?_))))))))))))))))))))))))))))))))))))))))))))))))))))
      exact endR (by kernel_rfl) rfl (.same rfl) (.same rfl) (.w (.un rfl rfl))
    · by_cases hg : g = s.gen
      · have dg : ((g : Int) != (s.gen : Int)) = false := by rw [hg]; exact bne_self_eq_false _
        rw [show s.frm true 2 g n r d = (if s.state = 1 ∧ s.first = true then (if s.ren then { s.rise true with ren := true } else { (s.rise true).tel 1 nob with ren := false }) else s) from by unfold St.frm; rw [if_neg (fun h => h.2.2 hg), if_neg (by decide), if_neg (by decide), if_pos rfl]]
        by_cases hc : s.state = 1 ∧ s.first = true
        · rw [if_pos hc]
          have d1 : ((s.state : Int) != 1) = false := by rw [hc.1]; rfl
          have d2 : s.first = true := hc.2
          have c1 := up77 s
          have ea : (s.rise true).ans = [] := ha
          by_cases hn : s.ren = true
          · have hn' : (s.rise true).ren = true := hn
            rw [if_pos hn, show ({ s.rise true with ren := true } : St) = s.rise true from by show _ = ({ s.rise true with ren := (s.rise true).ren } : St); rw [hn']]
            refine Wp.seq (Wp.seq (Wp.text (kp 22 (vI 0) (kp 23 vF (kp 24 vF (kp 25 (vI (↑2 : Int)) (kp 26 vT (kp 27 vT (kp 28 (vI (↑2 : Int)) (kp 29 vT (kp 30 vT (kp 31 vT (kp 32 (vI g) (kp 33 (vP 0 0) (kp 34 (vP 0 0) (kp 35 (vP 0 6) (kp 36 (vI (St.gen s)) (kp 37 vF (kp 38 vF (kp 39 vF (WpOps.nil (thenK_at (off' (Wp.skip (thenK_at (Wp.seq (Wp.seq (Wp.text (kp 40 (vI (↑2 : Int)) (WpOps.nil (thenK_at (Wp.block (Wp.seq (Wp.text (kp 42 vF (kp 41 vF (WpOps.nil (thenK_at (off' (Wp.seq (Wp.text (kp 47 vF (kp 46 vF (WpOps.nil (thenK_at (off' (Wp.seq (Wp.text (kp 85 vT (kp 84 vT (WpOps.nil (thenK_at (on' (Wp.seq (Wp.seq (Wp.text (kp 86 (vP 0 0) (kp 87 (vP 0 0) (kp 88 (vP 0 1) (kp 89 vT (kp 90 vF (kp 91 vF (kp 92 (vP 0 0) (kp 93 (vP 0 0) (kp 94 (vP 0 5) (kp 95 (vI (St.state s)) (kp 96 vF (kp 97 vF (WpOps.nil (thenK_at (off' (Wp.skip (thenK_at (Wp.seq (Wp.text (kp 98 (vP 0 0) ?_))))))))) (hop := fun _ => by_fact d1)))))))) (hop := fun _ => by_fact d2))))))))))))))))))))))))))))))))))))))))))) (hop := fun _ => by_fact dg)))))))))))))))))))
            refine cl 99 77 [vP 0 0] (WpCall.rf c1 (by kernel_rfl) rfl (by kernel_rfl) (by kernel_rfl) (WpOps.nil (thenK_at (Wp.seq (Wp.seq (Wp.text (kp 100 (vP 0 0) (kp 101 (vP 0 0) (kp 102 (vP 0 11) (kp 103 vT (WpOps.nil (thenK_at (on' (Wp.seq (Wp.text (kp 4 vN (WpOps.nil (thenK_at (Wp.ret (thenK_ret (blockK_ret (thenK_ret (endK_retn [vN] vN (by kernel_rfl) (by kernel_rfl) ?_))))))))))))) (hop := fun _ => by_fact hn')))))))))))
            exact endR (by kernel_rfl) rfl (.same rfl) (.same rfl) (.w (AnsR.nil rfl ea).toldW)
          · have hn : s.ren = false := by simpa using hn
            have hn' : (s.rise true).ren = false := hn
            have c2 := tell76 (s.rise true) 1 nob (by rw [ea]; exact Nat.zero_le _)
            rw [ea] at c2
            unfold lv at c2
            rw [if_neg (by rw [hn]; decide), show ({ (s.rise true).tel 1 nob with ren := false } : St) = (s.rise true).tel 1 nob from by show _ = ({ (s.rise true).tel 1 nob with ren := (s.rise true).ren } : St); rw [hn']]
            refine Wp.seq (Wp.seq (Wp.text (kp 22 (vI 0) (kp 23 vF (kp 24 vF (kp 25 (vI (↑2 : Int)) (kp 26 vT (kp 27 vT (kp 28 (vI (↑2 : Int)) (kp 29 vT (kp 30 vT (kp 31 vT (kp 32 (vI g) (kp 33 (vP 0 0) (kp 34 (vP 0 0) (kp 35 (vP 0 6) (kp 36 (vI (St.gen s)) (kp 37 vF (kp 38 vF (kp 39 vF (WpOps.nil (thenK_at (off' (Wp.skip (thenK_at (Wp.seq (Wp.seq (Wp.text (kp 40 (vI (↑2 : Int)) (WpOps.nil (thenK_at (Wp.block (Wp.seq (Wp.text (kp 42 vF (kp 41 vF (WpOps.nil (thenK_at (off' (Wp.seq (Wp.text (kp 47 vF (kp 46 vF (WpOps.nil (thenK_at (off' (Wp.seq (Wp.text (kp 85 vT (kp 84 vT (WpOps.nil (thenK_at (on' (Wp.seq (Wp.seq (Wp.text (kp 86 (vP 0 0) (kp 87 (vP 0 0) (kp 88 (vP 0 1) (kp 89 vT (kp 90 vF (kp 91 vF (kp 92 (vP 0 0) (kp 93 (vP 0 0) (kp 94 (vP 0 5) (kp 95 (vI (St.state s)) (kp 96 vF (kp 97 vF (WpOps.nil (thenK_at (off' (Wp.skip (thenK_at (Wp.seq (Wp.text (kp 98 (vP 0 0) ?_))))))))) (hop := fun _ => by_fact d1)))))))) (hop := fun _ => by_fact d2))))))))))))))))))))))))))))))))))))))))))) (hop := fun _ => by_fact dg)))))))))))))))))))
            refine cl 99 77 [vP 0 0] (WpCall.rf c1 (by kernel_rfl) rfl (by kernel_rfl) (by kernel_rfl) (WpOps.nil (thenK_at (Wp.seq (Wp.seq (Wp.text (kp 100 (vP 0 0) (kp 101 (vP 0 0) (kp 102 (vP 0 11) (kp 103 vF (WpOps.nil (thenK_at (off' (Wp.skip (thenK_at (Wp.seq (Wp.text (cl 104 76 [vN, vI 1, Value.string (ByteArray.mk #[])] (WpCall.nil0 ?_))))))))) (hop := fun _ => by_fact hn')))))))))))
            unfold lv
            refine WpCall.consume [0] (c2) (by kernel_rfl) (by kernel_rfl) ?_
            refine kp 4 (lv (St.ans (St.tel 1 nob (St.rise true s)))) (WpOps.nil (thenK_at (Wp.ret (blockK_ret (thenK_ret (endK_retn [Value.iface 61 (Value.iface (List.length (St.ans (St.tel 1 nob (St.rise true s)))) (Value.iface 3 (Value.agg (List.toArray (evl (St.ans (St.tel 1 nob (St.rise true s))))))))] (lv (St.ans (St.tel 1 nob (St.rise true s)))) (by kernel_rfl) (by kernel_rfl) ?_))))))
            exact endR (by kernel_rfl) rfl (.same rfl) (.same rfl) (.w (.un rfl rfl))
        · rw [if_neg hc]
          have hff : s.first = false ∨ s.first = true := by cases s.first <;> simp
          rcases hff with hf | hf
          ·
            refine Wp.seq (Wp.seq (Wp.text (kp 22 (vI 0) (kp 23 vF (kp 24 vF (kp 25 (vI (↑2 : Int)) (kp 26 vT (kp 27 vT (kp 28 (vI (↑2 : Int)) (kp 29 vT (kp 30 vT (kp 31 vT (kp 32 (vI g) (kp 33 (vP 0 0) (kp 34 (vP 0 0) (kp 35 (vP 0 6) (kp 36 (vI (St.gen s)) (kp 37 vF (kp 38 vF (kp 39 vF (WpOps.nil (thenK_at (off' (Wp.skip (thenK_at (Wp.seq (Wp.seq (Wp.text (kp 40 (vI (↑2 : Int)) (WpOps.nil (thenK_at (Wp.block (Wp.seq (Wp.text (kp 42 vF (kp 41 vF (WpOps.nil (thenK_at (off' (Wp.seq (Wp.text (kp 47 vF (kp 46 vF (WpOps.nil (thenK_at (off' (Wp.seq (Wp.text (kp 85 vT (kp 84 vT (WpOps.nil (thenK_at (on' (Wp.seq (Wp.seq (Wp.text (kp 86 (vP 0 0) (kp 87 (vP 0 0) (kp 88 (vP 0 1) (kp 89 vF (kp 90 vT (kp 91 vT (um 92 (um 93 (um 94 (um 95 (um 96 (kp 97 vT (WpOps.nil (thenK_at (on' (Wp.seq (Wp.text (kp 4 vN (WpOps.nil (thenK_at (Wp.ret (thenK_ret (blockK_ret (thenK_ret (endK_retn [vN] vN (by kernel_rfl) (by kernel_rfl) ?_))))))))))))))))))))) (hop := fun _ => by_fact hf))))))))))))))))))))))))))))))))))))))))))) (hop := fun _ => by_fact dg)))))))))))))))))))
            exact endR (by kernel_rfl) rfl (.same rfl) (.same rfl) (.w (AnsR.nil rfl ha).toldW)
          ·
            have d1 : ((s.state : Int) != 1) = true := bne_iff_ne.2 (fun h => hc ⟨by omega, hf⟩)
            refine Wp.seq (Wp.seq (Wp.text (kp 22 (vI 0) (kp 23 vF (kp 24 vF (kp 25 (vI (↑2 : Int)) (kp 26 vT (kp 27 vT (kp 28 (vI (↑2 : Int)) (kp 29 vT (kp 30 vT (kp 31 vT (kp 32 (vI g) (kp 33 (vP 0 0) (kp 34 (vP 0 0) (kp 35 (vP 0 6) (kp 36 (vI (St.gen s)) (kp 37 vF (kp 38 vF (kp 39 vF (WpOps.nil (thenK_at (off' (Wp.skip (thenK_at (Wp.seq (Wp.seq (Wp.text (kp 40 (vI (↑2 : Int)) (WpOps.nil (thenK_at (Wp.block (Wp.seq (Wp.text (kp 42 vF (kp 41 vF (WpOps.nil (thenK_at (off' (Wp.seq (Wp.text (kp 47 vF (kp 46 vF (WpOps.nil (thenK_at (off' (Wp.seq (Wp.text (kp 85 vT (kp 84 vT (WpOps.nil (thenK_at (on' (Wp.seq (Wp.seq (Wp.text (kp 86 (vP 0 0) (kp 87 (vP 0 0) (kp 88 (vP 0 1) (kp 89 vT (kp 90 vF (kp 91 vF (kp 92 (vP 0 0) (kp 93 (vP 0 0) (kp 94 (vP 0 5) (kp 95 (vI (St.state s)) (kp 96 vT (kp 97 vT (WpOps.nil (thenK_at (on' (Wp.seq (Wp.text (kp 4 vN (WpOps.nil (thenK_at (Wp.ret (thenK_ret (blockK_ret (thenK_ret ?_))))))))))))) (hop := fun _ => by_fact d1)))))))) (hop := fun _ => by_fact hf))))))))))))))))))))))))))))))))))))))))))) (hop := fun _ => by_fact dg)))))))))))))))))))
            refine endK_retn [vN] vN (by kernel_rfl) (by kernel_rfl) ?_
            exact endR (by kernel_rfl) rfl (.same rfl) (.same rfl) (.w (AnsR.nil rfl ha).toldW)
      · rw [show s.frm true 2 g n r d = s from if_pos ⟨by decide, by decide, hg⟩]
        have dg : ((g : Int) != (s.gen : Int)) = true := bne_iff_ne.2 (by omega)
        refine Wp.seq (Wp.seq (Wp.text (kp 22 (vI 0) (kp 23 vF (kp 24 vF (kp 25 (vI (↑2 : Int)) (kp 26 vT (kp 27 vT (kp 28 (vI (↑2 : Int)) (kp 29 vT (kp 30 vT (kp 31 vT (kp 32 (vI g) (kp 33 (vP 0 0) (kp 34 (vP 0 0) (kp 35 (vP 0 6) (kp 36 (vI (St.gen s)) (kp 37 vT (kp 38 vT (kp 39 vT (WpOps.nil (thenK_at (on' (Wp.seq (Wp.text (kp 4 vN (WpOps.nil (thenK_at (Wp.ret (thenK_ret (endK_retn [vN] vN (by kernel_rfl) (by kernel_rfl) ?_))))))))))))) (hop := fun _ => by_fact dg)))))))))))))))))))
        exact endR (by kernel_rfl) rfl (.same rfl) (.same rfl) (.w (AnsR.nil rfl ha).toldW)
    · by_cases hg : g = s.gen
      · have dg : ((g : Int) != (s.gen : Int)) = false := by rw [hg]; exact bne_self_eq_false _
        rw [show s.frm true 3 g n r d = (if s.state = 2 then s.car 3 n r d else s) from by unfold St.frm; rw [if_neg (fun h => h.2.2 hg), if_neg (by decide), if_neg (by decide), if_neg (by decide), if_neg (by decide), if_neg (by decide)]]
        refine Wp.seq (Wp.seq (Wp.text (kp 22 (vI 0) (kp 23 vF (kp 24 vF (kp 25 (vI (↑3 : Int)) (kp 26 vT (kp 27 vT (kp 28 (vI (↑3 : Int)) (kp 29 vT (kp 30 vT (kp 31 vT (kp 32 (vI g) (kp 33 (vP 0 0) (kp 34 (vP 0 0) (kp 35 (vP 0 6) (kp 36 (vI (St.gen s)) (kp 37 vF (kp 38 vF (kp 39 vF (WpOps.nil (thenK_at (off' (Wp.skip (thenK_at (Wp.seq (Wp.seq (Wp.text (kp 40 (vI (↑3 : Int)) (WpOps.nil (thenK_at (Wp.block (Wp.seq (Wp.text (kp 42 vF (kp 41 vF (WpOps.nil (thenK_at (off' (Wp.seq (Wp.text (kp 47 vF (kp 46 vF (WpOps.nil (thenK_at (off' (Wp.seq (Wp.text (kp 85 vF (kp 84 vF (WpOps.nil (thenK_at (off' (Wp.seq (Wp.text (kp 106 vF (kp 105 vF (WpOps.nil (thenK_at (off' (Wp.seq (Wp.text (kp 119 vF (kp 118 vF (WpOps.nil (thenK_at (off' (Wp.skip (blockK_norm (thenK_at (Wp.seq (Wp.seq (Wp.text (kp 127 (vP 0 0) (kp 128 (vP 0 0) (kp 129 (vP 0 5) (kp 130 (vI (St.state s)) (kp 131 (.bool ((↑(St.state s) : Int) != 2)) (WpOps.nil (thenK_at ?_)))))))))))))))))))))))))))))))))))))))))))))))))))))))))))))) (hop := fun _ => by_fact dg)))))))))))))))))))
        by_cases hc : s.state = 2
        · rw [if_pos hc]
          have d1 : ((s.state : Int) != 2) = false := by rw [hc]; rfl
          have c1 := ack79 s r (by omega) hok.acked (by omega)
          obtain ⟨e1, e2, e3, e4, e5⟩ := ack_facts s r (by omega) hok.acked
          unfold St.car
          generalize s.ack r = s1 at *
          rw [ha] at e1
          have e6 : s1.wanted ≤ 7 := by omega
          dsimp only
          rw [if_neg (by decide), if_neg (by decide)]
          by_cases hn : n = s1.wanted
          · have d3 : ((n : Int) == (s1.wanted : Int)) = true := by rw [hn]; exact beq_self_eq_true _
            have c2 := tell76 s1 2 d (by rw [e1]; exact Nat.zero_le _)
            have w1 : (IntKind.i64.wrap ((s1.wanted : Int) + 1)).tmod 8 = ((s1.wanted + 1) % 8 : Nat) := by
              rw [wr _ (by omega) (by omega), Int.tmod_eq_emod_of_nonneg (by omega)]
              omega
            obtain ⟨s2, hs2⟩ : ∃ s2, s2 = ({ s1.tel 2 d with wanted := (s1.wanted + 1) % 8, rej := false } : St) := ⟨_, rfl⟩
            have e7 : s2.ans = (s1.tel 2 d).ans := by rw [hs2]
            have c3 := put73 s2 4 0 ((s1.wanted + 1) % 8) nob (by rw [e7, St.tel_n, e1]; decide)
            rw [e7] at c3
            rw [e1] at c2
            unfold lv at c2
            rw [if_pos hn, ← hs2]
            refine off' (Wp.skip (thenK_at (Wp.seq (Wp.text (kp 132 (vP 0 0) (kp 133 (vI r) (cl 134 79 [vP 0 0, vI r] (WpCall.rf c1 (by kernel_rfl) rfl (by kernel_rfl) (by kernel_rfl) (WpOps.nil (thenK_at (Wp.seq (Wp.seq (Wp.text (kp 135 (vI (↑3 : Int)) (WpOps.nil (thenK_at (Wp.block (Wp.seq (Wp.text (kp 137 vF (kp 136 vF (WpOps.nil (thenK_at (off' (Wp.seq (Wp.text (kp 141 vT (kp 140 vT (WpOps.nil (thenK_at (on' (Wp.seq (Wp.seq (Wp.text (kp 142 (vI n) (kp 143 (vP 0 0) (kp 144 (vP 0 0) (kp 145 (vP 0 9) (kp 146 (vI (St.wanted s1)) (kp 147 vT (WpOps.nil (thenK_at (on' (Wp.seq (Wp.text (kp 148 (vP 0 0) (kp 149 (vP 0 0) (kp 150 (vP 0 0) (kp 151 (vP 0 9) (kp 152 (vI (St.wanted s1)) (kp 153 (vI (IntKind.wrap .i64 ((↑(St.wanted s1) : Int) + 1))) (kp 154 (vI (Int.tmod (IntKind.wrap .i64 ((↑(St.wanted s1) : Int) + 1)) 8)) (kp 155 (vP 0 0) (kp 156 (vP 0 9) (ld (.tuple #[]) (0) (Blk.mk 92 true [vT, Value.bool (St.first s1), vI (St.win s1), vI (St.wait s1), vI (St.tries s1), vI (St.state s1), vI (St.gen s1), vI (St.sent s1), vI (St.acked s1), vI (Int.tmod (IntKind.wrap .i64 ((↑(St.wanted s1) : Int) + 1)) 8), Value.bool (St.rej s1), Value.bool (St.ren s1), Value.iface 9 (Value.iface (List.length (St.queue s1)) (Value.iface 3 (Value.agg (List.toArray (ss (St.queue s1)))))), Value.iface 9 (Value.iface (List.length (St.out s1)) (Value.iface 3 (Value.agg (List.toArray (ss (St.out s1)))))), vI (St.left s1), vI (St.tried s1)]) ?_))))))))))))))) (hop := fun _ => by_fact d3))))))))))))))))))))))))))))))))))))))))) (hc := ev_fact d1)
            refine WpOps.nil (thenK_at (Wp.seq (Wp.text (kp 157 (vP 0 0) (kp 158 (vP 0 0) (kp 159 (vP 0 10) (ld (.tuple #[]) (0) (Blk.mk 92 true [vT, Value.bool (St.first s1), vI (St.win s1), vI (St.wait s1), vI (St.tries s1), vI (St.state s1), vI (St.gen s1), vI (St.sent s1), vI (St.acked s1), vI (Int.tmod (IntKind.wrap .i64 ((↑(St.wanted s1) : Int) + 1)) 8), vF, Value.bool (St.ren s1), Value.iface 9 (Value.iface (List.length (St.queue s1)) (Value.iface 3 (Value.agg (List.toArray (ss (St.queue s1)))))), Value.iface 9 (Value.iface (List.length (St.out s1)) (Value.iface 3 (Value.agg (List.toArray (ss (St.out s1)))))), vI (St.left s1), vI (St.tried s1)]) (WpOps.nil (thenK_at (Wp.seq (Wp.region (by kernel_rfl) (kp 160 (vP 0 0) (kp 161 (.string d) (clr 162 76 [vN, vI 2, Value.string d] ?_))))))))))))))
            rw [w1]
            refine WpCall.nil0 ?_
            unfold lv
            refine WpCall.consume [0] (c2) (by kernel_rfl) (by kernel_rfl) ?_
            refine kp 163 (vP 0 0) (kp 164 (vP 0 0) (kp 165 (vP 0 9) (kp 166 (vI (↑((St.wanted s1 + 1) % 8) : Int)) (cl 167 73 [vP 0 0, Value.iface 61 (Value.iface (List.length (St.ans (St.tel 2 d s1))) (Value.iface 3 (Value.agg (List.toArray (evl (St.ans (St.tel 2 d s1))))))), vI 4, vI 0, vI (↑((St.wanted s1 + 1) % 8) : Int), Value.string (ByteArray.mk #[])] ?_))))
            refine WpCall.rf c3 (by kernel_rfl) (by subst hs2; rfl) (by subst hs2; rfl) rfl ?_
            unfold rB rC sv
            try unfold lv
            refine kp 4 (lv (St.ans (St.snd 4 0 ((St.wanted s1 + 1) % 8) nob s2))) (WpOps.nil (thenK_at (Wp.ret (thenK_ret (blockK_ret (thenK_ret (endK_retn [Value.iface 61 (Value.iface (List.length (St.ans (St.snd 4 0 ((St.wanted s1 + 1) % 8) nob s2))) (Value.iface 3 (Value.agg (List.toArray (evl (St.ans (St.snd 4 0 ((St.wanted s1 + 1) % 8) nob s2)))))))] (lv (St.ans (St.snd 4 0 ((St.wanted s1 + 1) % 8) nob s2))) (by kernel_rfl) (by kernel_rfl) ?_)))))))
            exact endR (by kernel_rfl) rfl (.same rfl) (.same rfl) (.w (.un rfl rfl))
          rw [if_neg hn]
          have d3 : ((n : Int) == (s1.wanted : Int)) = false := beq_false_of_ne (by omega)
          cases hj : s1.rej with
          | true =>
            have c2 := put73 s1 4 0 s1.wanted nob (by rw [e1]; exact Nat.zero_le _)
            rw [e1] at c2
            rw [if_pos rfl]
            refine off' (Wp.skip (thenK_at (Wp.seq (Wp.text (kp 132 (vP 0 0) (kp 133 (vI r) (cl 134 79 [vP 0 0, vI r] (WpCall.rf c1 (by kernel_rfl) rfl (by kernel_rfl) (by kernel_rfl) (WpOps.nil (thenK_at (Wp.seq (Wp.seq (Wp.text (kp 135 (vI (↑3 : Int)) (WpOps.nil (thenK_at (Wp.block (Wp.seq (Wp.text (kp 137 vF (kp 136 vF (WpOps.nil (thenK_at (off' (Wp.seq (Wp.text (kp 141 vT (kp 140 vT (WpOps.nil (thenK_at (on' (Wp.seq (Wp.seq (Wp.text (kp 142 (vI n) (kp 143 (vP 0 0) (kp 144 (vP 0 0) (kp 145 (vP 0 9) (kp 146 (vI (St.wanted s1)) (kp 147 vF (WpOps.nil (thenK_at (off' (Wp.skip (thenK_at (Wp.seq (Wp.seq (Wp.text (kp 168 (vP 0 0) (kp 169 (vP 0 0) (kp 170 (vP 0 10) (kp 171 vT (WpOps.nil (thenK_at (on' (Wp.seq (Wp.text (kp 172 (vP 0 0) (kp 173 (vP 0 0) (kp 174 (vP 0 0) (kp 175 (vP 0 9) (kp 176 (vI (St.wanted s1)) (cl 177 73 [vP 0 0, vN, vI 4, vI 0, vI (St.wanted s1), Value.string (ByteArray.mk #[])] (WpCall.nil1 ?_)))))))))))) (hop := fun _ => by_fact hj))))))))))))) (hop := fun _ => by_fact d3))))))))))))))))))))))))))))))))))))))))) (hc := ev_fact d1)
            refine WpCall.rf c2 (by kernel_rfl) rfl rfl rfl ?_
            unfold rB rC sv
            try unfold lv
            refine kp 4 (lv (St.ans (St.snd 4 0 (St.wanted s1) nob s1))) (WpOps.nil (thenK_at (Wp.ret (thenK_ret (blockK_ret (thenK_ret (endK_retn [Value.iface 61 (Value.iface (List.length (St.ans (St.snd 4 0 (St.wanted s1) nob s1))) (Value.iface 3 (Value.agg (List.toArray (evl (St.ans (St.snd 4 0 (St.wanted s1) nob s1)))))))] (lv (St.ans (St.snd 4 0 (St.wanted s1) nob s1))) (by kernel_rfl) (by kernel_rfl) ?_)))))))
            exact endR (by kernel_rfl) rfl (.same rfl) (.same rfl) (.w (.un rfl rfl))
          | false =>
            obtain ⟨s2, hs2⟩ : ∃ s2, s2 = ({ s1 with rej := true } : St) := ⟨_, rfl⟩
            have e7 : s2.ans = [] := by rw [hs2]; exact e1
            have c2 := put73 s2 5 0 s1.wanted nob (by rw [e7]; exact Nat.zero_le _)
            rw [e7] at c2
            rw [if_neg (by decide), ← hs2]
            refine off' (Wp.skip (thenK_at (Wp.seq (Wp.text (kp 132 (vP 0 0) (kp 133 (vI r) (cl 134 79 [vP 0 0, vI r] (WpCall.rf c1 (by kernel_rfl) rfl (by kernel_rfl) (by kernel_rfl) (WpOps.nil (thenK_at (Wp.seq (Wp.seq (Wp.text (kp 135 (vI (↑3 : Int)) (WpOps.nil (thenK_at (Wp.block (Wp.seq (Wp.text (kp 137 vF (kp 136 vF (WpOps.nil (thenK_at (off' (Wp.seq (Wp.text (kp 141 vT (kp 140 vT (WpOps.nil (thenK_at (on' (Wp.seq (Wp.seq (Wp.text (kp 142 (vI n) (kp 143 (vP 0 0) (kp 144 (vP 0 0) (kp 145 (vP 0 9) (kp 146 (vI (St.wanted s1)) (kp 147 vF (WpOps.nil (thenK_at (off' (Wp.skip (thenK_at (Wp.seq (Wp.seq (Wp.text (kp 168 (vP 0 0) (kp 169 (vP 0 0) (kp 170 (vP 0 10) (kp 171 vF (WpOps.nil (thenK_at (off' (Wp.skip (thenK_at (Wp.seq (Wp.text (kp 178 (vP 0 0) (kp 179 (vP 0 0) (kp 180 (vP 0 10) (ld (.tuple #[]) (0) (Blk.mk 92 true [vT, Value.bool (St.first s1), vI (St.win s1), vI (St.wait s1), vI (St.tries s1), vI (St.state s1), vI (St.gen s1), vI (St.sent s1), vI (St.acked s1), vI (St.wanted s1), vT, Value.bool (St.ren s1), Value.iface 9 (Value.iface (List.length (St.queue s1)) (Value.iface 3 (Value.agg (List.toArray (ss (St.queue s1)))))), Value.iface 9 (Value.iface (List.length (St.out s1)) (Value.iface 3 (Value.agg (List.toArray (ss (St.out s1)))))), vI (St.left s1), vI (St.tried s1)]) ?_))))))))))) (hop := fun _ => by_fact hj))))))))))))) (hop := fun _ => by_fact d3))))))))))))))))))))))))))))))))))))))))) (hc := ev_fact d1)
            refine WpOps.nil (thenK_at (Wp.seq (Wp.text (kp 181 (vP 0 0) (kp 182 (vP 0 0) (kp 183 (vP 0 0) (kp 184 (vP 0 9) (kp 185 (vI (St.wanted s1)) (cl 186 73 [vP 0 0, vN, vI 5, vI 0, vI (St.wanted s1), Value.string (ByteArray.mk #[])] (WpCall.nil1 ?_))))))))))
            refine WpCall.rf c2 (by kernel_rfl) (by subst hs2; rfl) (by subst hs2; rfl) rfl ?_
            unfold rB rC sv
            try unfold lv
            refine kp 4 (lv (St.ans (St.snd 5 0 (St.wanted s1) nob s2))) (WpOps.nil (thenK_at (Wp.ret (blockK_ret (thenK_ret (endK_retn [Value.iface 61 (Value.iface (List.length (St.ans (St.snd 5 0 (St.wanted s1) nob s2))) (Value.iface 3 (Value.agg (List.toArray (evl (St.ans (St.snd 5 0 (St.wanted s1) nob s2)))))))] (lv (St.ans (St.snd 5 0 (St.wanted s1) nob s2))) (by kernel_rfl) (by kernel_rfl) ?_))))))
            exact endR (by kernel_rfl) rfl (.same rfl) (.same rfl) (.w (.un rfl rfl))
        · rw [if_neg hc]
          have d1 : ((s.state : Int) != 2) = true := bne_iff_ne.2 (by omega)
          refine on' (Wp.seq (Wp.text (kp 4 vN (WpOps.nil (thenK_at (Wp.ret (thenK_ret (endK_retn [vN] vN (by kernel_rfl) (by kernel_rfl) ?_)))))))) (hc := ev_fact d1)
          exact endR (by kernel_rfl) rfl (.same rfl) (.same rfl) (.w (AnsR.nil rfl ha).toldW)
      · rw [show s.frm true 3 g n r d = s from if_pos ⟨by decide, by decide, hg⟩]
        have dg : ((g : Int) != (s.gen : Int)) = true := bne_iff_ne.2 (by omega)
        refine Wp.seq (Wp.seq (Wp.text (kp 22 (vI 0) (kp 23 vF (kp 24 vF (kp 25 (vI (↑3 : Int)) (kp 26 vT (kp 27 vT (kp 28 (vI (↑3 : Int)) (kp 29 vT (kp 30 vT (kp 31 vT (kp 32 (vI g) (kp 33 (vP 0 0) (kp 34 (vP 0 0) (kp 35 (vP 0 6) (kp 36 (vI (St.gen s)) (kp 37 vT (kp 38 vT (kp 39 vT (WpOps.nil (thenK_at (on' (Wp.seq (Wp.text (kp 4 vN (WpOps.nil (thenK_at (Wp.ret (thenK_ret (endK_retn [vN] vN (by kernel_rfl) (by kernel_rfl) ?_))))))))))))) (hop := fun _ => by_fact dg)))))))))))))))))))
        exact endR (by kernel_rfl) rfl (.same rfl) (.same rfl) (.w (AnsR.nil rfl ha).toldW)
    · by_cases hg : g = s.gen
      · have dg : ((g : Int) != (s.gen : Int)) = false := by rw [hg]; exact bne_self_eq_false _
        rw [show s.frm true 4 g n r d = (if s.state = 2 then s.car 4 n r d else s) from by unfold St.frm; rw [if_neg (fun h => h.2.2 hg), if_neg (by decide), if_neg (by decide), if_neg (by decide), if_neg (by decide), if_neg (by decide)]]
        refine Wp.seq (Wp.seq (Wp.text (kp 22 (vI 0) (kp 23 vF (kp 24 vF (kp 25 (vI (↑4 : Int)) (kp 26 vT (kp 27 vT (kp 28 (vI (↑4 : Int)) (kp 29 vT (kp 30 vT (kp 31 vT (kp 32 (vI g) (kp 33 (vP 0 0) (kp 34 (vP 0 0) (kp 35 (vP 0 6) (kp 36 (vI (St.gen s)) (kp 37 vF (kp 38 vF (kp 39 vF (WpOps.nil (thenK_at (off' (Wp.skip (thenK_at (Wp.seq (Wp.seq (Wp.text (kp 40 (vI (↑4 : Int)) (WpOps.nil (thenK_at (Wp.block (Wp.seq (Wp.text (kp 42 vF (kp 41 vF (WpOps.nil (thenK_at (off' (Wp.seq (Wp.text (kp 47 vF (kp 46 vF (WpOps.nil (thenK_at (off' (Wp.seq (Wp.text (kp 85 vF (kp 84 vF (WpOps.nil (thenK_at (off' (Wp.seq (Wp.text (kp 106 vF (kp 105 vF (WpOps.nil (thenK_at (off' (Wp.seq (Wp.text (kp 119 vF (kp 118 vF (WpOps.nil (thenK_at (off' (Wp.skip (blockK_norm (thenK_at (Wp.seq (Wp.seq (Wp.text (kp 127 (vP 0 0) (kp 128 (vP 0 0) (kp 129 (vP 0 5) (kp 130 (vI (St.state s)) (kp 131 (.bool ((↑(St.state s) : Int) != 2)) (WpOps.nil (thenK_at ?_)))))))))))))))))))))))))))))))))))))))))))))))))))))))))))))) (hop := fun _ => by_fact dg)))))))))))))))))))
        by_cases hc : s.state = 2
        · rw [if_pos hc]
          have d1 : ((s.state : Int) != 2) = false := by rw [hc]; rfl
          have c1 := ack79 s r (by omega) hok.acked (by omega)
          obtain ⟨e1, e2, e3, e4, e5⟩ := ack_facts s r (by omega) hok.acked
          unfold St.car
          generalize s.ack r = s1 at *
          rw [ha] at e1
          have e6 : s1.wanted ≤ 7 := by omega
          dsimp only
          rw [if_neg (by decide), if_pos rfl]
          refine off' (Wp.skip (thenK_at (Wp.seq (Wp.text (kp 132 (vP 0 0) (kp 133 (vI r) (cl 134 79 [vP 0 0, vI r] (WpCall.rf c1 (by kernel_rfl) rfl (by kernel_rfl) (by kernel_rfl) (WpOps.nil (thenK_at (Wp.seq (Wp.seq (Wp.text (kp 135 (vI (↑4 : Int)) (WpOps.nil (thenK_at (Wp.block (Wp.seq (Wp.text (kp 137 vF (kp 136 vF (WpOps.nil (thenK_at (off' (Wp.seq (Wp.text (kp 141 vF (kp 140 vF (WpOps.nil (thenK_at (off' (Wp.skip (blockK_norm (thenK_at (Wp.seq (Wp.text (kp 4 vN (WpOps.nil (thenK_at (Wp.ret (endK_retn [vN] vN (by kernel_rfl) (by kernel_rfl) ?_))))))))))))))))))))))))))))))))))))))))) (hc := ev_fact d1)
          exact endR (by kernel_rfl) rfl (.same rfl) (.same rfl) (.w (AnsR.nil rfl e1).toldW)
        · rw [if_neg hc]
          have d1 : ((s.state : Int) != 2) = true := bne_iff_ne.2 (by omega)
          refine on' (Wp.seq (Wp.text (kp 4 vN (WpOps.nil (thenK_at (Wp.ret (thenK_ret (endK_retn [vN] vN (by kernel_rfl) (by kernel_rfl) ?_)))))))) (hc := ev_fact d1)
          exact endR (by kernel_rfl) rfl (.same rfl) (.same rfl) (.w (AnsR.nil rfl ha).toldW)
      · rw [show s.frm true 4 g n r d = s from if_pos ⟨by decide, by decide, hg⟩]
        have dg : ((g : Int) != (s.gen : Int)) = true := bne_iff_ne.2 (by omega)
        refine Wp.seq (Wp.seq (Wp.text (kp 22 (vI 0) (kp 23 vF (kp 24 vF (kp 25 (vI (↑4 : Int)) (kp 26 vT (kp 27 vT (kp 28 (vI (↑4 : Int)) (kp 29 vT (kp 30 vT (kp 31 vT (kp 32 (vI g) (kp 33 (vP 0 0) (kp 34 (vP 0 0) (kp 35 (vP 0 6) (kp 36 (vI (St.gen s)) (kp 37 vT (kp 38 vT (kp 39 vT (WpOps.nil (thenK_at (on' (Wp.seq (Wp.text (kp 4 vN (WpOps.nil (thenK_at (Wp.ret (thenK_ret (endK_retn [vN] vN (by kernel_rfl) (by kernel_rfl) ?_))))))))))))) (hop := fun _ => by_fact dg)))))))))))))))))))
        exact endR (by kernel_rfl) rfl (.same rfl) (.same rfl) (.w (AnsR.nil rfl ha).toldW)
    · by_cases hg : g = s.gen
      · have dg : ((g : Int) != (s.gen : Int)) = false := by rw [hg]; exact bne_self_eq_false _
        rw [show s.frm true 5 g n r d = (if s.state = 2 then s.car 5 n r d else s) from by unfold St.frm; rw [if_neg (fun h => h.2.2 hg), if_neg (by decide), if_neg (by decide), if_neg (by decide), if_neg (by decide), if_neg (by decide)]]
        refine Wp.seq (Wp.seq (Wp.text (kp 22 (vI 0) (kp 23 vF (kp 24 vF (kp 25 (vI (↑5 : Int)) (kp 26 vT (kp 27 vT (kp 28 (vI (↑5 : Int)) (kp 29 vT (kp 30 vT (kp 31 vT (kp 32 (vI g) (kp 33 (vP 0 0) (kp 34 (vP 0 0) (kp 35 (vP 0 6) (kp 36 (vI (St.gen s)) (kp 37 vF (kp 38 vF (kp 39 vF (WpOps.nil (thenK_at (off' (Wp.skip (thenK_at (Wp.seq (Wp.seq (Wp.text (kp 40 (vI (↑5 : Int)) (WpOps.nil (thenK_at (Wp.block (Wp.seq (Wp.text (kp 42 vF (kp 41 vF (WpOps.nil (thenK_at (off' (Wp.seq (Wp.text (kp 47 vF (kp 46 vF (WpOps.nil (thenK_at (off' (Wp.seq (Wp.text (kp 85 vF (kp 84 vF (WpOps.nil (thenK_at (off' (Wp.seq (Wp.text (kp 106 vF (kp 105 vF (WpOps.nil (thenK_at (off' (Wp.seq (Wp.text (kp 119 vF (kp 118 vF (WpOps.nil (thenK_at (off' (Wp.skip (blockK_norm (thenK_at (Wp.seq (Wp.seq (Wp.text (kp 127 (vP 0 0) (kp 128 (vP 0 0) (kp 129 (vP 0 5) (kp 130 (vI (St.state s)) (kp 131 (.bool ((↑(St.state s) : Int) != 2)) (WpOps.nil (thenK_at ?_)))))))))))))))))))))))))))))))))))))))))))))))))))))))))))))) (hop := fun _ => by_fact dg)))))))))))))))))))
        by_cases hc : s.state = 2
        · rw [if_pos hc]
          have d1 : ((s.state : Int) != 2) = false := by rw [hc]; rfl
          have c1 := ack79 s r (by omega) hok.acked (by omega)
          obtain ⟨e1, e2, e3, e4, e5⟩ := ack_facts s r (by omega) hok.acked
          unfold St.car
          generalize s.ack r = s1 at *
          rw [ha] at e1
          have e6 : s1.wanted ≤ 7 := by omega
          dsimp only
          rw [if_pos rfl]
          have c2 := resend80 s1 e4 (by omega) (by rw [e1]; exact Nat.zero_le _)
          rw [e1] at c2
          refine off' (Wp.skip (thenK_at (Wp.seq (Wp.text (kp 132 (vP 0 0) (kp 133 (vI r) (cl 134 79 [vP 0 0, vI r] (WpCall.rf c1 (by kernel_rfl) rfl (by kernel_rfl) (by kernel_rfl) (WpOps.nil (thenK_at (Wp.seq (Wp.seq (Wp.text (kp 135 (vI (↑5 : Int)) (WpOps.nil (thenK_at (Wp.block (Wp.seq (Wp.text (kp 137 vT (kp 136 vT (WpOps.nil (thenK_at (on' (Wp.seq (Wp.text (kp 138 (vP 0 0) (cl 139 80 [vP 0 0, vN] (WpCall.nil1 (WpCall.rf c2 (by kernel_rfl) rfl rfl rfl ?_)))))))))))))))))))))))))))))) (hc := ev_fact d1)
          unfold rB rC sv
          try unfold lv
          refine kp 4 (lv (St.ans (St.agn s1))) (WpOps.nil (thenK_at (Wp.ret (blockK_ret (thenK_ret (endK_retn [Value.iface 61 (Value.iface (List.length (St.ans (St.agn s1))) (Value.iface 3 (Value.agg (List.toArray (evl (St.ans (St.agn s1)))))))] (lv (St.ans (St.agn s1))) (by kernel_rfl) (by kernel_rfl) ?_))))))
          exact endR (by kernel_rfl) rfl (.same rfl) (.same rfl) (.w (.un rfl rfl))
        · rw [if_neg hc]
          have d1 : ((s.state : Int) != 2) = true := bne_iff_ne.2 (by omega)
          refine on' (Wp.seq (Wp.text (kp 4 vN (WpOps.nil (thenK_at (Wp.ret (thenK_ret (endK_retn [vN] vN (by kernel_rfl) (by kernel_rfl) ?_)))))))) (hc := ev_fact d1)
          exact endR (by kernel_rfl) rfl (.same rfl) (.same rfl) (.w (AnsR.nil rfl ha).toldW)
      · rw [show s.frm true 5 g n r d = s from if_pos ⟨by decide, by decide, hg⟩]
        have dg : ((g : Int) != (s.gen : Int)) = true := bne_iff_ne.2 (by omega)
        refine Wp.seq (Wp.seq (Wp.text (kp 22 (vI 0) (kp 23 vF (kp 24 vF (kp 25 (vI (↑5 : Int)) (kp 26 vT (kp 27 vT (kp 28 (vI (↑5 : Int)) (kp 29 vT (kp 30 vT (kp 31 vT (kp 32 (vI g) (kp 33 (vP 0 0) (kp 34 (vP 0 0) (kp 35 (vP 0 6) (kp 36 (vI (St.gen s)) (kp 37 vT (kp 38 vT (kp 39 vT (WpOps.nil (thenK_at (on' (Wp.seq (Wp.text (kp 4 vN (WpOps.nil (thenK_at (Wp.ret (thenK_ret (endK_retn [vN] vN (by kernel_rfl) (by kernel_rfl) ?_))))))))))))) (hop := fun _ => by_fact dg)))))))))))))))))))
        exact endR (by kernel_rfl) rfl (.same rfl) (.same rfl) (.w (AnsR.nil rfl ha).toldW)
    · by_cases hg : g = s.gen
      · have dg : ((g : Int) != (s.gen : Int)) = false := by rw [hg]; exact bne_self_eq_false _
        rw [show s.frm true 6 g n r d = (if s.state = 0 then s.snd 7 0 0 nob else (s.snd 7 0 0 nob).giv true) from by unfold St.frm; rw [if_neg (fun h => h.2.2 hg), if_neg (by decide), if_neg (by decide), if_neg (by decide), if_pos rfl]]
        have c1 := put73 s 7 0 0 nob (by omega)
        rw [ha] at c1
        by_cases hc : s.state = 0
        · rw [if_pos hc]
          have d1 : ((s.state : Int) != 0) = false := by rw [hc]; rfl
          refine Wp.seq (Wp.seq (Wp.text (kp 22 (vI 0) (kp 23 vF (kp 24 vF (kp 25 (vI (↑6 : Int)) (kp 26 vT (kp 27 vT (kp 28 (vI (↑6 : Int)) (kp 29 vT (kp 30 vT (kp 31 vT (kp 32 (vI g) (kp 33 (vP 0 0) (kp 34 (vP 0 0) (kp 35 (vP 0 6) (kp 36 (vI (St.gen s)) (kp 37 vF (kp 38 vF (kp 39 vF (WpOps.nil (thenK_at (off' (Wp.skip (thenK_at (Wp.seq (Wp.seq (Wp.text (kp 40 (vI (↑6 : Int)) (WpOps.nil (thenK_at (Wp.block (Wp.seq (Wp.text (kp 42 vF (kp 41 vF (WpOps.nil (thenK_at (off' (Wp.seq (Wp.text (kp 47 vF (kp 46 vF (WpOps.nil (thenK_at (off' (Wp.seq (Wp.text (kp 85 vF (kp 84 vF (WpOps.nil (thenK_at (off' (Wp.seq (Wp.text (kp 106 vT (kp 105 vT (WpOps.nil (thenK_at (on' (Wp.seq (Wp.text (kp 107 (vP 0 0) (cl 108 73 [vP 0 0, vN, vI 7, vI 0, vI 0, Value.string (ByteArray.mk #[])] (WpCall.nil1 (WpCall.rf c1 (by kernel_rfl) rfl rfl rfl ?_)))))))))))))))))))))))))))))))))))))))))))))))) (hop := fun _ => by_fact dg)))))))))))))))))))
          unfold rB rC sv
          try unfold lv
          refine kp 12 (lv (St.ans (St.snd 7 0 0 nob s))) (WpOps.nil (thenK_at (Wp.seq (Wp.seq (Wp.text (kp 109 (vP 0 0) (kp 110 (vP 0 0) (kp 111 (vP 0 5) (kp 112 (vI (St.state s)) (kp 113 vF (WpOps.nil (thenK_at (off' (Wp.skip (thenK_at (Wp.seq (Wp.text (kp 117 (lv (St.ans (St.snd 7 0 0 nob s))) (kp 4 (lv (St.ans (St.snd 7 0 0 nob s))) (WpOps.nil (thenK_at (Wp.ret (blockK_ret (thenK_ret (endK_retn [Value.iface 61 (Value.iface (List.length (St.ans (St.snd 7 0 0 nob s))) (Value.iface 3 (Value.agg (List.toArray (evl (St.ans (St.snd 7 0 0 nob s)))))))] (lv (St.ans (St.snd 7 0 0 nob s))) (by kernel_rfl) (by kernel_rfl) ?_))))))))))))))) (hop := fun _ => by_fact d1)))))))))))
          exact endR (by kernel_rfl) rfl (.same rfl) (.same rfl) (.w (.un rfl rfl))
        · rw [if_neg hc]
          have d1 : ((s.state : Int) != 0) = true := bne_iff_ne.2 (by omega)
          have c2 := quit78 (s.snd 7 0 0 nob) (by rw [St.snd_n]; omega)
          refine Wp.seq (Wp.seq (Wp.text (kp 22 (vI 0) (kp 23 vF (kp 24 vF (kp 25 (vI (↑6 : Int)) (kp 26 vT (kp 27 vT (kp 28 (vI (↑6 : Int)) (kp 29 vT (kp 30 vT (kp 31 vT (kp 32 (vI g) (kp 33 (vP 0 0) (kp 34 (vP 0 0) (kp 35 (vP 0 6) (kp 36 (vI (St.gen s)) (kp 37 vF (kp 38 vF (kp 39 vF (WpOps.nil (thenK_at (off' (Wp.skip (thenK_at (Wp.seq (Wp.seq (Wp.text (kp 40 (vI (↑6 : Int)) (WpOps.nil (thenK_at (Wp.block (Wp.seq (Wp.text (kp 42 vF (kp 41 vF (WpOps.nil (thenK_at (off' (Wp.seq (Wp.text (kp 47 vF (kp 46 vF (WpOps.nil (thenK_at (off' (Wp.seq (Wp.text (kp 85 vF (kp 84 vF (WpOps.nil (thenK_at (off' (Wp.seq (Wp.text (kp 106 vT (kp 105 vT (WpOps.nil (thenK_at (on' (Wp.seq (Wp.text (kp 107 (vP 0 0) (cl 108 73 [vP 0 0, vN, vI 7, vI 0, vI 0, Value.string (ByteArray.mk #[])] (WpCall.nil1 (WpCall.rf c1 (by kernel_rfl) rfl rfl rfl ?_)))))))))))))))))))))))))))))))))))))))))))))))) (hop := fun _ => by_fact dg)))))))))))))))))))
          unfold rB rC sv
          try unfold lv
          refine kp 12 (lv (St.ans (St.snd 7 0 0 nob s))) (WpOps.nil (thenK_at (Wp.seq (Wp.seq (Wp.text (kp 109 (vP 0 0) (kp 110 (vP 0 0) (kp 111 (vP 0 5) (kp 112 (vI (St.state s)) (kp 113 vT (WpOps.nil (thenK_at (on' (Wp.text (kp 114 (vP 0 0) (kp 115 (lv (St.ans (St.snd 7 0 0 nob s))) (cl 116 78 [vP 0 0, Value.iface 61 (Value.iface (List.length (St.ans (St.snd 7 0 0 nob s))) (Value.iface 3 (Value.agg (List.toArray (evl (St.ans (St.snd 7 0 0 nob s)))))))] (WpCall.rf c2 (by kernel_rfl) rfl (by kernel_rfl) (by kernel_rfl) (kp 12 (lv (St.ans (St.giv true (St.snd 7 0 0 nob s)))) (WpOps.nil (thenK_at (Wp.seq (Wp.text (kp 117 (lv (St.ans (St.giv true (St.snd 7 0 0 nob s)))) (kp 4 (lv (St.ans (St.giv true (St.snd 7 0 0 nob s)))) (WpOps.nil (thenK_at (Wp.ret (blockK_ret (thenK_ret (endK_retn [Value.iface 61 (Value.iface (List.length (St.ans (St.giv true (St.snd 7 0 0 nob s)))) (Value.iface 3 (Value.agg (List.toArray (evl (St.ans (St.giv true (St.snd 7 0 0 nob s))))))))] (lv (St.ans (St.giv true (St.snd 7 0 0 nob s)))) (by kernel_rfl) (by kernel_rfl) ?_))))))))))))))))))))) (hop := fun _ => by_fact d1)))))))))))
          exact endR (by kernel_rfl) rfl (.same rfl) (.same rfl) (.w (.un rfl rfl))
      · rw [show s.frm true 6 g n r d = s from if_pos ⟨by decide, by decide, hg⟩]
        have dg : ((g : Int) != (s.gen : Int)) = true := bne_iff_ne.2 (by omega)
        refine Wp.seq (Wp.seq (Wp.text (kp 22 (vI 0) (kp 23 vF (kp 24 vF (kp 25 (vI (↑6 : Int)) (kp 26 vT (kp 27 vT (kp 28 (vI (↑6 : Int)) (kp 29 vT (kp 30 vT (kp 31 vT (kp 32 (vI g) (kp 33 (vP 0 0) (kp 34 (vP 0 0) (kp 35 (vP 0 6) (kp 36 (vI (St.gen s)) (kp 37 vT (kp 38 vT (kp 39 vT (WpOps.nil (thenK_at (on' (Wp.seq (Wp.text (kp 4 vN (WpOps.nil (thenK_at (Wp.ret (thenK_ret (endK_retn [vN] vN (by kernel_rfl) (by kernel_rfl) ?_))))))))))))) (hop := fun _ => by_fact dg)))))))))))))))))))
        exact endR (by kernel_rfl) rfl (.same rfl) (.same rfl) (.w (AnsR.nil rfl ha).toldW)
    · by_cases hg : g = s.gen
      · have dg : ((g : Int) != (s.gen : Int)) = false := by rw [hg]; exact bne_self_eq_false _
        rw [show s.frm true 7 g n r d = (if s.state = 3 then s.giv true else s) from by unfold St.frm; rw [if_neg (fun h => h.2.2 hg), if_neg (by decide), if_neg (by decide), if_neg (by decide), if_neg (by decide), if_pos rfl]]
        refine Wp.seq (Wp.seq (Wp.text (kp 22 (vI 0) (kp 23 vF (kp 24 vF (kp 25 (vI (↑7 : Int)) (kp 26 vT (kp 27 vT (kp 28 (vI (↑7 : Int)) (kp 29 vT (kp 30 vT (kp 31 vT (kp 32 (vI g) (kp 33 (vP 0 0) (kp 34 (vP 0 0) (kp 35 (vP 0 6) (kp 36 (vI (St.gen s)) (kp 37 vF (kp 38 vF (kp 39 vF (WpOps.nil (thenK_at (off' (Wp.skip (thenK_at (Wp.seq (Wp.seq (Wp.text (kp 40 (vI (↑7 : Int)) (WpOps.nil (thenK_at (Wp.block (Wp.seq (Wp.text (kp 42 vF (kp 41 vF (WpOps.nil (thenK_at (off' (Wp.seq (Wp.text (kp 47 vF (kp 46 vF (WpOps.nil (thenK_at (off' (Wp.seq (Wp.text (kp 85 vF (kp 84 vF (WpOps.nil (thenK_at (off' (Wp.seq (Wp.text (kp 106 vF (kp 105 vF (WpOps.nil (thenK_at (off' (Wp.seq (Wp.text (kp 119 vT (kp 118 vT (WpOps.nil (thenK_at (on' (Wp.seq (Wp.seq (Wp.text (kp 120 (vP 0 0) (kp 121 (vP 0 0) (kp 122 (vP 0 5) (kp 123 (vI (St.state s)) (kp 124 (.bool ((↑(St.state s) : Int) == 3)) (WpOps.nil (thenK_at ?_))))))))))))))))))))))))))))))))))))))))))))))))))))))))))) (hop := fun _ => by_fact dg)))))))))))))))))))
        by_cases hc : s.state = 3
        · rw [if_pos hc]
          have d1 : ((s.state : Int) == 3) = true := by rw [hc]; rfl
          have c1 := quit78 s (by omega)
          rw [ha] at c1
          refine on' (Wp.seq (Wp.text (kp 125 (vP 0 0) (cl 126 78 [vP 0 0, vN] (WpCall.nil1 (WpCall.rf c1 (by kernel_rfl) rfl rfl rfl ?_)))))) (hc := ev_fact d1)
          unfold rB rC sv
          try unfold lv
          refine kp 4 (lv (St.ans (St.giv true s))) (WpOps.nil (thenK_at (Wp.ret (thenK_ret (blockK_ret (thenK_ret (endK_retn [Value.iface 61 (Value.iface (List.length (St.ans (St.giv true s))) (Value.iface 3 (Value.agg (List.toArray (evl (St.ans (St.giv true s)))))))] (lv (St.ans (St.giv true s))) (by kernel_rfl) (by kernel_rfl) ?_)))))))
          exact endR (by kernel_rfl) rfl (.same rfl) (.same rfl) (.w (.un rfl rfl))
        · rw [if_neg hc]
          have d1 : ((s.state : Int) == 3) = false := beq_false_of_ne (by omega)
          refine off' (Wp.skip (thenK_at (Wp.seq (Wp.text (kp 4 vN (WpOps.nil (thenK_at (Wp.ret (blockK_ret (thenK_ret (endK_retn [vN] vN (by kernel_rfl) (by kernel_rfl) ?_))))))))))) (hc := ev_fact d1)
          exact endR (by kernel_rfl) rfl (.same rfl) (.same rfl) (.w (AnsR.nil rfl ha).toldW)
      · rw [show s.frm true 7 g n r d = s from if_pos ⟨by decide, by decide, hg⟩]
        have dg : ((g : Int) != (s.gen : Int)) = true := bne_iff_ne.2 (by omega)
        refine Wp.seq (Wp.seq (Wp.text (kp 22 (vI 0) (kp 23 vF (kp 24 vF (kp 25 (vI (↑7 : Int)) (kp 26 vT (kp 27 vT (kp 28 (vI (↑7 : Int)) (kp 29 vT (kp 30 vT (kp 31 vT (kp 32 (vI g) (kp 33 (vP 0 0) (kp 34 (vP 0 0) (kp 35 (vP 0 6) (kp 36 (vI (St.gen s)) (kp 37 vT (kp 38 vT (kp 39 vT (WpOps.nil (thenK_at (on' (Wp.seq (Wp.text (kp 4 vN (WpOps.nil (thenK_at (Wp.ret (thenK_ret (endK_retn [vN] vN (by kernel_rfl) (by kernel_rfl) ?_))))))))))))) (hop := fun _ => by_fact dg)))))))))))))))))))
        exact endR (by kernel_rfl) rfl (.same rfl) (.same rfl) (.w (AnsR.nil rfl ha).toldW)
    · rw [show s.frm true 8 g n r d = (if s.first = true ∧ (s.state = 0 ∨ s.state = 2) then (if s.state = 2 then ({ s with ren := true }.tel 4 nob).beg else { s with ren := false }.beg) else s) from by unfold St.frm; rw [if_neg (fun h => h.2.1 rfl), if_neg (by decide), if_pos rfl]]
      by_cases hc : s.first = true ∧ (s.state = 0 ∨ s.state = 2)
      · rw [if_pos hc]
        have d1 : s.first = true := hc.1
        have d3 : ((s.state : Int) == 1) = false := beq_false_of_ne (by omega)
        have d4 : ((s.state : Int) == 3) = false := beq_false_of_ne (by omega)
        by_cases h2 : s.state = 2
        · rw [if_pos h2]
          obtain ⟨s1, hs1⟩ : ∃ s1, s1 = ({ s with ren := true } : St) := ⟨_, rfl⟩
          have ea : s1.ans = [] := by rw [hs1]; exact ha
          have c1 := tell76 s1 4 nob (by rw [ea]; exact Nat.zero_le _)
          have c2 := start72 (s1.tel 4 nob) (by rw [St.tel_n, ea]; decide) (by rw [hs1]; exact hok.gen)
          rw [ea] at c1
          unfold lv at c1
          rw [← hs1]
          have d2 : ((s.state : Int) == 2) = true := by rw [h2]; rfl
          refine Wp.seq (Wp.seq (Wp.text (kp 22 (vI 0) (kp 23 vF (kp 24 vF (kp 25 (vI (↑8 : Int)) (kp 26 vT (kp 27 vT (kp 28 (vI (↑8 : Int)) (kp 29 vF (kp 30 vF (kp 31 vF (um 32 (um 33 (um 34 (um 35 (um 36 (um 37 (kp 38 vF (kp 39 vF (WpOps.nil (thenK_at (off' (Wp.skip (thenK_at (Wp.seq (Wp.seq (Wp.text (kp 40 (vI (↑8 : Int)) (WpOps.nil (thenK_at (Wp.block (Wp.seq (Wp.text (kp 42 vF (kp 41 vF (WpOps.nil (thenK_at (off' (Wp.seq (Wp.text (kp 47 vT (kp 46 vT (WpOps.nil (thenK_at (on' (Wp.seq (Wp.seq (Wp.text (kp 48 (vP 0 0) (kp 49 (vP 0 0) (kp 50 (vP 0 1) (kp 51 vT (kp 52 vF (kp 53 vF (kp 54 (vP 0 0) (kp 55 (vP 0 0) (kp 56 (vP 0 5) (kp 57 (vI (St.state s)) (kp 58 vF (kp 59 vF (kp 60 vF (kp 61 (vP 0 0) (kp 62 (vP 0 0) (kp 63 (vP 0 5) (kp 64 (vI (St.state s)) (kp 65 vF (kp 66 vF (WpOps.nil (thenK_at (off' (Wp.skip (thenK_at (Wp.seq (Wp.text (kp 11 vN (WpOps.nil (thenK_at (Wp.seq (Wp.text ?_))))))))))))) (hop := fun _ => by_fact d4)))))))) (hop := fun _ => by_fact d3)))))))) (hop := fun _ => by_fact d1))))))))))))))))))))))))))))))))))))))))))))))))))))))
          refine kp 67 (vP 0 0) (kp 68 (vP 0 0) (kp 69 (vP 0 0) (kp 70 (vP 0 5) (kp 71 (vI (St.state s)) (kp 72 vT (kp 73 (vP 0 0) (kp 74 (vP 0 11) (ld (.tuple #[]) (0) (Blk.mk 92 true [vT, Value.bool (St.first s), vI (St.win s), vI (St.wait s), vI (St.tries s), vI (St.state s), vI (St.gen s), vI (St.sent s), vI (St.acked s), vI (St.wanted s), Value.bool (St.rej s), vT, Value.iface 9 (Value.iface (List.length (St.queue s)) (Value.iface 3 (Value.agg (List.toArray (ss (St.queue s)))))), Value.iface 9 (Value.iface (List.length (St.out s)) (Value.iface 3 (Value.agg (List.toArray (ss (St.out s)))))), vI (St.left s), vI (St.tried s)]) (WpOps.nil (thenK_at (Wp.seq (Wp.seq (Wp.text (kp 75 (vP 0 0) (kp 76 (vP 0 0) (kp 77 (vP 0 11) (kp 78 vT (WpOps.nil (thenK_at (on' (Wp.text (kp 79 vN (cl 80 76 [vN, vI 4, Value.string (ByteArray.mk #[])] (WpCall.nil0 ?_))))))))))))))))))) (hop := fun _ => by_fact d2))))))
          unfold lv
          refine WpCall.consume [0] (c1) (by kernel_rfl) (by kernel_rfl) ?_
          refine kp 11 (lv (St.ans (St.tel 4 nob s1))) (WpOps.nil (thenK_at (Wp.seq (Wp.text (kp 81 (vP 0 0) (kp 82 (lv (St.ans (St.tel 4 nob s1))) (cl 83 72 [vP 0 0, Value.iface 61 (Value.iface (List.length (St.ans (St.tel 4 nob s1))) (Value.iface 3 (Value.agg (List.toArray (evl (St.ans (St.tel 4 nob s1)))))))] ?_)))))))
          refine WpCall.rf c2 (by kernel_rfl) (by subst hs1; rfl) (by subst hs1; rfl) rfl ?_
          unfold rB rC sv
          try unfold lv
          refine kp 4 (lv (St.ans (St.beg (St.tel 4 nob s1)))) (WpOps.nil (thenK_at (Wp.ret (blockK_ret (thenK_ret (endK_retn [Value.iface 61 (Value.iface (List.length (St.ans (St.beg (St.tel 4 nob s1)))) (Value.iface 3 (Value.agg (List.toArray (evl (St.ans (St.beg (St.tel 4 nob s1))))))))] (lv (St.ans (St.beg (St.tel 4 nob s1)))) (by kernel_rfl) (by kernel_rfl) ?_))))))
          exact endR (by kernel_rfl) rfl (.same rfl) (.same rfl) (.w (.un rfl rfl))
        · rw [if_neg h2]
          obtain ⟨s1, hs1⟩ : ∃ s1, s1 = ({ s with ren := false } : St) := ⟨_, rfl⟩
          have ea : s1.ans = [] := by rw [hs1]; exact ha
          have c1 := start72 s1 (by rw [ea]; exact Nat.zero_le _) (by rw [hs1]; exact hok.gen)
          rw [ea] at c1
          rw [← hs1]
          have d2 : ((s.state : Int) == 2) = false := beq_false_of_ne (by omega)
          refine Wp.seq (Wp.seq (Wp.text (kp 22 (vI 0) (kp 23 vF (kp 24 vF (kp 25 (vI (↑8 : Int)) (kp 26 vT (kp 27 vT (kp 28 (vI (↑8 : Int)) (kp 29 vF (kp 30 vF (kp 31 vF (um 32 (um 33 (um 34 (um 35 (um 36 (um 37 (kp 38 vF (kp 39 vF (WpOps.nil (thenK_at (off' (Wp.skip (thenK_at (Wp.seq (Wp.seq (Wp.text (kp 40 (vI (↑8 : Int)) (WpOps.nil (thenK_at (Wp.block (Wp.seq (Wp.text (kp 42 vF (kp 41 vF (WpOps.nil (thenK_at (off' (Wp.seq (Wp.text (kp 47 vT (kp 46 vT (WpOps.nil (thenK_at (on' (Wp.seq (Wp.seq (Wp.text (kp 48 (vP 0 0) (kp 49 (vP 0 0) (kp 50 (vP 0 1) (kp 51 vT (kp 52 vF (kp 53 vF (kp 54 (vP 0 0) (kp 55 (vP 0 0) (kp 56 (vP 0 5) (kp 57 (vI (St.state s)) (kp 58 vF (kp 59 vF (kp 60 vF (kp 61 (vP 0 0) (kp 62 (vP 0 0) (kp 63 (vP 0 5) (kp 64 (vI (St.state s)) (kp 65 vF (kp 66 vF (WpOps.nil (thenK_at (off' (Wp.skip (thenK_at (Wp.seq (Wp.text (kp 11 vN (WpOps.nil (thenK_at (Wp.seq (Wp.text ?_))))))))))))) (hop := fun _ => by_fact d4)))))))) (hop := fun _ => by_fact d3)))))))) (hop := fun _ => by_fact d1))))))))))))))))))))))))))))))))))))))))))))))))))))))
          refine kp 67 (vP 0 0) (kp 68 (vP 0 0) (kp 69 (vP 0 0) (kp 70 (vP 0 5) (kp 71 (vI (St.state s)) (kp 72 vF (kp 73 (vP 0 0) (kp 74 (vP 0 11) (ld (.tuple #[]) (0) (Blk.mk 92 true [vT, Value.bool (St.first s), vI (St.win s), vI (St.wait s), vI (St.tries s), vI (St.state s), vI (St.gen s), vI (St.sent s), vI (St.acked s), vI (St.wanted s), Value.bool (St.rej s), vF, Value.iface 9 (Value.iface (List.length (St.queue s)) (Value.iface 3 (Value.agg (List.toArray (ss (St.queue s)))))), Value.iface 9 (Value.iface (List.length (St.out s)) (Value.iface 3 (Value.agg (List.toArray (ss (St.out s)))))), vI (St.left s), vI (St.tried s)]) (WpOps.nil (thenK_at (Wp.seq (Wp.seq (Wp.text (kp 75 (vP 0 0) (kp 76 (vP 0 0) (kp 77 (vP 0 11) (kp 78 vF (WpOps.nil (thenK_at (off' (Wp.skip (thenK_at (Wp.seq (Wp.text (kp 81 (vP 0 0) (kp 82 vN (cl 83 72 [vP 0 0, vN] (WpCall.nil1 ?_))))))))))))))))))))))) (hop := fun _ => by_fact d2))))))
          refine WpCall.rf c1 (by kernel_rfl) (by subst hs1; rfl) (by subst hs1; rfl) rfl ?_
          unfold rB rC sv
          try unfold lv
          refine kp 4 (lv (St.ans (St.beg s1))) (WpOps.nil (thenK_at (Wp.ret (blockK_ret (thenK_ret (endK_retn [Value.iface 61 (Value.iface (List.length (St.ans (St.beg s1))) (Value.iface 3 (Value.agg (List.toArray (evl (St.ans (St.beg s1)))))))] (lv (St.ans (St.beg s1))) (by kernel_rfl) (by kernel_rfl) ?_))))))
          exact endR (by kernel_rfl) rfl (.same rfl) (.same rfl) (.w (.un rfl rfl))
      · rw [if_neg hc]
        have hff : s.first = false ∨ s.first = true := by cases s.first <;> simp
        rcases hff with hf | hf
        ·
          refine Wp.seq (Wp.seq (Wp.text (kp 22 (vI 0) (kp 23 vF (kp 24 vF (kp 25 (vI (↑8 : Int)) (kp 26 vT (kp 27 vT (kp 28 (vI (↑8 : Int)) (kp 29 vF (kp 30 vF (kp 31 vF (um 32 (um 33 (um 34 (um 35 (um 36 (um 37 (kp 38 vF (kp 39 vF (WpOps.nil (thenK_at (off' (Wp.skip (thenK_at (Wp.seq (Wp.seq (Wp.text (kp 40 (vI (↑8 : Int)) (WpOps.nil (thenK_at (Wp.block (Wp.seq (Wp.text (kp 42 vF (kp 41 vF (WpOps.nil (thenK_at (off' (Wp.seq (Wp.text (kp 47 vT (kp 46 vT (WpOps.nil (thenK_at (on' (Wp.seq (Wp.seq (Wp.text (kp 48 (vP 0 0) (kp 49 (vP 0 0) (kp 50 (vP 0 1) (kp 51 vF (kp 52 vT (kp 53 vT (um 54 (um 55 (um 56 (um 57 (um 58 (kp 59 vT (kp 60 vT (um 61 (um 62 (um 63 (um 64 (um 65 (kp 66 vT (WpOps.nil (thenK_at (on' (Wp.seq (Wp.text (kp 4 vN (WpOps.nil (thenK_at (Wp.ret (thenK_ret (blockK_ret (thenK_ret (endK_retn [vN] vN (by kernel_rfl) (by kernel_rfl) ?_)))))))))))))))))))))))))))) (hop := fun _ => by_fact hf))))))))))))))))))))))))))))))))))))))))))))))))))))))
          exact endR (by kernel_rfl) rfl (.same rfl) (.same rfl) (.w (AnsR.nil rfl ha).toldW)
        ·
          have h13 : s.state = 1 ∨ s.state = 3 := by
            have := hok.state
            have h0 : s.state ≠ 0 := fun h => hc ⟨hf, .inl h⟩
            have h2 : s.state ≠ 2 := fun h => hc ⟨hf, .inr h⟩
            omega
          rcases h13 with h1 | h3
          · have d3 : ((s.state : Int) == 1) = true := by rw [h1]; rfl
            refine Wp.seq (Wp.seq (Wp.text (kp 22 (vI 0) (kp 23 vF (kp 24 vF (kp 25 (vI (↑8 : Int)) (kp 26 vT (kp 27 vT (kp 28 (vI (↑8 : Int)) (kp 29 vF (kp 30 vF (kp 31 vF (um 32 (um 33 (um 34 (um 35 (um 36 (um 37 (kp 38 vF (kp 39 vF (WpOps.nil (thenK_at (off' (Wp.skip (thenK_at (Wp.seq (Wp.seq (Wp.text (kp 40 (vI (↑8 : Int)) (WpOps.nil (thenK_at (Wp.block (Wp.seq (Wp.text (kp 42 vF (kp 41 vF (WpOps.nil (thenK_at (off' (Wp.seq (Wp.text (kp 47 vT (kp 46 vT (WpOps.nil (thenK_at (on' (Wp.seq (Wp.seq (Wp.text (kp 48 (vP 0 0) (kp 49 (vP 0 0) (kp 50 (vP 0 1) (kp 51 vT (kp 52 vF (kp 53 vF (kp 54 (vP 0 0) (kp 55 (vP 0 0) (kp 56 (vP 0 5) (kp 57 (vI (St.state s)) (kp 58 vT (kp 59 vT (kp 60 vT (um 61 (um 62 (um 63 (um 64 (um 65 (kp 66 vT (WpOps.nil (thenK_at (on' (Wp.seq (Wp.text (kp 4 vN (WpOps.nil (thenK_at (Wp.ret (thenK_ret (blockK_ret (thenK_ret (endK_retn [vN] vN (by kernel_rfl) (by kernel_rfl) ?_))))))))))))))))))))) (hop := fun _ => by_fact d3)))))))) (hop := fun _ => by_fact hf))))))))))))))))))))))))))))))))))))))))))))))))))))))
            exact endR (by kernel_rfl) rfl (.same rfl) (.same rfl) (.w (AnsR.nil rfl ha).toldW)
          · have d3 : ((s.state : Int) == 1) = false := by rw [h3]; rfl
            have d4 : ((s.state : Int) == 3) = true := by rw [h3]; rfl
            refine Wp.seq (Wp.seq (Wp.text (kp 22 (vI 0) (kp 23 vF (kp 24 vF (kp 25 (vI (↑8 : Int)) (kp 26 vT (kp 27 vT (kp 28 (vI (↑8 : Int)) (kp 29 vF (kp 30 vF (kp 31 vF (um 32 (um 33 (um 34 (um 35 (um 36 (um 37 (kp 38 vF (kp 39 vF (WpOps.nil (thenK_at (off' (Wp.skip (thenK_at (Wp.seq (Wp.seq (Wp.text (kp 40 (vI (↑8 : Int)) (WpOps.nil (thenK_at (Wp.block (Wp.seq (Wp.text (kp 42 vF (kp 41 vF (WpOps.nil (thenK_at (off' (Wp.seq (Wp.text (kp 47 vT (kp 46 vT (WpOps.nil (thenK_at (on' (Wp.seq (Wp.seq (Wp.text (kp 48 (vP 0 0) (kp 49 (vP 0 0) (kp 50 (vP 0 1) (kp 51 vT (kp 52 vF (kp 53 vF (kp 54 (vP 0 0) (kp 55 (vP 0 0) (kp 56 (vP 0 5) (kp 57 (vI (St.state s)) (kp 58 vF (kp 59 vF (kp 60 vF (kp 61 (vP 0 0) (kp 62 (vP 0 0) (kp 63 (vP 0 5) (kp 64 (vI (St.state s)) (kp 65 vT (kp 66 vT (WpOps.nil (thenK_at (on' (Wp.seq (Wp.text (kp 4 vN (WpOps.nil (thenK_at (Wp.ret (thenK_ret (blockK_ret (thenK_ret ?_))))))))))))) (hop := fun _ => by_fact d4)))))))) (hop := fun _ => by_fact d3)))))))) (hop := fun _ => by_fact hf))))))))))))))))))))))))))))))))))))))))))))))))))))))
            refine endK_retn [vN] vN (by kernel_rfl) (by kernel_rfl) ?_
            exact endR (by kernel_rfl) rfl (.same rfl) (.same rfl) (.w (AnsR.nil rfl ha).toldW)
  · rw [if_neg hr] at c0 ⊢
    refine Lent.of f50 rfl (of_decide_eq_true (by kernel_rfl)) rfl rfl (Nat.le_refl _) rfl (rB_ok _) rfl ?_
    unfold rB rC sv
    try unfold lv
    refine Wp.seq (Wp.text (kp 4 vN (WpOps.nil (thenK_at (Wp.seq (Wp.text (kp 14 (.string b) (fr 15 14 [Value.string b] (WpFun.of (c0) (kp 13 (.tuple #[vI 0, vI 0, vI 0, vI 0, Value.string ByteArray.empty, vI 4]) (kp 16 (vI 0) (kp 17 (vI 0) (kp 18 (vI 0) (kp 19 (vI 0) (kp 20 (.string ByteArray.empty) (kp 21 (vI 4) (kp 5 (vI 0) (kp 6 (vI 0) (kp 7 (vI 0) (kp 8 (vI 0) (kp 9 (.string ByteArray.empty) (kp 10 (vI 4) (WpOps.nil (thenK_at (Wp.seq (Wp.seq (Wp.text (kp 22 (vI 4) (kp 23 vT (kp 24 vT (um 25 (um 26 (um 27 (um 28 (um 29 (um 30 (um 31 (um 32 (um 33 (um 34 (um 35 (um 36 (um 37 (um 38 (kp 39 vT (WpOps.nil (thenK_at (on' (Wp.seq (Wp.text (kp 4 vN (WpOps.nil (thenK_at (Wp.ret (thenK_ret (endK_retn [vN] vN (by kernel_rfl) (by kernel_rfl) ?_))))))))))))))))))))))))))))))))))))))))))))))))))))))))
    exact endR (by kernel_rfl) rfl (.same rfl) (.same rfl) (.w (AnsR.nil rfl ha).toldW)
end Go.Proofs.Ytgefohjickhldaa.D
