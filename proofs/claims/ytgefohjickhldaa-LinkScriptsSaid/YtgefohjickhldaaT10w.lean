/- The specification's station: On, and what tells its numbers. -/
import Derived.Test.YtgefohjickhldaaFwLem
import Derived.Test.YtgefohjickhldaaFwMat
import Derived.Test.YtgefohjickhldaaT10p
import Derived.Test.YtgefohjickhldaaT10v
namespace Go.Proofs.Ytgefohjickhldaa.D
open Go.Fw Go.RowKit

theorem f23 : E.funcs 23 = some Try.f23 := by kernel_rfl
theorem on23a (s : St) (w k a b c : Int) (d : ByteArray) (hok : s.Ok) (ha : s.ans = []) : Lent E 23 [.pointer (some ⟨0, 0, none⟩), evv w k a b c d] [rB s] (uV (s.ons true w k d).1 (s.ons true w k d).2) [rB (s.ons true w k d).2] := by
  have oo := hok.out
  have ow := hok.win
  have ea : ({ s with ans := [] } : St) = s := by rw [← ha]
  have hl0 : s.ans.length = 0 := by rw [ha]; rfl
  unfold St.ons
  rw [ea]
  by_cases hw0 : w = 0
  · subst hw0
    rw [if_pos rfl]
    by_cases hk : 1 ≤ k ∧ k ≤ 3
    · have d1 : decide (k < 1) = false := decide_eq_false (by omega)
      have d2 : decide (k > 3) = false := decide_eq_false (by omega)
      by_cases h2 : k = 2 ∧ d.size > 1000
      · obtain ⟨rfl, h2⟩ := h2
        have d3 : decide ((d.size : Int) > 1000) = true := decide_eq_true (by omega)
        have hu : s.usr 2 d = (1, s) := by unfold St.usr; rw [if_neg (by decide), if_pos rfl, if_pos h2]
        rw [hu, if_neg (show ¬ (1 : Int) = 0 by decide)]
        unfold evv
        refine Lent.of f23 rfl (of_decide_eq_true (by kernel_rfl)) rfl rfl (Nat.le_refl _) rfl (rB_ok _) rfl ?_
        unfold rB rC sv
        try unfold lv
        refine Wp.seq (Wp.text (md 3 (vP 1 0) (Blk.mk 61 true [vI 0, vI 2, vI a, vI b, vI c, Value.string d]) (kp 4 vN (kp 5 (vI 0) (WpOps.nil (thenK_at (Wp.seq (Wp.seq (Wp.text (kp 8 (vP 0 0) (kp 9 vF (kp 10 vF (kp 11 (vP 0 0) (kp 12 (vP 0 0) (kp 13 (vP 0 0) (kp 14 vT (kp 15 vF (kp 16 vF (WpOps.nil (thenK_at (off' (Wp.skip (thenK_at (Wp.seq (Wp.seq (Wp.text (kp 17 (vP 1 0) (kp 18 (vI 0) (WpOps.nil (thenK_at (Wp.block (Wp.seq (Wp.text (kp 20 vT (kp 19 vT (WpOps.nil (thenK_at (on' (Wp.seq (Wp.seq (Wp.text (kp 21 (vP 1 1) (kp 22 (vI 2) (kp 23 vF (kp 24 vF (kp 25 (vP 1 1) (kp 26 (vI 2) (kp 27 vF (kp 28 vF (kp 29 vF (kp 30 (vP 1 1) (kp 31 (vI 2) (kp 32 vT (kp 33 vT (kp 34 (vP 1 5) (kp 35 (.string d) (kp 36 (vI (ByteArray.size d)) (kp 37 vT (kp 38 vT (kp 39 vT (WpOps.nil (thenK_at (on' (Wp.seq (Wp.text (kp 4 vN (kp 5 (vI 1) (WpOps.nil (thenK_at (Wp.ret (thenK_ret (blockK_ret (thenK_ret ?_))))))))))))))) (hop := fun _ => by_fact d3)))))))))))))))))))))))))))))))))))))))))))))))))))))))))))
        refine endK_retn [vN, vI 1] (Value.tuple #[vN, vI 1]) (by kernel_rfl) (by kernel_rfl) ?_
        exact endU (by kernel_rfl) rfl (.same rfl) (.same rfl) rfl (.nil rfl ha)
      have d4 : (k == 2) = false ∨ ((k == 2) = true ∧ decide ((d.size : Int) > 1000) = false) := by
        by_cases h : k = 2
        · exact .inr ⟨by rw [h]; rfl, decide_eq_false (fun h' => h2 ⟨h, by omega⟩)⟩
        · exact .inl (beq_false_of_ne h)
      have c1 := user48 s 0 k a b c d (fun h => by have := fun h' => h2 ⟨h, h'⟩; omega) hk ha hok
      have o1 := hok.usr k d
      have n1 := St.usr_n (s := s) k d
      have ze : (St.usr k d s).1 ≠ 0 → (St.usr k d s).2.ans = [] := fun h => by rw [St.usr_err k d h, ha]
      generalize St.usr k d s = r at *
      obtain ⟨e1, s1⟩ := r
      dsimp only at c1 o1 n1 ze ⊢
      by_cases he : e1 = 0
      · subst he
        rw [if_pos rfl]
        have c2 := behind49 s1 21 (by decide) (flo_of o1 (by omega))
        rcases d4 with d4 | ⟨d4, d5⟩
        · unfold evv
          refine Lent.of f23 rfl (of_decide_eq_true (by kernel_rfl)) rfl rfl (Nat.le_refl _) rfl (rB_ok _) rfl ?_
          unfold rB rC sv
          try unfold lv
          refine Wp.seq (Wp.text (md 3 (vP 1 0) (Blk.mk 61 true [vI 0, vI k, vI a, vI b, vI c, Value.string d]) (kp 4 vN (kp 5 (vI 0) (WpOps.nil (thenK_at (Wp.seq (Wp.seq (Wp.text (kp 8 (vP 0 0) (kp 9 vF (kp 10 vF (kp 11 (vP 0 0) (kp 12 (vP 0 0) (kp 13 (vP 0 0) (kp 14 vT (kp 15 vF (kp 16 vF (WpOps.nil (thenK_at (off' (Wp.skip (thenK_at (Wp.seq (Wp.seq (Wp.text (kp 17 (vP 1 0) (kp 18 (vI 0) (WpOps.nil (thenK_at (Wp.block (Wp.seq (Wp.text (kp 20 vT (kp 19 vT (WpOps.nil (thenK_at (on' (Wp.seq (Wp.seq (Wp.text (kp 21 (vP 1 1) (kp 22 (vI k) (kp 23 vF (kp 24 vF (kp 25 (vP 1 1) (kp 26 (vI k) (kp 27 vF (kp 28 vF (kp 29 vF (kp 30 (vP 1 1) (kp 31 (vI k) (kp 32 vF (kp 33 vF (um 34 (um 35 (um 36 (um 37 (kp 38 vF (kp 39 vF (WpOps.nil (thenK_at (off' (Wp.skip (thenK_at (Wp.seq (Wp.text (kp 41 (vP 0 0) (kp 42 (.agg #[vI 0, vI k, vI a, vI b, vI c, Value.string d]) ?_)))))))))))))))) (hop := fun _ => by_fact d4)))))) (hop := fun _ => by_fact d2))))) (hop := fun _ => by_fact d1)))))))))))))))))))))))))))))))))))))))))))))
          refine cl 43 48 [vP 0 0, Value.agg #[vI 0, vI k, vI a, vI b, vI c, Value.string d]] (WpCall.rf c1 (by kernel_rfl) rfl (by kernel_rfl) (by kernel_rfl) (kp 40 (.tuple #[Value.iface 61 (Value.iface (List.length (St.ans s1)) (Value.iface 3 (Value.agg (List.toArray (evl (St.ans s1)))))), vI 0]) (kp 44 (lv (St.ans s1)) (kp 45 (vI 0) (kp 6 (lv (St.ans s1)) (kp 7 (vI 0) (WpOps.nil (thenK_at (Wp.seq (Wp.seq (Wp.text (kp 46 (vI 0) (kp 47 vF (WpOps.nil (thenK_at (off' (Wp.skip (thenK_at (Wp.seq (Wp.text (kp 49 (vP 0 0) (kp 50 (lv (St.ans s1)) (cl 51 49 [vP 0 0, Value.iface 61 (Value.iface (List.length (St.ans s1)) (Value.iface 3 (Value.agg (List.toArray (evl (St.ans s1))))))] (WpCall.rf c2 (by kernel_rfl) rfl (by kernel_rfl) (by kernel_rfl) (kp 4 (lv (St.ans (St.flo s1))) (kp 5 (vI 0) (WpOps.nil (thenK_at (Wp.ret (blockK_ret (thenK_ret (endK_retn [Value.iface 61 (Value.iface (List.length (St.ans (St.flo s1))) (Value.iface 3 (Value.agg (List.toArray (evl (St.ans (St.flo s1))))))), vI 0] (Value.tuple #[Value.iface 61 (Value.iface (List.length (St.ans (St.flo s1))) (Value.iface 3 (Value.agg (List.toArray (evl (St.ans (St.flo s1))))))), vI 0]) (by kernel_rfl) (by kernel_rfl) ?_))))))))))))))))))))))))))))))))
          exact endU (by kernel_rfl) rfl (.same rfl) (.same rfl) rfl (.same rfl)
        · unfold evv
          refine Lent.of f23 rfl (of_decide_eq_true (by kernel_rfl)) rfl rfl (Nat.le_refl _) rfl (rB_ok _) rfl ?_
          unfold rB rC sv
          try unfold lv
          refine Wp.seq (Wp.text (md 3 (vP 1 0) (Blk.mk 61 true [vI 0, vI k, vI a, vI b, vI c, Value.string d]) (kp 4 vN (kp 5 (vI 0) (WpOps.nil (thenK_at (Wp.seq (Wp.seq (Wp.text (kp 8 (vP 0 0) (kp 9 vF (kp 10 vF (kp 11 (vP 0 0) (kp 12 (vP 0 0) (kp 13 (vP 0 0) (kp 14 vT (kp 15 vF (kp 16 vF (WpOps.nil (thenK_at (off' (Wp.skip (thenK_at (Wp.seq (Wp.seq (Wp.text (kp 17 (vP 1 0) (kp 18 (vI 0) (WpOps.nil (thenK_at (Wp.block (Wp.seq (Wp.text (kp 20 vT (kp 19 vT (WpOps.nil (thenK_at (on' (Wp.seq (Wp.seq (Wp.text (kp 21 (vP 1 1) (kp 22 (vI k) (kp 23 vF (kp 24 vF (kp 25 (vP 1 1) (kp 26 (vI k) (kp 27 vF (kp 28 vF (kp 29 vF (kp 30 (vP 1 1) (kp 31 (vI k) (kp 32 vT (kp 33 vT (kp 34 (vP 1 5) (kp 35 (.string d) (kp 36 (vI (ByteArray.size d)) (kp 37 vF (kp 38 vF (kp 39 vF (WpOps.nil (thenK_at (off' (Wp.skip (thenK_at (Wp.seq (Wp.text ?_))))))))) (hop := fun _ => by_fact d5)))))) (hop := fun _ => by_fact d4)))))) (hop := fun _ => by_fact d2))))) (hop := fun _ => by_fact d1)))))))))))))))))))))))))))))))))))))))))))))
          refine kp 41 (vP 0 0) (kp 42 (.agg #[vI 0, vI k, vI a, vI b, vI c, Value.string d]) (cl 43 48 [vP 0 0, Value.agg #[vI 0, vI k, vI a, vI b, vI c, Value.string d]] (WpCall.rf c1 (by kernel_rfl) rfl (by kernel_rfl) (by kernel_rfl) (kp 40 (.tuple #[Value.iface 61 (Value.iface (List.length (St.ans s1)) (Value.iface 3 (Value.agg (List.toArray (evl (St.ans s1)))))), vI 0]) (kp 44 (lv (St.ans s1)) (kp 45 (vI 0) (kp 6 (lv (St.ans s1)) (kp 7 (vI 0) (WpOps.nil (thenK_at (Wp.seq (Wp.seq (Wp.text (kp 46 (vI 0) (kp 47 vF (WpOps.nil (thenK_at (off' (Wp.skip (thenK_at (Wp.seq (Wp.text (kp 49 (vP 0 0) (kp 50 (lv (St.ans s1)) (cl 51 49 [vP 0 0, Value.iface 61 (Value.iface (List.length (St.ans s1)) (Value.iface 3 (Value.agg (List.toArray (evl (St.ans s1))))))] (WpCall.rf c2 (by kernel_rfl) rfl (by kernel_rfl) (by kernel_rfl) (kp 4 (lv (St.ans (St.flo s1))) (kp 5 (vI 0) (WpOps.nil (thenK_at (Wp.ret (blockK_ret (thenK_ret (endK_retn [Value.iface 61 (Value.iface (List.length (St.ans (St.flo s1))) (Value.iface 3 (Value.agg (List.toArray (evl (St.ans (St.flo s1))))))), vI 0] (Value.tuple #[Value.iface 61 (Value.iface (List.length (St.ans (St.flo s1))) (Value.iface 3 (Value.agg (List.toArray (evl (St.ans (St.flo s1))))))), vI 0]) (by kernel_rfl) (by kernel_rfl) ?_))))))))))))))))))))))))))))))))))
          exact endU (by kernel_rfl) rfl (.same rfl) (.same rfl) rfl (.same rfl)
      · rw [if_neg he]
        have d6 : (e1 != 0) = true := bne_iff_ne.2 he
        rcases d4 with d4 | ⟨d4, d5⟩
        · unfold evv
          refine Lent.of f23 rfl (of_decide_eq_true (by kernel_rfl)) rfl rfl (Nat.le_refl _) rfl (rB_ok _) rfl ?_
          unfold rB rC sv
          try unfold lv
          refine Wp.seq (Wp.text (md 3 (vP 1 0) (Blk.mk 61 true [vI 0, vI k, vI a, vI b, vI c, Value.string d]) (kp 4 vN (kp 5 (vI 0) (WpOps.nil (thenK_at (Wp.seq (Wp.seq (Wp.text (kp 8 (vP 0 0) (kp 9 vF (kp 10 vF (kp 11 (vP 0 0) (kp 12 (vP 0 0) (kp 13 (vP 0 0) (kp 14 vT (kp 15 vF (kp 16 vF (WpOps.nil (thenK_at (off' (Wp.skip (thenK_at (Wp.seq (Wp.seq (Wp.text (kp 17 (vP 1 0) (kp 18 (vI 0) (WpOps.nil (thenK_at (Wp.block (Wp.seq (Wp.text (kp 20 vT (kp 19 vT (WpOps.nil (thenK_at (on' (Wp.seq (Wp.seq (Wp.text (kp 21 (vP 1 1) (kp 22 (vI k) (kp 23 vF (kp 24 vF (kp 25 (vP 1 1) (kp 26 (vI k) (kp 27 vF (kp 28 vF (kp 29 vF (kp 30 (vP 1 1) (kp 31 (vI k) (kp 32 vF (kp 33 vF (um 34 (um 35 (um 36 (um 37 (kp 38 vF (kp 39 vF (WpOps.nil (thenK_at (off' (Wp.skip (thenK_at (Wp.seq (Wp.text (kp 41 (vP 0 0) (kp 42 (.agg #[vI 0, vI k, vI a, vI b, vI c, Value.string d]) ?_)))))))))))))))) (hop := fun _ => by_fact d4)))))) (hop := fun _ => by_fact d2))))) (hop := fun _ => by_fact d1)))))))))))))))))))))))))))))))))))))))))))))
          refine cl 43 48 [vP 0 0, Value.agg #[vI 0, vI k, vI a, vI b, vI c, Value.string d]] (WpCall.rf c1 (by kernel_rfl) rfl (by kernel_rfl) (by kernel_rfl) (kp 40 (.tuple #[Value.iface 61 (Value.iface (List.length (St.ans s1)) (Value.iface 3 (Value.agg (List.toArray (evl (St.ans s1)))))), vI e1]) (kp 44 (lv (St.ans s1)) (kp 45 (vI e1) (kp 6 (lv (St.ans s1)) (kp 7 (vI e1) (WpOps.nil (thenK_at (Wp.seq (Wp.seq (Wp.text (kp 46 (vI e1) (kp 47 vT (WpOps.nil (thenK_at (on' (Wp.seq (Wp.text (kp 48 (vI e1) (kp 4 vN (kp 5 (vI e1) (WpOps.nil (thenK_at (Wp.ret (thenK_ret (blockK_ret (thenK_ret (endK_retn [vN, vI e1] (Value.tuple #[vN, vI e1]) (by kernel_rfl) (by kernel_rfl) ?_))))))))))))))) (hop := fun _ => by_fact d6))))))))))))))
          exact endU (by kernel_rfl) rfl (.same rfl) (.same rfl) rfl (.nil rfl (ze he))
        · unfold evv
          refine Lent.of f23 rfl (of_decide_eq_true (by kernel_rfl)) rfl rfl (Nat.le_refl _) rfl (rB_ok _) rfl ?_
          unfold rB rC sv
          try unfold lv
          refine Wp.seq (Wp.text (md 3 (vP 1 0) (Blk.mk 61 true [vI 0, vI k, vI a, vI b, vI c, Value.string d]) (kp 4 vN (kp 5 (vI 0) (WpOps.nil (thenK_at (Wp.seq (Wp.seq (Wp.text (kp 8 (vP 0 0) (kp 9 vF (kp 10 vF (kp 11 (vP 0 0) (kp 12 (vP 0 0) (kp 13 (vP 0 0) (kp 14 vT (kp 15 vF (kp 16 vF (WpOps.nil (thenK_at (off' (Wp.skip (thenK_at (Wp.seq (Wp.seq (Wp.text (kp 17 (vP 1 0) (kp 18 (vI 0) (WpOps.nil (thenK_at (Wp.block (Wp.seq (Wp.text (kp 20 vT (kp 19 vT (WpOps.nil (thenK_at (on' (Wp.seq (Wp.seq (Wp.text (kp 21 (vP 1 1) (kp 22 (vI k) (kp 23 vF (kp 24 vF (kp 25 (vP 1 1) (kp 26 (vI k) (kp 27 vF (kp 28 vF (kp 29 vF (kp 30 (vP 1 1) (kp 31 (vI k) (kp 32 vT (kp 33 vT (kp 34 (vP 1 5) (kp 35 (.string d) (kp 36 (vI (ByteArray.size d)) (kp 37 vF (kp 38 vF (kp 39 vF (WpOps.nil (thenK_at (off' (Wp.skip (thenK_at (Wp.seq (Wp.text ?_))))))))) (hop := fun _ => by_fact d5)))))) (hop := fun _ => by_fact d4)))))) (hop := fun _ => by_fact d2))))) (hop := fun _ => by_fact d1)))))))))))))))))))))))))))))))))))))))))))))
          refine kp 41 (vP 0 0) (kp 42 (.agg #[vI 0, vI k, vI a, vI b, vI c, Value.string d]) (cl 43 48 [vP 0 0, Value.agg #[vI 0, vI k, vI a, vI b, vI c, Value.string d]] (WpCall.rf c1 (by kernel_rfl) rfl (by kernel_rfl) (by kernel_rfl) (kp 40 (.tuple #[Value.iface 61 (Value.iface (List.length (St.ans s1)) (Value.iface 3 (Value.agg (List.toArray (evl (St.ans s1)))))), vI e1]) (kp 44 (lv (St.ans s1)) (kp 45 (vI e1) (kp 6 (lv (St.ans s1)) (kp 7 (vI e1) (WpOps.nil (thenK_at (Wp.seq (Wp.seq (Wp.text (kp 46 (vI e1) (kp 47 vT (WpOps.nil (thenK_at (on' (Wp.seq (Wp.text (kp 48 (vI e1) (kp 4 vN (kp 5 (vI e1) (WpOps.nil (thenK_at (Wp.ret (thenK_ret (blockK_ret (thenK_ret (endK_retn [vN, vI e1] (Value.tuple #[vN, vI e1]) (by kernel_rfl) (by kernel_rfl) ?_))))))))))))))) (hop := fun _ => by_fact d6))))))))))))))))
          exact endU (by kernel_rfl) rfl (.same rfl) (.same rfl) rfl (.nil rfl (ze he))
    · have hu : s.usr k d = (1, s) := by unfold St.usr; rw [if_neg (by omega), if_neg (by omega), if_neg (by omega)]
      rw [hu, if_neg (show ¬ (1 : Int) = 0 by decide)]
      have d1 : decide (k < 1) = true ∨ (decide (k < 1) = false ∧ decide (k > 3) = true) := by
        by_cases h : k < 1
        · exact .inl (decide_eq_true h)
        · exact .inr ⟨decide_eq_false h, decide_eq_true (by omega)⟩
      rcases d1 with d1 | ⟨d1, d2⟩
      · unfold evv
        refine Lent.of f23 rfl (of_decide_eq_true (by kernel_rfl)) rfl rfl (Nat.le_refl _) rfl (rB_ok _) rfl ?_
        unfold rB rC sv
        try unfold lv
        refine Wp.seq (Wp.text (md 3 (vP 1 0) (Blk.mk 61 true [vI 0, vI k, vI a, vI b, vI c, Value.string d]) (kp 4 vN (kp 5 (vI 0) (WpOps.nil (thenK_at (Wp.seq (Wp.seq (Wp.text (kp 8 (vP 0 0) (kp 9 vF (kp 10 vF (kp 11 (vP 0 0) (kp 12 (vP 0 0) (kp 13 (vP 0 0) (kp 14 vT (kp 15 vF (kp 16 vF (WpOps.nil (thenK_at (off' (Wp.skip (thenK_at (Wp.seq (Wp.seq (Wp.text (kp 17 (vP 1 0) (kp 18 (vI 0) (WpOps.nil (thenK_at (Wp.block (Wp.seq (Wp.text (kp 20 vT (kp 19 vT (WpOps.nil (thenK_at (on' (Wp.seq (Wp.seq (Wp.text (kp 21 (vP 1 1) (kp 22 (vI k) (kp 23 vT (kp 24 vT (um 25 (um 26 (um 27 (kp 28 vT (kp 29 vT (um 30 (um 31 (um 32 (um 33 (um 34 (um 35 (um 36 (um 37 (um 38 (kp 39 vT (WpOps.nil (thenK_at (on' (Wp.seq (Wp.text (kp 4 vN (kp 5 (vI 1) (WpOps.nil (thenK_at (Wp.ret (thenK_ret (blockK_ret (thenK_ret (endK_retn [vN, vI 1] (Value.tuple #[vN, vI 1]) (by kernel_rfl) (by kernel_rfl) ?_)))))))))))))))))))))))))))))) (hop := fun _ => by_fact d1)))))))))))))))))))))))))))))))))))))))))))))
        exact endU (by kernel_rfl) rfl (.same rfl) (.same rfl) rfl (.nil rfl ha)
      · unfold evv
        refine Lent.of f23 rfl (of_decide_eq_true (by kernel_rfl)) rfl rfl (Nat.le_refl _) rfl (rB_ok _) rfl ?_
        unfold rB rC sv
        try unfold lv
        refine Wp.seq (Wp.text (md 3 (vP 1 0) (Blk.mk 61 true [vI 0, vI k, vI a, vI b, vI c, Value.string d]) (kp 4 vN (kp 5 (vI 0) (WpOps.nil (thenK_at (Wp.seq (Wp.seq (Wp.text (kp 8 (vP 0 0) (kp 9 vF (kp 10 vF (kp 11 (vP 0 0) (kp 12 (vP 0 0) (kp 13 (vP 0 0) (kp 14 vT (kp 15 vF (kp 16 vF (WpOps.nil (thenK_at (off' (Wp.skip (thenK_at (Wp.seq (Wp.seq (Wp.text (kp 17 (vP 1 0) (kp 18 (vI 0) (WpOps.nil (thenK_at (Wp.block (Wp.seq (Wp.text (kp 20 vT (kp 19 vT (WpOps.nil (thenK_at (on' (Wp.seq (Wp.seq (Wp.text (kp 21 (vP 1 1) (kp 22 (vI k) (kp 23 vF (kp 24 vF (kp 25 (vP 1 1) (kp 26 (vI k) (kp 27 vT (kp 28 vT (kp 29 vT (um 30 (um 31 (um 32 (um 33 (um 34 (um 35 (um 36 (um 37 (um 38 (kp 39 vT (WpOps.nil (thenK_at (on' (Wp.seq (Wp.text (kp 4 vN (kp 5 (vI 1) (WpOps.nil (thenK_at (Wp.ret (thenK_ret (blockK_ret (thenK_ret (endK_retn [vN, vI 1] (Value.tuple #[vN, vI 1]) (by kernel_rfl) (by kernel_rfl) ?_)))))))))))))))))))))))))) (hop := fun _ => by_fact d2))))) (hop := fun _ => by_fact d1)))))))))))))))))))))))))))))))))))))))))))))
        exact endU (by kernel_rfl) rfl (.same rfl) (.same rfl) rfl (.nil rfl ha)
  rw [if_neg hw0]
  have dw0 : (w == 0) = false := beq_false_of_ne hw0
  by_cases hk : w = 1 ∧ k = 0
  · rw [if_pos hk]
    obtain ⟨rfl, rfl⟩ := hk
    have c1 := frame50 s d ha hok
    have o1 := hok.frmB true d
    have n1 := St.frmB_n (s := s) true d
    generalize s.frmB true d = s1 at *
    have c2 := behind49 s1 29 (by decide) (flo_of o1 (by omega))
    unfold evv
    refine Lent.of f23 rfl (of_decide_eq_true (by kernel_rfl)) rfl rfl (Nat.le_refl _) rfl (rB_ok _) rfl ?_
    unfold rB rC sv
    try unfold lv
    refine Wp.seq (Wp.text (md 3 (vP 1 0) (Blk.mk 61 true [vI 1, vI 0, vI a, vI b, vI c, Value.string d]) (kp 4 vN (kp 5 (vI 0) (WpOps.nil (thenK_at (Wp.seq (Wp.seq (Wp.text (kp 8 (vP 0 0) (kp 9 vF (kp 10 vF (kp 11 (vP 0 0) (kp 12 (vP 0 0) (kp 13 (vP 0 0) (kp 14 vT (kp 15 vF (kp 16 vF (WpOps.nil (thenK_at (off' (Wp.skip (thenK_at (Wp.seq (Wp.seq (Wp.text (kp 17 (vP 1 0) (kp 18 (vI 1) (WpOps.nil (thenK_at (Wp.block (Wp.seq (Wp.text (kp 20 vF (kp 19 vF (WpOps.nil (thenK_at (off' (Wp.seq (Wp.seq (Wp.text (kp 53 vT (kp 52 vT (WpOps.nil (thenK_at (on' (Wp.skip (thenK_at (on' (Wp.seq (Wp.seq (Wp.text (kp 55 (vP 1 1) (kp 56 (vI 0) (kp 57 vF (WpOps.nil (thenK_at (off' (Wp.skip (thenK_at (Wp.seq (Wp.seq (Wp.text (kp 58 (vP 1 0) (kp 59 (vI 1) (kp 60 vT (WpOps.nil (thenK_at (on' (Wp.seq (Wp.text (kp 61 (vP 0 0) (kp 62 (vP 0 0) (kp 63 (vP 1 5) (kp 64 (.string d) (cl 65 50 [vP 0 0, Value.string d] (WpCall.rf c1 (by kernel_rfl) rfl (by kernel_rfl) (by kernel_rfl) ?_)))))))))))))))))))))))))))))))))))))))))))))))))))))))))))))))))))))))))))))
    refine cl 66 49 [vP 0 0, Value.iface 61 (Value.iface (List.length (St.ans s1)) (Value.iface 3 (Value.agg (List.toArray (evl (St.ans s1))))))] (WpCall.rf c2 (by kernel_rfl) rfl (by kernel_rfl) (by kernel_rfl) (kp 4 (lv (St.ans (St.flo s1))) (kp 5 (vI 0) (WpOps.nil (thenK_at (Wp.ret (thenK_ret (blockK_ret (thenK_ret (endK_retn [Value.iface 61 (Value.iface (List.length (St.ans (St.flo s1))) (Value.iface 3 (Value.agg (List.toArray (evl (St.ans (St.flo s1))))))), vI 0] (Value.tuple #[Value.iface 61 (Value.iface (List.length (St.ans (St.flo s1))) (Value.iface 3 (Value.agg (List.toArray (evl (St.ans (St.flo s1))))))), vI 0]) (by kernel_rfl) (by kernel_rfl) ?_))))))))))
    exact endU (by kernel_rfl) rfl (.same rfl) (.same rfl) rfl (.same rfl)
  rw [if_neg hk]
  by_cases hc : w = 2 ∧ k = 0
  · rw [if_pos hc]
    obtain ⟨rfl, rfl⟩ := hc
    have c1 := tick51 s ha hok
    have o1 := hok.tic true
    have n1 := St.tic_n (s := s) true
    generalize s.tic true = s1 at *
    have c2 := behind49 s1 29 (by decide) (flo_of o1 (by omega))
    unfold evv
    refine Lent.of f23 rfl (of_decide_eq_true (by kernel_rfl)) rfl rfl (Nat.le_refl _) rfl (rB_ok _) rfl ?_
    unfold rB rC sv
    try unfold lv
    refine Wp.seq (Wp.text (md 3 (vP 1 0) (Blk.mk 61 true [vI 2, vI 0, vI a, vI b, vI c, Value.string d]) (kp 4 vN (kp 5 (vI 0) (WpOps.nil (thenK_at (Wp.seq (Wp.seq (Wp.text (kp 8 (vP 0 0) (kp 9 vF (kp 10 vF (kp 11 (vP 0 0) (kp 12 (vP 0 0) (kp 13 (vP 0 0) (kp 14 vT (kp 15 vF (kp 16 vF (WpOps.nil (thenK_at (off' (Wp.skip (thenK_at (Wp.seq (Wp.seq (Wp.text (kp 17 (vP 1 0) (kp 18 (vI 2) (WpOps.nil (thenK_at (Wp.block (Wp.seq (Wp.text (kp 20 vF (kp 19 vF (WpOps.nil (thenK_at (off' (Wp.seq (Wp.seq (Wp.text (kp 53 vF (kp 52 vF (WpOps.nil (thenK_at (off' (Wp.text (kp 54 vT (kp 52 vT (WpOps.nil (thenK_at (on' (Wp.seq (Wp.seq (Wp.text (kp 55 (vP 1 1) (kp 56 (vI 0) (kp 57 vF (WpOps.nil (thenK_at (off' (Wp.skip (thenK_at (Wp.seq (Wp.seq (Wp.text (kp 58 (vP 1 0) (kp 59 (vI 2) (kp 60 vF (WpOps.nil (thenK_at (off' (Wp.skip (thenK_at (Wp.seq (Wp.text (kp 67 (vP 0 0) (kp 68 (vP 0 0) (cl 69 51 [vP 0 0] (WpCall.rf c1 (by kernel_rfl) rfl (by kernel_rfl) (by kernel_rfl) ?_))))))))))))))))))))))))))))))))))))))))))))))))))))))))))))))))))))))))))))))))
    refine cl 70 49 [vP 0 0, Value.iface 61 (Value.iface (List.length (St.ans s1)) (Value.iface 3 (Value.agg (List.toArray (evl (St.ans s1))))))] (WpCall.rf c2 (by kernel_rfl) rfl (by kernel_rfl) (by kernel_rfl) (kp 4 (lv (St.ans (St.flo s1))) (kp 5 (vI 0) (WpOps.nil (thenK_at (Wp.ret (blockK_ret (thenK_ret (endK_retn [Value.iface 61 (Value.iface (List.length (St.ans (St.flo s1))) (Value.iface 3 (Value.agg (List.toArray (evl (St.ans (St.flo s1))))))), vI 0] (Value.tuple #[Value.iface 61 (Value.iface (List.length (St.ans (St.flo s1))) (Value.iface 3 (Value.agg (List.toArray (evl (St.ans (St.flo s1))))))), vI 0]) (by kernel_rfl) (by kernel_rfl) ?_)))))))))
    exact endU (by kernel_rfl) rfl (.same rfl) (.same rfl) rfl (.same rfl)
  rw [if_neg hc]
  by_cases hw1 : w = 1
  · subst hw1
    have d1 : (k != 0) = true := bne_iff_ne.2 (fun h => hk ⟨rfl, h⟩)
    unfold evv
    refine Lent.of f23 rfl (of_decide_eq_true (by kernel_rfl)) rfl rfl (Nat.le_refl _) rfl (rB_ok _) rfl ?_
    unfold rB rC sv
    try unfold lv
    refine Wp.seq (Wp.text (md 3 (vP 1 0) (Blk.mk 61 true [vI 1, vI k, vI a, vI b, vI c, Value.string d]) (kp 4 vN (kp 5 (vI 0) (WpOps.nil (thenK_at (Wp.seq (Wp.seq (Wp.text (kp 8 (vP 0 0) (kp 9 vF (kp 10 vF (kp 11 (vP 0 0) (kp 12 (vP 0 0) (kp 13 (vP 0 0) (kp 14 vT (kp 15 vF (kp 16 vF (WpOps.nil (thenK_at (off' (Wp.skip (thenK_at (Wp.seq (Wp.seq (Wp.text (kp 17 (vP 1 0) (kp 18 (vI 1) (WpOps.nil (thenK_at (Wp.block (Wp.seq (Wp.text (kp 20 vF (kp 19 vF (WpOps.nil (thenK_at (off' (Wp.seq (Wp.seq (Wp.text (kp 53 vT (kp 52 vT (WpOps.nil (thenK_at (on' (Wp.skip (thenK_at (on' (Wp.seq (Wp.seq (Wp.text (kp 55 (vP 1 1) (kp 56 (vI k) (kp 57 vT (WpOps.nil (thenK_at (on' (Wp.seq (Wp.text (kp 4 vN (kp 5 (vI 1) (WpOps.nil (thenK_at (Wp.ret (thenK_ret (blockK_ret (thenK_ret (endK_retn [vN, vI 1] (Value.tuple #[vN, vI 1]) (by kernel_rfl) (by kernel_rfl) ?_)))))))))))))) (hop := fun _ => by_fact d1))))))))))))))))))))))))))))))))))))))))))))))))))))))))
    exact endU (by kernel_rfl) rfl (.same rfl) (.same rfl) rfl (.nil rfl ha)
  have dw1 : (w == 1) = false := beq_false_of_ne hw1
  by_cases hw2 : w = 2
  · subst hw2
    have d1 : (k != 0) = true := bne_iff_ne.2 (fun h => hc ⟨rfl, h⟩)
    unfold evv
    refine Lent.of f23 rfl (of_decide_eq_true (by kernel_rfl)) rfl rfl (Nat.le_refl _) rfl (rB_ok _) rfl ?_
    unfold rB rC sv
    try unfold lv
    refine Wp.seq (Wp.text (md 3 (vP 1 0) (Blk.mk 61 true [vI 2, vI k, vI a, vI b, vI c, Value.string d]) (kp 4 vN (kp 5 (vI 0) (WpOps.nil (thenK_at (Wp.seq (Wp.seq (Wp.text (kp 8 (vP 0 0) (kp 9 vF (kp 10 vF (kp 11 (vP 0 0) (kp 12 (vP 0 0) (kp 13 (vP 0 0) (kp 14 vT (kp 15 vF (kp 16 vF (WpOps.nil (thenK_at (off' (Wp.skip (thenK_at (Wp.seq (Wp.seq (Wp.text (kp 17 (vP 1 0) (kp 18 (vI 2) (WpOps.nil (thenK_at (Wp.block (Wp.seq (Wp.text (kp 20 vF (kp 19 vF (WpOps.nil (thenK_at (off' (Wp.seq (Wp.seq (Wp.text (kp 53 vF (kp 52 vF (WpOps.nil (thenK_at (off' (Wp.text (kp 54 vT (kp 52 vT (WpOps.nil (thenK_at (on' (Wp.seq (Wp.seq (Wp.text (kp 55 (vP 1 1) (kp 56 (vI k) (kp 57 vT (WpOps.nil (thenK_at (on' (Wp.seq (Wp.text (kp 4 vN (kp 5 (vI 1) (WpOps.nil (thenK_at (Wp.ret (thenK_ret (blockK_ret (thenK_ret (endK_retn [vN, vI 1] (Value.tuple #[vN, vI 1]) (by kernel_rfl) (by kernel_rfl) ?_)))))))))))))) (hop := fun _ => by_fact d1)))))))))))))))))))))))))))))))))))))))))))))))))))))))))))
    exact endU (by kernel_rfl) rfl (.same rfl) (.same rfl) rfl (.nil rfl ha)
  have dw2 : (w == 2) = false := beq_false_of_ne hw2
  unfold evv
  refine Lent.of f23 rfl (of_decide_eq_true (by kernel_rfl)) rfl rfl (Nat.le_refl _) rfl (rB_ok _) rfl ?_
  unfold rB rC sv
  try unfold lv
  refine Wp.seq (Wp.text (md 3 (vP 1 0) (Blk.mk 61 true [vI w, vI k, vI a, vI b, vI c, Value.string d]) (kp 4 vN (kp 5 (vI 0) (WpOps.nil (thenK_at (Wp.seq (Wp.seq (Wp.text (kp 8 (vP 0 0) (kp 9 vF (kp 10 vF (kp 11 (vP 0 0) (kp 12 (vP 0 0) (kp 13 (vP 0 0) (kp 14 vT (kp 15 vF (kp 16 vF (WpOps.nil (thenK_at (off' (Wp.skip (thenK_at (Wp.seq (Wp.seq (Wp.text (kp 17 (vP 1 0) (kp 18 (vI w) (WpOps.nil (thenK_at (Wp.block (Wp.seq (Wp.text (kp 20 vF (kp 19 vF (WpOps.nil (thenK_at (off' (Wp.seq (Wp.seq (Wp.text (kp 53 vF (kp 52 vF (WpOps.nil (thenK_at (off' (Wp.text (kp 54 vF (kp 52 vF (WpOps.nil (thenK_at (off' (Wp.skip (blockK_norm (thenK_at (Wp.seq (Wp.text (kp 4 vN (kp 5 (vI 1) (WpOps.nil (thenK_at (Wp.ret (endK_retn [vN, vI 1] (Value.tuple #[vN, vI 1]) (by kernel_rfl) (by kernel_rfl) ?_))))))))))))))) (hop := fun _ => by_fact dw2))))))) (hop := fun _ => by_fact dw1))))))))) (hop := fun _ => by_fact dw0)))))))))))))))))))))))))))))))))))
  exact endU (by kernel_rfl) rfl (.same rfl) (.same rfl) rfl (.nil rfl ha)
theorem on23 (s : St) (w k a b c : Int) (d : ByteArray) (hok : s.Ok) : Lent E 23 [.pointer (some ⟨0, 0, none⟩), evv w k a b c d] [rB s] (uV (s.ons true w k d).1 (s.ons true w k d).2) [rB (s.ons true w k d).2] := on23a { s with ans := [] } w k a b c d hok.cut rfl
theorem f52 : E.funcs 52 = some Try.f52 := by kernel_rfl
theorem numbersR (s : St) : Lent E 52 [.pointer (some ⟨0, 0, none⟩)] [rB s] (.tuple #[.int .i64 s.sent, .int .i64 s.acked, .int .i64 s.wanted]) [rB s] := by
  refine Lent.of f52 rfl (of_decide_eq_true (by kernel_rfl)) rfl rfl (Nat.le_refl _) rfl (rB_ok _) rfl ?_
  unfold rB rC sv
  try unfold lv
  refine Wp.seq (Wp.text (kp 2 (vI 0) (kp 3 (vI 0) (kp 4 (vI 0) (WpOps.nil (thenK_at (Wp.seq (Wp.seq (Wp.text (kp 5 (vP 0 0) (kp 6 vF (WpOps.nil (thenK_at (off' (Wp.skip (thenK_at (Wp.seq (Wp.region (by kernel_rfl) (kp 7 (vP 0 0) (kp 8 (vP 0 0) (kp 9 (vP 0 7) (kp 10 (vI (St.sent s)) (kp 11 (vP 0 0) (kp 12 (vP 0 0) (kp 13 (vP 0 8) (kp 14 (vI (St.acked s)) (kp 15 (vP 0 0) (kp 16 (vP 0 0) (kp 17 (vP 0 9) (kp 18 (vI (St.wanted s)) (kp 2 (vI (St.sent s)) (kp 3 (vI (St.acked s)) (kp 4 (vI (St.wanted s)) (WpOps.nil (thenK_at (Wp.ret (endK_retn [vI (St.sent s), vI (St.acked s), vI (St.wanted s)] (Value.tuple #[vI (St.sent s), vI (St.acked s), vI (St.wanted s)]) (by kernel_rfl) (by kernel_rfl) ?_)))))))))))))))))))))))))))))))))))))
  exact endR (by kernel_rfl) rfl (.same rfl) (.same rfl) (.tuple _ _ rfl rfl (.cons (.un rfl rfl) (.cons (.un rfl rfl) (.cons (.un rfl rfl) .nil))))
theorem f53 : E.funcs 53 = some Try.f53 := by kernel_rfl
theorem stateR (s : St) : Lent E 53 [.pointer (some ⟨0, 0, none⟩)] [rB s] (.int .i64 s.state) [rB s] := by
  refine Lent.of f53 rfl (of_decide_eq_true (by kernel_rfl)) rfl rfl (Nat.le_refl _) rfl (rB_ok _) rfl ?_
  unfold rB rC sv
  try unfold lv
  refine Wp.seq (Wp.text (kp 2 (vI 0) (WpOps.nil (thenK_at (Wp.seq (Wp.seq (Wp.text (kp 3 (vP 0 0) (kp 4 vF (WpOps.nil (thenK_at (off' (Wp.skip (thenK_at (Wp.seq (Wp.text (kp 5 (vP 0 0) (kp 6 (vP 0 0) (kp 7 (vP 0 5) (kp 8 (vI (St.state s)) (kp 2 (vI (St.state s)) (WpOps.nil (thenK_at (Wp.ret (endK_retn [vI (St.state s)] (vI (St.state s)) (by kernel_rfl) (by kernel_rfl) ?_)))))))))))))))))))))))))
  exact endR (by kernel_rfl) rfl (.same rfl) (.same rfl) (.w (.un rfl rfl))
theorem f54 : E.funcs 54 = some Try.f54 := by kernel_rfl
theorem queueR (s : St) : Lent E 54 [.pointer (some ⟨0, 0, none⟩)] [rB s] (.int .i64 s.queue.length) [rB s] := by
  refine Lent.of f54 rfl (of_decide_eq_true (by kernel_rfl)) rfl rfl (Nat.le_refl _) rfl (rB_ok _) rfl ?_
  unfold rB rC sv
  try unfold lv
  refine Wp.seq (Wp.text (kp 2 (vI 0) (WpOps.nil (thenK_at (Wp.seq (Wp.seq (Wp.text (kp 3 (vP 0 0) (kp 4 vF (WpOps.nil (thenK_at (off' (Wp.skip (thenK_at (Wp.seq (Wp.text (kp 5 (vP 0 0) (kp 6 (vP 0 0) (kp 7 (vP 0 12) (kp 8 (sv (St.queue s)) (kp 9 (vI (List.length (St.queue s))) (kp 2 (vI (List.length (St.queue s))) (WpOps.nil (thenK_at (Wp.ret (endK_retn [vI (List.length (St.queue s))] (vI (List.length (St.queue s))) (by kernel_rfl) (by kernel_rfl) ?_))))))))))))))))))))))))))
  exact endR (by kernel_rfl) rfl (.same rfl) (.same rfl) (.w (.un rfl rfl))
theorem f55 : E.funcs 55 = some Try.f55 := by kernel_rfl
theorem outR (s : St) : Lent E 55 [.pointer (some ⟨0, 0, none⟩)] [rB s] (.int .i64 s.out.length) [rB s] := by
  refine Lent.of f55 rfl (of_decide_eq_true (by kernel_rfl)) rfl rfl (Nat.le_refl _) rfl (rB_ok _) rfl ?_
  unfold rB rC sv
  try unfold lv
  refine Wp.seq (Wp.text (kp 2 (vI 0) (WpOps.nil (thenK_at (Wp.seq (Wp.seq (Wp.text (kp 3 (vP 0 0) (kp 4 vF (WpOps.nil (thenK_at (off' (Wp.skip (thenK_at (Wp.seq (Wp.text (kp 5 (vP 0 0) (kp 6 (vP 0 0) (kp 7 (vP 0 13) (kp 8 (sv (St.out s)) (kp 9 (vI (List.length (St.out s))) (kp 2 (vI (List.length (St.out s))) (WpOps.nil (thenK_at (Wp.ret (endK_retn [vI (List.length (St.out s))] (vI (List.length (St.out s))) (by kernel_rfl) (by kernel_rfl) ?_))))))))))))))))))))))))))
  exact endR (by kernel_rfl) rfl (.same rfl) (.same rfl) (.w (.un rfl rfl))
theorem f56 : E.funcs 56 = some Try.f56 := by kernel_rfl
theorem genR (s : St) : Lent E 56 [.pointer (some ⟨0, 0, none⟩)] [rB s] (.int .i64 s.gen) [rB s] := by
  refine Lent.of f56 rfl (of_decide_eq_true (by kernel_rfl)) rfl rfl (Nat.le_refl _) rfl (rB_ok _) rfl ?_
  unfold rB rC sv
  try unfold lv
  refine Wp.seq (Wp.text (kp 2 (vI 0) (WpOps.nil (thenK_at (Wp.seq (Wp.seq (Wp.text (kp 3 (vP 0 0) (kp 4 vF (WpOps.nil (thenK_at (off' (Wp.skip (thenK_at (Wp.seq (Wp.text (kp 5 (vP 0 0) (kp 6 (vP 0 0) (kp 7 (vP 0 6) (kp 8 (vI (St.gen s)) (kp 2 (vI (St.gen s)) (WpOps.nil (thenK_at (Wp.ret (endK_retn [vI (St.gen s)] (vI (St.gen s)) (by kernel_rfl) (by kernel_rfl) ?_)))))))))))))))))))))))))
  exact endR (by kernel_rfl) rfl (.same rfl) (.same rfl) (.w (.un rfl rfl))
end Go.Proofs.Ytgefohjickhldaa.D
