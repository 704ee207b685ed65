/- Is a byte missing? A whole taken out. -/
import Derived.Test.YtpkkcpglbjbgfaaFwLem
import Derived.Test.YtpkkcpglbjbgfaaFwCons
import Derived.Test.YtpkkcpglbjbgfaaFwMat
import Derived.Test.YtpkkcpglbjbgfaaFwEnter
import Derived.Test.YtpkkcpglbjbgfaaFwOver
import Derived.Test.YtpkkcpglbjbgfaaH14b
namespace Go.Proofs.Ytpkkcpglbjbgfaa.D
open Go.Fw Go.RowKit

theorem f82 : E.funcs 82 = some Try.f82 := by kernel_rfl
theorem f66 : E.funcs 66 = some Try.f66 := by kernel_rfl
theorem idx82_all (T : Nat) (D : ByteArray) (th : Nat → Bool) (h k p : Gr) (hT2 : T ≤ 4000) (hall : ∀ i, i < T → th i = true) : SCall E 82 [.slice (some ⟨4, 0, none⟩) T T, .bool false] (heapOf [st1, ar1, ⟨122, true, (wB T h k)⟩, ⟨5, true, dC D T th⟩, ⟨4, true, bC T th⟩, ⟨24, true, (gc p)⟩, ⟨24, true, zc⟩]) (.int .i64 (-1)) (heapOf [st1, ar1, ⟨122, true, (wB T h k)⟩, ⟨5, true, dC D T th⟩, ⟨4, true, bC T th⟩, ⟨24, true, (gc p)⟩, ⟨24, true, zc⟩]) := by
  refine SCall.enterL f82 rfl (of_decide_eq_true (by kernel_rfl)) (by kernel_rfl) (by kernel_rfl) (Nat.le_refl _) ?_
  refine Wp.seq (Wp.text ?_)
  refine kp 4 (.int IntKind.i64 0) ?_
  refine WpOps.nil (thenK_at (Wp.seq (Wp.seq (Wp.text ?_))))
  refine kp 6 (.slice (some ⟨4, 0, none⟩) T T) ?_
  refine kp 7 (.int IntKind.i64 (↑T : Int)) ?_
  refine kp 8 (.int IntKind.i64 0) ?_
  refine WpOps.nil (thenK_at (Wp.block ?_))
  refine Wp.loop (G := Nat) (fun i => layj [(0, .slice (some ⟨4, 0, none⟩) T T), (1, .bool false), (7, .int .i64 T), (8, .int .i64 i)]) (fun _ => heapOf [st1, ar1, ⟨122, true, (wB T h k)⟩, ⟨5, true, dC D T th⟩, ⟨4, true, bC T th⟩, ⟨24, true, (gc p)⟩, ⟨24, true, zc⟩]) (fun i => T - i) (fun i => i ≤ T) 0
    (View.same [st1, ar1, ⟨122, true, (wB T h k)⟩, ⟨5, true, dC D T th⟩, ⟨4, true, bC T th⟩, ⟨24, true, (gc p)⟩, ⟨24, true, zc⟩] _ (Nat.le_refl _) (pre7 ⟨by kernel_rfl, by kernel_rfl⟩ ⟨by kernel_rfl, by kernel_rfl⟩ ⟨by kernel_rfl, by kernel_rfl⟩ ⟨by kernel_rfl, okCs_flat (dC_flat _ _ _)⟩ ⟨by kernel_rfl, okCs_flat (bC_flat _ _)⟩ ⟨by kernel_rfl, by kernel_rfl⟩ ⟨by kernel_rfl, by kernel_rfl⟩) ⟨⟨by kernel_rfl, by kernel_rfl⟩, ⟨by kernel_rfl, rfl⟩, ⟨by kernel_rfl, rfl⟩, ⟨by kernel_rfl, rfl⟩, trivial⟩) (Nat.zero_le _) ?_
  intro i hi
  by_cases hlt : i < T
  · have d1 : decide ((i : Int) < T) = true := decide_eq_true (by omega)
    have g1 : 0 ≤ (i : Int) ∧ (i : Int) < T := by omega
    have u1 : (bC T th)[0 + (i : Int).toNat * 1]? = some (.bool true) := by
      rw [Int.toNat_natCast, Nat.zero_add, Nat.mul_one, bC_at th hlt, hall i hlt]
    refine Wp.seq (Wp.text ?_)
    refine kp 9 (.bool true) ?_ (hop := fun _ => by_fact d1)
    refine WpOps.nil (thenK_at (Wp.seq (on' (Wp.skip (thenK_at (Wp.seq (Wp.block (Wp.seq (Wp.text ?_)))))))))
    refine kp 10 (.int IntKind.i64 (↑i : Int)) ?_
    refine kp 5 (.int IntKind.i64 (↑i : Int)) ?_
    refine WpOps.nil (thenK_at (Wp.seq (Wp.text ?_)))
    refine kp 11 (.bool false) ?_
    refine kp 12 (.slice (some ⟨4, 0, none⟩) T T) ?_
    refine kp 13 (.int IntKind.i64 (↑i : Int)) ?_
    refine kp 14 (.pointer (some (Addr.mk 4 (0 + Int.toNat (↑i : Int) * 1) none))) ?_ (hop := fun _ => o_indexAddr (a := (↑i : Int)) (bl := 4) (off := 0) (size := 1) 4 (T) g1)
    refine kp 15 (.bool true) ?_ (hop := fun _ => o_load1 (4) (0 + Int.toNat (↑i : Int) * 1) u1)
    refine kp 16 (.bool false) ?_
    refine WpOps.nil (thenK_at (off' (Wp.skip (blockK_norm (thenK_at (Wp.text ?_))))))
    refine kp 18 (.int IntKind.i64 (IntKind.wrap .i64 ((↑i : Int) + 1))) ?_
    refine kp 8 (.int IntKind.i64 (IntKind.wrap .i64 ((↑i : Int) + 1))) ?_
    refine WpOps.nil (thenK_at ?_)
    exact ⟨i + 1, by omega, by omega, View.same [st1, ar1, ⟨122, true, (wB T h k)⟩, ⟨5, true, dC D T th⟩, ⟨4, true, bC T th⟩, ⟨24, true, (gc p)⟩, ⟨24, true, zc⟩] _ (Nat.le_refl _) (pre7 ⟨by kernel_rfl, by kernel_rfl⟩ ⟨by kernel_rfl, by kernel_rfl⟩ ⟨by kernel_rfl, by kernel_rfl⟩ ⟨by kernel_rfl, okCs_flat (dC_flat _ _ _)⟩ ⟨by kernel_rfl, okCs_flat (bC_flat _ _)⟩ ⟨by kernel_rfl, by kernel_rfl⟩ ⟨by kernel_rfl, by kernel_rfl⟩) ⟨⟨by kernel_rfl, by kernel_rfl⟩, ⟨by kernel_rfl, rfl⟩, ⟨by kernel_rfl, rfl⟩, ⟨congrArg (Value.int .i64) (wr _ (by omega) (by omega)), rfl⟩, trivial⟩⟩
  · obtain rfl : i = T := by omega
    have d1 : decide ((i : Int) < i) = false := decide_eq_false (by omega)
    refine Wp.seq (Wp.text ?_)
    refine kp 9 (.bool false) ?_ (hop := fun _ => by_fact d1)
    refine WpOps.nil (thenK_at (Wp.seq (off' (Wp.exit (thenK_exit (thenK_exit (blockK_hit (thenK_at (Wp.seq (Wp.text ?_))))))))))
    refine kp 4 (.int IntKind.i64 (-1)) ?_
    refine WpOps.nil (thenK_at (Wp.ret ?_))
    refine endK_retn [Value.int IntKind.i64 (-1)] (Value.int IntKind.i64 (-1)) (by kernel_rfl) (by kernel_rfl) ?_
    exact lentSame [st1, ar1, ⟨122, true, [sl h.fx h.fr, sl h.tx h.to, .int .i64 h.number, .int .i64 h.life, .int .i64 h.at', .int .i64 h.total, .int .i64 h.report, .bool h.more, .bool h.may, .bool h.wants, .string h.data, .bool true, sl k.fx k.fr, sl k.tx k.to, .int .i64 k.number, .int .i64 k.life, .int .i64 k.at', .int .i64 k.total, .int .i64 k.report, .bool k.more, .bool k.may, .bool k.wants, .string k.data, .slice (some ⟨3, 0, none⟩) i i, .slice (some ⟨4, 0, none⟩) i i, .int .i64 60]⟩, ⟨5, true, dC D i th⟩, ⟨4, true, bC i th⟩, ⟨24, true, (gc p)⟩, ⟨24, true, zc⟩] (pre7 ⟨by kernel_rfl, by kernel_rfl⟩ ⟨by kernel_rfl, by kernel_rfl⟩ ⟨by kernel_rfl, by kernel_rfl⟩ ⟨by kernel_rfl, okCs_flat (dC_flat _ _ _)⟩ ⟨by kernel_rfl, okCs_flat (bC_flat _ _)⟩ ⟨by kernel_rfl, by kernel_rfl⟩ ⟨by kernel_rfl, by kernel_rfl⟩) (.w (.un rfl rfl))
theorem cont66_all (T : Nat) (D : ByteArray) (th : Nat → Bool) (h k p : Gr) (hT2 : T ≤ 4000) (hall : ∀ i, i < T → th i = true) : SCall E 66 [.slice (some ⟨4, 0, none⟩) T T, .bool false] (heapOf [st1, ar1, ⟨122, true, (wB T h k)⟩, ⟨5, true, dC D T th⟩, ⟨4, true, bC T th⟩, ⟨24, true, (gc p)⟩, ⟨24, true, zc⟩]) (.bool false) (heapOf [st1, ar1, ⟨122, true, (wB T h k)⟩, ⟨5, true, dC D T th⟩, ⟨4, true, bC T th⟩, ⟨24, true, (gc p)⟩, ⟨24, true, zc⟩]) := by
  refine SCall.enterL f66 rfl (of_decide_eq_true (by kernel_rfl)) (by kernel_rfl) (by kernel_rfl) (Nat.le_refl _) ?_
  have c1 := idx82_all T D th h k p hT2 hall
  refine Wp.seq (Wp.text ?_)
  refine kp 4 (.bool false) ?_
  refine WpOps.nil (thenK_at (Wp.seq (Wp.text ?_)))
  refine kp 5 (.slice (some ⟨4, 0, none⟩) T T) ?_
  refine kp 6 (.bool false) ?_
  refine cl 7 82 [Value.slice (some ⟨4, 0, none⟩) T T, Value.bool false] ?_
  refine WpCall.enterL c1 rfl ?_
  refine kp 8 (.bool false) ?_
  refine kp 4 (.bool false) ?_
  refine WpOps.nil (thenK_at (Wp.ret ?_))
  refine endK_retn [Value.bool false] (Value.bool false) (by kernel_rfl) (by kernel_rfl) ?_
  exact lentSame [st1, ar1, ⟨122, true, (wB T h k)⟩, ⟨5, true, dC D T th⟩, ⟨4, true, bC T th⟩, ⟨24, true, (gc p)⟩, ⟨24, true, zc⟩] (pre7 ⟨by kernel_rfl, by kernel_rfl⟩ ⟨by kernel_rfl, by kernel_rfl⟩ ⟨by kernel_rfl, by kernel_rfl⟩ ⟨by kernel_rfl, okCs_flat (dC_flat _ _ _)⟩ ⟨by kernel_rfl, okCs_flat (bC_flat _ _)⟩ ⟨by kernel_rfl, by kernel_rfl⟩ ⟨by kernel_rfl, by kernel_rfl⟩) (.w (.un rfl rfl))
theorem idx82_some (T : Nat) (D : ByteArray) (th : Nat → Bool) (h k p : Gr) (hT2 : T ≤ 4000) (m : Nat) (hm : m < T) (hm2 : th m = false) (hall : ∀ i, i < m → th i = true) : SCall E 82 [.slice (some ⟨4, 0, none⟩) T T, .bool false] (heapOf [st1, ar1, ⟨122, true, (wB T h k)⟩, ⟨5, true, dC D T th⟩, ⟨4, true, bC T th⟩, ⟨24, true, (gc p)⟩, ⟨24, true, zc⟩]) (.int .i64 m) (heapOf [st1, ar1, ⟨122, true, (wB T h k)⟩, ⟨5, true, dC D T th⟩, ⟨4, true, bC T th⟩, ⟨24, true, (gc p)⟩, ⟨24, true, zc⟩]) := by
  refine SCall.enterL f82 rfl (of_decide_eq_true (by kernel_rfl)) (by kernel_rfl) (by kernel_rfl) (Nat.le_refl _) ?_
  refine Wp.seq (Wp.text ?_)
  refine kp 4 (.int IntKind.i64 0) ?_
  refine WpOps.nil (thenK_at (Wp.seq (Wp.seq (Wp.text ?_))))
  refine kp 6 (.slice (some ⟨4, 0, none⟩) T T) ?_
  refine kp 7 (.int IntKind.i64 (↑T : Int)) ?_
  refine kp 8 (.int IntKind.i64 0) ?_
  refine WpOps.nil (thenK_at (Wp.block ?_))
  refine Wp.loop (G := Nat) (fun i => layj [(0, .slice (some ⟨4, 0, none⟩) T T), (1, .bool false), (7, .int .i64 T), (8, .int .i64 i)]) (fun _ => heapOf [st1, ar1, ⟨122, true, (wB T h k)⟩, ⟨5, true, dC D T th⟩, ⟨4, true, bC T th⟩, ⟨24, true, (gc p)⟩, ⟨24, true, zc⟩]) (fun i => T - i) (fun i => i ≤ m) 0
    (View.same [st1, ar1, ⟨122, true, (wB T h k)⟩, ⟨5, true, dC D T th⟩, ⟨4, true, bC T th⟩, ⟨24, true, (gc p)⟩, ⟨24, true, zc⟩] _ (Nat.le_refl _) (pre7 ⟨by kernel_rfl, by kernel_rfl⟩ ⟨by kernel_rfl, by kernel_rfl⟩ ⟨by kernel_rfl, by kernel_rfl⟩ ⟨by kernel_rfl, okCs_flat (dC_flat _ _ _)⟩ ⟨by kernel_rfl, okCs_flat (bC_flat _ _)⟩ ⟨by kernel_rfl, by kernel_rfl⟩ ⟨by kernel_rfl, by kernel_rfl⟩) ⟨⟨by kernel_rfl, by kernel_rfl⟩, ⟨by kernel_rfl, rfl⟩, ⟨by kernel_rfl, rfl⟩, ⟨by kernel_rfl, rfl⟩, trivial⟩) (Nat.zero_le _) ?_
  intro i hi
  have d1 : decide ((i : Int) < T) = true := decide_eq_true (by omega)
  have g1 : 0 ≤ (i : Int) ∧ (i : Int) < T := by omega
  by_cases hlt : i < m
  · have u1 : (bC T th)[0 + (i : Int).toNat * 1]? = some (.bool true) := by
      rw [Int.toNat_natCast, Nat.zero_add, Nat.mul_one, bC_at th (by omega), hall i hlt]
    refine Wp.seq (Wp.text ?_)
    refine kp 9 (.bool true) ?_ (hop := fun _ => by_fact d1)
    refine WpOps.nil (thenK_at (Wp.seq (on' (Wp.skip (thenK_at (Wp.seq (Wp.block (Wp.seq (Wp.text ?_)))))))))
    refine kp 10 (.int IntKind.i64 (↑i : Int)) ?_
    refine kp 5 (.int IntKind.i64 (↑i : Int)) ?_
    refine WpOps.nil (thenK_at (Wp.seq (Wp.text ?_)))
    refine kp 11 (.bool false) ?_
    refine kp 12 (.slice (some ⟨4, 0, none⟩) T T) ?_
    refine kp 13 (.int IntKind.i64 (↑i : Int)) ?_
    refine kp 14 (.pointer (some (Addr.mk 4 (0 + Int.toNat (↑i : Int) * 1) none))) ?_ (hop := fun _ => o_indexAddr (a := (↑i : Int)) (bl := 4) (off := 0) (size := 1) 4 (T) g1)
    refine kp 15 (.bool true) ?_ (hop := fun _ => o_load1 (4) (0 + Int.toNat (↑i : Int) * 1) u1)
    refine kp 16 (.bool false) ?_
    refine WpOps.nil (thenK_at (off' (Wp.skip (blockK_norm (thenK_at (Wp.text ?_))))))
    refine kp 18 (.int IntKind.i64 (IntKind.wrap .i64 ((↑i : Int) + 1))) ?_
    refine kp 8 (.int IntKind.i64 (IntKind.wrap .i64 ((↑i : Int) + 1))) ?_
    refine WpOps.nil (thenK_at ?_)
    exact ⟨i + 1, by omega, by omega, View.same [st1, ar1, ⟨122, true, (wB T h k)⟩, ⟨5, true, dC D T th⟩, ⟨4, true, bC T th⟩, ⟨24, true, (gc p)⟩, ⟨24, true, zc⟩] _ (Nat.le_refl _) (pre7 ⟨by kernel_rfl, by kernel_rfl⟩ ⟨by kernel_rfl, by kernel_rfl⟩ ⟨by kernel_rfl, by kernel_rfl⟩ ⟨by kernel_rfl, okCs_flat (dC_flat _ _ _)⟩ ⟨by kernel_rfl, okCs_flat (bC_flat _ _)⟩ ⟨by kernel_rfl, by kernel_rfl⟩ ⟨by kernel_rfl, by kernel_rfl⟩) ⟨⟨by kernel_rfl, by kernel_rfl⟩, ⟨by kernel_rfl, rfl⟩, ⟨by kernel_rfl, rfl⟩, ⟨congrArg (Value.int .i64) (wr _ (by omega) (by omega)), rfl⟩, trivial⟩⟩
  · obtain rfl : i = m := by omega
    have u1 : (bC T th)[0 + (i : Int).toNat * 1]? = some (.bool false) := by
      rw [Int.toNat_natCast, Nat.zero_add, Nat.mul_one, bC_at th hm, hm2]
    refine Wp.seq (Wp.text ?_)
    refine kp 9 (.bool true) ?_ (hop := fun _ => by_fact d1)
    refine WpOps.nil (thenK_at (Wp.seq (on' (Wp.skip (thenK_at (Wp.seq (Wp.block (Wp.seq (Wp.text ?_)))))))))
    refine kp 10 (.int IntKind.i64 (↑i : Int)) ?_
    refine kp 5 (.int IntKind.i64 (↑i : Int)) ?_
    refine WpOps.nil (thenK_at (Wp.seq (Wp.text ?_)))
    refine kp 11 (.bool false) ?_
    refine kp 12 (.slice (some ⟨4, 0, none⟩) T T) ?_
    refine kp 13 (.int IntKind.i64 (↑i : Int)) ?_
    refine kp 14 (.pointer (some (Addr.mk 4 (0 + Int.toNat (↑i : Int) * 1) none))) ?_ (hop := fun _ => o_indexAddr (a := (↑i : Int)) (bl := 4) (off := 0) (size := 1) 4 (T) g1)
    refine kp 15 (.bool false) ?_ (hop := fun _ => o_load1 (4) (0 + Int.toNat (↑i : Int) * 1) u1)
    refine kp 16 (.bool true) ?_
    refine WpOps.nil (thenK_at (on' (Wp.seq (Wp.text ?_))))
    refine kp 17 (.int IntKind.i64 (↑i : Int)) ?_
    refine kp 4 (.int IntKind.i64 (↑i : Int)) ?_
    refine WpOps.nil (thenK_at (Wp.ret (blockK_ret (thenK_ret (thenK_ret (blockK_ret (thenK_ret ?_)))))))
    refine endK_retn [Value.int IntKind.i64 (↑i : Int)] (Value.int IntKind.i64 (↑i : Int)) (by kernel_rfl) (by kernel_rfl) ?_
    exact lentSame [st1, ar1, ⟨122, true, (wB T h k)⟩, ⟨5, true, dC D T th⟩, ⟨4, true, bC T th⟩, ⟨24, true, (gc p)⟩, ⟨24, true, zc⟩] (pre7 ⟨by kernel_rfl, by kernel_rfl⟩ ⟨by kernel_rfl, by kernel_rfl⟩ ⟨by kernel_rfl, by kernel_rfl⟩ ⟨by kernel_rfl, okCs_flat (dC_flat _ _ _)⟩ ⟨by kernel_rfl, okCs_flat (bC_flat _ _)⟩ ⟨by kernel_rfl, by kernel_rfl⟩ ⟨by kernel_rfl, by kernel_rfl⟩) (.w (.un rfl rfl))
theorem cont66_some (T : Nat) (D : ByteArray) (th : Nat → Bool) (h k p : Gr) (hT2 : T ≤ 4000) (m : Nat) (hm : m < T) (hm2 : th m = false) (hall : ∀ i, i < m → th i = true) : SCall E 66 [.slice (some ⟨4, 0, none⟩) T T, .bool false] (heapOf [st1, ar1, ⟨122, true, (wB T h k)⟩, ⟨5, true, dC D T th⟩, ⟨4, true, bC T th⟩, ⟨24, true, (gc p)⟩, ⟨24, true, zc⟩]) (.bool true) (heapOf [st1, ar1, ⟨122, true, (wB T h k)⟩, ⟨5, true, dC D T th⟩, ⟨4, true, bC T th⟩, ⟨24, true, (gc p)⟩, ⟨24, true, zc⟩]) := by
  refine SCall.enterL f66 rfl (of_decide_eq_true (by kernel_rfl)) (by kernel_rfl) (by kernel_rfl) (Nat.le_refl _) ?_
  have c1 := idx82_some T D th h k p hT2 m hm hm2 hall
  have d1 : decide ((m : Int) ≥ 0) = true := decide_eq_true (by omega)
  refine Wp.seq (Wp.text ?_)
  refine kp 4 (.bool false) ?_
  refine WpOps.nil (thenK_at (Wp.seq (Wp.text ?_)))
  refine kp 5 (.slice (some ⟨4, 0, none⟩) T T) ?_
  refine kp 6 (.bool false) ?_
  refine cl 7 82 [Value.slice (some ⟨4, 0, none⟩) T T, Value.bool false] ?_
  refine WpCall.enterL c1 rfl ?_
  refine kp 8 (.bool (decide ((↑m : Int) ≥ 0))) ?_
  refine kp 4 (.bool (decide ((↑m : Int) ≥ 0))) ?_
  refine WpOps.nil (thenK_at (Wp.ret ?_))
  refine endK_retn [Value.bool (decide ((↑m : Int) ≥ 0))] (Value.bool (decide ((↑m : Int) ≥ 0))) (by kernel_rfl) (by kernel_rfl) ?_
  exact lentSame [st1, ar1, ⟨122, true, (wB T h k)⟩, ⟨5, true, dC D T th⟩, ⟨4, true, bC T th⟩, ⟨24, true, (gc p)⟩, ⟨24, true, zc⟩] (pre7 ⟨by kernel_rfl, by kernel_rfl⟩ ⟨by kernel_rfl, by kernel_rfl⟩ ⟨by kernel_rfl, by kernel_rfl⟩ ⟨by kernel_rfl, okCs_flat (dC_flat _ _ _)⟩ ⟨by kernel_rfl, okCs_flat (bC_flat _ _)⟩ ⟨by kernel_rfl, by kernel_rfl⟩ ⟨by kernel_rfl, by kernel_rfl⟩) (.w (.un rfl rfl))
theorem f67 : E.funcs 67 = some Try.f67 := by kernel_rfl
theorem del67 (T : Nat) (D : ByteArray) (th : Nat → Bool) (h k p : Gr) : SCall E 67 [.slice (some ⟨1, 0, none⟩) 1 1, .int .i64 0, .int .i64 1] (heapOf [st1, ar1, ⟨122, true, (wB T h k)⟩, ⟨5, true, dC D T th⟩, ⟨4, true, bC T th⟩, ⟨24, true, (gc p)⟩, ⟨24, true, zc⟩]) (.slice (some ⟨1, 0, none⟩) 0 1) (heapOf [st1, ⟨119, true, [.pointer none]⟩, ⟨122, true, (wB T h k)⟩, ⟨5, true, dC D T th⟩, ⟨4, true, bC T th⟩, ⟨24, true, (gc p)⟩, ⟨24, true, zc⟩]) := by
  refine SCall.enterL f67 rfl (of_decide_eq_true (by kernel_rfl)) (by kernel_rfl) (by kernel_rfl) (Nat.le_refl _) ?_
  refine Wp.seq (Wp.text ?_)
  refine kp 6 (.slice none 0 0) ?_
  refine WpOps.nil (thenK_at (Wp.seq (Wp.text ?_)))
  refine kp 8 (.slice (some ⟨1, 0, none⟩) 1 1) ?_
  refine kp 9 (.int IntKind.i64 0) ?_
  refine kp 10 (.int IntKind.i64 1) ?_
  refine kp 11 (.slice (some ⟨1, 0, none⟩) 1 1) ?_
  refine kp 12 (.int IntKind.i64 (↑1 : Int)) ?_
  refine kp 13 (.slice (some ⟨1, 0, none⟩) 1 1) ?_
  refine WpOps.nil (thenK_at (Wp.seq (Wp.seq (Wp.text ?_))))
  refine kp 14 (.int IntKind.i64 0) ?_
  refine kp 15 (.int IntKind.i64 1) ?_
  refine kp 16 (.bool false) ?_
  refine WpOps.nil (thenK_at (off' (Wp.skip (thenK_at (Wp.seq (Wp.text ?_))))))
  refine kp 18 (.slice (some ⟨1, 0, none⟩) 1 1) ?_
  refine kp 19 (.int IntKind.i64 (↑1 : Int)) ?_
  refine kp 7 (.int IntKind.i64 (↑1 : Int)) ?_
  refine WpOps.nil (thenK_at (Wp.seq ?_))
  refine Wp.region (by kernel_rfl) ?_
  refine kp 20 (.slice (some ⟨1, 0, none⟩) 1 1) ?_
  refine kp 21 (.int IntKind.i64 0) ?_
  refine kp 22 (.slice (some ⟨1, 0, none⟩) 0 1) ?_
  refine kp 23 (.slice (some ⟨1, 0, none⟩) 1 1) ?_
  refine kp 24 (.int IntKind.i64 1) ?_
  refine kp 25 (.slice (some ⟨1, 1, none⟩) 0 0) ?_
  refine kp 26 (.slice (some ⟨1, 0, none⟩) 0 1) ?_
  refine kp 0 (.slice (some ⟨1, 0, none⟩) 0 1) ?_
  refine WpOps.nil (thenK_at (Wp.seq (Wp.text ?_)))
  refine kp 27 (.slice (some ⟨1, 0, none⟩) 0 1) ?_
  refine kp 28 (.slice (some ⟨1, 0, none⟩) 0 1) ?_
  refine kp 29 (.int IntKind.i64 (↑0 : Int)) ?_
  refine kp 30 (.int IntKind.i64 (↑1 : Int)) ?_
  refine kp 31 (.slice (some ⟨1, 0, none⟩) 1 1) ?_
  refine ld (.tuple #[]) (1) (Blk.mk 119 true [Value.pointer none]) ?_
  refine WpOps.nil (thenK_at (Wp.seq (Wp.text ?_)))
  refine kp 32 (.slice (some ⟨1, 0, none⟩) 0 1) ?_
  refine kp 6 (.slice (some ⟨1, 0, none⟩) 0 1) ?_
  refine WpOps.nil (thenK_at (Wp.ret ?_))
  refine endK_retn [Value.slice (some (Addr.mk 1 0 none)) 0 1] (Value.slice (some (Addr.mk 1 0 none)) 0 1) (by kernel_rfl) (by kernel_rfl) ?_
  exact lentSame [st1, ⟨119, true, [.pointer none]⟩, ⟨122, true, (wB T h k)⟩, ⟨5, true, dC D T th⟩, ⟨4, true, bC T th⟩, ⟨24, true, (gc p)⟩, ⟨24, true, zc⟩] (pre7 ⟨by kernel_rfl, by kernel_rfl⟩ ⟨by kernel_rfl, by kernel_rfl⟩ ⟨by kernel_rfl, by kernel_rfl⟩ ⟨by kernel_rfl, okCs_flat (dC_flat _ _ _)⟩ ⟨by kernel_rfl, okCs_flat (bC_flat _ _)⟩ ⟨by kernel_rfl, by kernel_rfl⟩ ⟨by kernel_rfl, by kernel_rfl⟩) (.w (.un rfl rfl))
theorem no60N (T : Nat) (D : ByteArray) (th : Nat → Bool) (k p : Gr) : SCall E 60 [.pointer (some ⟨0, 0, none⟩)] (heapOf [st1, ar1, ⟨122, true, (wN T k)⟩, ⟨5, true, dC D T th⟩, ⟨4, true, bC T th⟩, ⟨24, true, (gc p)⟩, ⟨24, true, zc⟩]) (.bool false) (heapOf [st1, ar1, ⟨122, true, (wN T k)⟩, ⟨5, true, dC D T th⟩, ⟨4, true, bC T th⟩, ⟨24, true, (gc p)⟩, ⟨24, true, zc⟩]) := SCall.closed 60 (by kernel_rfl)
theorem no60B (T : Nat) (D : ByteArray) (th : Nat → Bool) (h k p : Gr) : SCall E 60 [.pointer (some ⟨0, 0, none⟩)] (heapOf [st1, ar1, ⟨122, true, (wB T h k)⟩, ⟨5, true, dC D T th⟩, ⟨4, true, bC T th⟩, ⟨24, true, (gc p)⟩, ⟨24, true, zc⟩]) (.bool false) (heapOf [st1, ar1, ⟨122, true, (wB T h k)⟩, ⟨5, true, dC D T th⟩, ⟨4, true, bC T th⟩, ⟨24, true, (gc p)⟩, ⟨24, true, zc⟩]) := SCall.closed 60 (by kernel_rfl)
end Go.Proofs.Ytpkkcpglbjbgfaa.D
