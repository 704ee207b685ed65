/- Cut of the program; its pieces. -/
import Derived.Test.YtpkkcpglbjbgfaaFwLem
import Derived.Test.YtpkkcpglbjbgfaaF14e
import Derived.Test.YtpkkcpglbjbgfaaF14h
namespace Go.Proofs.Ytpkkcpglbjbgfaa.D
open Go.Fw Go.RowKit

theorem ok_own {g : Gr} (ok : OkGr g) : OkGr (ownG g) := by
  refine ⟨fun h => ok.fx ?_, fun h => ok.tx ?_, ok.fl, ok.tl⟩
  · simp only [ownG, nx] at h; split at h <;> omega
  · simp only [ownG, nx] at h; split at h <;> omega
theorem ok_piece {g : Gr} (ok : OkGr g) (s k : Nat) : OkGr (piece g s k) := ⟨(ok_own ok).fx, (ok_own ok).tx, ok.fl, ok.tl⟩
theorem many_le (g : Gr) (s : Nat) (hs : 0 < s) (hd : 0 < g.data.size) (hd2 : g.data.size ≤ 4000) : 0 < many g s ∧ many g s ≤ 4000 := by
  constructor
  · exact Nat.div_pos (by omega) hs
  · have : many g s * s ≤ g.data.size + s - 1 := Nat.div_mul_le_self _ _
    rcases Nat.lt_or_ge 4000 (many g s) with h | h
    · have h2 : 4001 * s ≤ many g s * s := Nat.mul_le_mul_right _ h
      have h3 : 4000 * 1 ≤ 4000 * s := Nat.mul_le_mul_left _ hs
      omega
    · exact h
theorem cutAll_some {g : Gr} {size : Int} {l : List Gr} (ok : OkGr g) (h : cutAll g size = some l) : 0 < l.length ∧ l.length ≤ 4000 ∧ ∀ p ∈ l, OkGr p := by
  simp only [cutAll, cutL] at h
  split at h
  · rename_i hv
    have hsz := okG_size hv.1
    split at h
    · cases h
      refine ⟨by simp, by simp, fun p hp => ?_⟩
      obtain rfl := List.mem_singleton.1 hp
      exact ok_own ok
    · rename_i hlen
      split at h
      · rename_i hm
        cases h
        have hi := hv.2
        simp only [inR, Bool.cond_false_right, Bool.and_eq_true, decide_eq_true_eq] at hi
        have := many_le g (s8 size) (by omega) (by omega) hsz
        rw [pcs_len]
        refine ⟨this.1, this.2, fun p hp => ?_⟩
        obtain ⟨k, _, rfl⟩ := List.mem_map.1 hp
        exact ok_piece ok _ _
      · cases h
  · cases h

theorem f14 : E.funcs 14 = some Try.f14 := by kernel_rfl
theorem Cut14 (g : Gr) (ok : OkGr g) (size : Int) : Fun E 14 [gv g, .int .i64 size] (errV 24 (cutAll g size)) := by
  have v := valid20 g (by have := ok.fl; omega) (by have := ok.tl; omega)
  have i1 := in44
  cases ho : okG g with
  | false =>
    simp only [cutAll, ho, Bool.false_eq_true, false_and, if_false]
    refine Fun.of f14 rfl (of_decide_eq_true (by kernel_rfl)) (by kernel_rfl) ?_
    have n1 : (!okG g) = true := by rw [ho]; rfl
    refine Wp.seq (Wp.text ?_)
    refine md 2 (.pointer (some ⟨0, 0, none⟩)) (Blk.mk 24 true (gc g)) ?_
    refine kp 4 (.slice none 0 0) ?_
    refine kp 5 (.int IntKind.i64 0) ?_
    refine WpOps.nil (thenK_at (Wp.seq (Wp.seq (Wp.text ?_))))
    refine kp 8 (gv g) ?_
    refine fr 9 20 [gv g] ?_
    refine WpFun.of (v) ?_
    refine kp 10 (.bool true) ?_ (hop := fun _ => by_fact n1)
    refine kp 11 (.bool true) ?_
    refine um 12 ?_
    refine um 13 ?_
    refine um 14 ?_
    refine kp 15 (.bool true) ?_
    refine WpOps.nil (thenK_at (on' (Wp.seq (Wp.text ?_))))
    refine kp 4 (.slice none 0 0) ?_
    refine kp 5 (.int IntKind.i64 1) ?_
    refine WpOps.nil (thenK_at (Wp.ret (thenK_ret ?_)))
    refine endK_retn [Value.slice none 0 0, Value.int IntKind.i64 1] (Value.tuple #[Value.slice none 0 0, Value.int IntKind.i64 1]) (by kernel_rfl) (by kernel_rfl) ?_
    kernel_rfl
  | true =>
    have n1 : (!okG g) = false := by rw [ho]; rfl
    cases hi : inR size 1 4000 with
    | false =>
      simp only [cutAll, hi, Bool.false_eq_true, and_false, if_false]
      refine Fun.of f14 rfl (of_decide_eq_true (by kernel_rfl)) (by kernel_rfl) ?_
      have n2 : (!inR size 1 4000) = true := by rw [hi]; rfl
      refine Wp.seq (Wp.text ?_)
      refine md 2 (.pointer (some ⟨0, 0, none⟩)) (Blk.mk 24 true (gc g)) ?_
      refine kp 4 (.slice none 0 0) ?_
      refine kp 5 (.int IntKind.i64 0) ?_
      refine WpOps.nil (thenK_at (Wp.seq (Wp.seq (Wp.text ?_))))
      refine kp 8 (gv g) ?_
      refine fr 9 20 [gv g] ?_
      refine WpFun.of (v) ?_
      refine kp 10 (.bool false) ?_ (hop := fun _ => by_fact n1)
      refine kp 11 (.bool false) ?_
      refine kp 12 (.int IntKind.i64 size) ?_
      refine fr 13 44 [Value.int .i64 size, Value.int .i64 1, Value.int .i64 4000] ?_
      refine WpFun.of (i1 _ _ _) ?_
      refine kp 14 (.bool true) ?_ (hop := fun _ => by_fact n2)
      refine kp 15 (.bool true) ?_
      refine WpOps.nil (thenK_at (on' (Wp.seq (Wp.text ?_))))
      refine kp 4 (.slice none 0 0) ?_
      refine kp 5 (.int IntKind.i64 1) ?_
      refine WpOps.nil (thenK_at (Wp.ret (thenK_ret ?_)))
      refine endK_retn [Value.slice none 0 0, Value.int IntKind.i64 1] (Value.tuple #[Value.slice none 0 0, Value.int IntKind.i64 1]) (by kernel_rfl) (by kernel_rfl) ?_
      kernel_rfl
    | true =>
      have n2 : (!inR size 1 4000) = false := by rw [hi]; rfl
      have hi2 := hi
      simp only [inR, Bool.cond_false_right, Bool.and_eq_true, decide_eq_true_eq] at hi2
      have c := cut45 g ok size hi2.1 hi2.2 (okG_size ho)
      rw [cutAll, if_pos ⟨ho, hi⟩]
      cases hc : cutL g size with
      | none =>
        rw [hc] at c
        refine Fun.of f14 rfl (of_decide_eq_true (by kernel_rfl)) (by kernel_rfl) ?_
        refine Wp.seq (Wp.text ?_)
        refine md 2 (.pointer (some ⟨0, 0, none⟩)) (Blk.mk 24 true (gc g)) ?_
        refine kp 4 (.slice none 0 0) ?_
        refine kp 5 (.int IntKind.i64 0) ?_
        refine WpOps.nil (thenK_at (Wp.seq (Wp.seq (Wp.text ?_))))
        refine kp 8 (gv g) ?_
        refine fr 9 20 [gv g] ?_
        refine WpFun.of (v) ?_
        refine kp 10 (.bool false) ?_ (hop := fun _ => by_fact n1)
        refine kp 11 (.bool false) ?_
        refine kp 12 (.int IntKind.i64 size) ?_
        refine fr 13 44 [Value.int .i64 size, Value.int .i64 1, Value.int .i64 4000] ?_
        refine WpFun.of (i1 _ _ _) ?_
        refine kp 14 (.bool false) ?_ (hop := fun _ => by_fact n2)
        refine kp 15 (.bool false) ?_
        refine WpOps.nil (thenK_at (off' (Wp.skip (thenK_at (Wp.seq (Wp.text ?_))))))
        refine kp 17 (gv g) ?_
        refine kp 18 (.int IntKind.i64 size) ?_
        refine fr 19 45 [gv g, Value.int .i64 size] ?_
        refine WpFun.of (c) ?_
        refine kp 16 (.tuple #[Value.slice none 0 0, Value.bool false]) ?_
        refine kp 20 (.slice none 0 0) ?_
        refine kp 21 (.bool false) ?_
        refine kp 6 (.slice none 0 0) ?_
        refine kp 7 (.bool false) ?_
        refine WpOps.nil (thenK_at (Wp.seq (Wp.seq (Wp.text ?_))))
        refine kp 22 (.bool false) ?_
        refine kp 23 (.bool true) ?_
        refine WpOps.nil (thenK_at (on' (Wp.seq (Wp.text ?_))))
        refine kp 4 (.slice none 0 0) ?_
        refine kp 5 (.int IntKind.i64 1) ?_
        refine WpOps.nil (thenK_at (Wp.ret (thenK_ret ?_)))
        refine endK_retn [Value.slice none 0 0, Value.int IntKind.i64 1] (Value.tuple #[Value.slice none 0 0, Value.int IntKind.i64 1]) (by kernel_rfl) (by kernel_rfl) ?_
        kernel_rfl
      | some l =>
        rw [hc] at c
        refine Fun.of f14 rfl (of_decide_eq_true (by kernel_rfl)) (by kernel_rfl) ?_
        refine Wp.seq (Wp.text ?_)
        refine md 2 (.pointer (some ⟨0, 0, none⟩)) (Blk.mk 24 true (gc g)) ?_
        refine kp 4 (.slice none 0 0) ?_
        refine kp 5 (.int IntKind.i64 0) ?_
        refine WpOps.nil (thenK_at (Wp.seq (Wp.seq (Wp.text ?_))))
        refine kp 8 (gv g) ?_
        refine fr 9 20 [gv g] ?_
        refine WpFun.of (v) ?_
        refine kp 10 (.bool false) ?_ (hop := fun _ => by_fact n1)
        refine kp 11 (.bool false) ?_
        refine kp 12 (.int IntKind.i64 size) ?_
        refine fr 13 44 [Value.int .i64 size, Value.int .i64 1, Value.int .i64 4000] ?_
        refine WpFun.of (i1 _ _ _) ?_
        refine kp 14 (.bool false) ?_ (hop := fun _ => by_fact n2)
        refine kp 15 (.bool false) ?_
        refine WpOps.nil (thenK_at (off' (Wp.skip (thenK_at (Wp.seq (Wp.text ?_))))))
        refine kp 17 (gv g) ?_
        refine kp 18 (.int IntKind.i64 size) ?_
        refine fr 19 45 [gv g, Value.int .i64 size] ?_
        refine WpFun.of (c) ?_
        refine kp 16 (.tuple #[grams 24 l, Value.bool true]) ?_
        refine kp 20 (.iface 24 (Value.iface (List.length l) (Value.iface 0 (Value.agg (List.toArray (cellsG l)))))) ?_
        refine kp 21 (.bool true) ?_
        refine kp 6 (.iface 24 (Value.iface (List.length l) (Value.iface 0 (Value.agg (List.toArray (cellsG l)))))) ?_
        refine kp 7 (.bool true) ?_
        refine WpOps.nil (thenK_at (Wp.seq (Wp.seq (Wp.text ?_))))
        refine kp 22 (.bool true) ?_
        refine kp 23 (.bool false) ?_
        refine WpOps.nil (thenK_at (off' (Wp.skip (thenK_at (Wp.seq (Wp.text ?_))))))
        refine kp 24 (.iface 24 (Value.iface (List.length l) (Value.iface 0 (Value.agg (List.toArray (cellsG l)))))) ?_
        refine kp 4 (.iface 24 (Value.iface (List.length l) (Value.iface 0 (Value.agg (List.toArray (cellsG l)))))) ?_
        refine kp 5 (.int IntKind.i64 0) ?_
        refine WpOps.nil (thenK_at (Wp.ret ?_))
        refine endK_retn [Value.iface 24 (Value.iface (List.length l) (Value.iface 0 (Value.agg (List.toArray (cellsG l))))), Value.int IntKind.i64 0] (Value.tuple #[Value.iface 24 (Value.iface (List.length l) (Value.iface 0 (Value.agg (List.toArray (cellsG l))))), Value.int IntKind.i64 0]) (by kernel_rfl) (by kernel_rfl) ?_
        kernel_rfl
theorem okG_parts {g : Gr} (h : okG g = true) : 0 ≤ g.total ∧ g.total ≤ 4000 ∧ 0 ≤ g.at' ∧ g.at' ≤ g.total ∧ (g.data.size : Int) ≤ g.total - g.at' := by
  simp only [okG, Bool.and_eq_true, decide_eq_true_eq] at h
  obtain ⟨⟨⟨⟨_, h1⟩, h2⟩, h3⟩, _⟩ := h
  simp only [inR, Bool.cond_false_right, Bool.and_eq_true, decide_eq_true_eq] at h1 h2
  rw [wr _ (by omega) (by omega)] at h3
  exact ⟨h1.1, h1.2, h2.1, h2.2, h3⟩

section
variable {g : Gr} {s k : Nat} (hv : okG g = true) (hs0 : 0 < s) (hs2 : s ≤ 4000) (hk : k * s < g.data.size)
include hv hk
theorem piece_at : (piece g s k).at' = g.at' + (k * s : Nat) := by
  obtain ⟨h1, h2, h3, h4, h5⟩ := okG_parts hv
  show IntKind.i64.wrap _ = _
  rw [wr _ (by omega) (by omega)]
include hs2
theorem piece_data : (piece g s k).data = g.data.extract (k * s) (min (k * s + s) g.data.size) := by
  have hd := okG_size hv
  show g.data.extract _ _ = _
  rw [hi_eq g s k hs2 hk hd]
  rfl
theorem piece_size : (piece g s k).data.size = min (k * s + s) g.data.size - k * s := by
  rw [piece_data hv hs2 hk, ByteArray.size_extract]
  omega
theorem piece_ok : okG (piece g s k) = true := by
  obtain ⟨h1, h2, h3, h4, h5⟩ := okG_parts hv
  have ha := piece_at hv hk
  have hz := piece_size hv hs2 hk
  have hv2 := hv
  simp only [okG, Bool.and_eq_true, decide_eq_true_eq] at hv2 ⊢
  obtain ⟨⟨⟨⟨⟨⟨⟨⟨⟨a1, a2⟩, a3⟩, a4⟩, a5⟩, a6⟩, a7⟩, a8⟩, a9⟩, a10⟩ := hv2
  have ht : (piece g s k).total = g.total := rfl
  refine ⟨⟨⟨⟨⟨⟨⟨⟨⟨a1, a2⟩, a3⟩, a4⟩, a5⟩, a6⟩, a7⟩, ?_⟩, ?_⟩, ?_⟩
  · rw [ha, ht]
    simp only [inR, Bool.cond_false_right, Bool.and_eq_true, decide_eq_true_eq]
    omega
  · rw [ha, ht, wr _ (by omega) (by omega), hz]
    omega
  · exact beq_self_eq_true _
end

end Go.Proofs.Ytpkkcpglbjbgfaa.D
