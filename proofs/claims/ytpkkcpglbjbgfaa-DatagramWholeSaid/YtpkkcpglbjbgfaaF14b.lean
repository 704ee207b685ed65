/- Addresses: slices.IndexFunc, ContainsFunc, prefix, Valid. -/
import Derived.Test.YtpkkcpglbjbgfaaFwLem
import Derived.Test.YtpkkcpglbjbgfaaF14a
namespace Go.Proofs.Ytpkkcpglbjbgfaa.D
open Go.Fw Go.RowKit

/-- A row of ints. -/
def sl (x : Nat) (l : List Int) : Value := FS 3 l.length x (l.map fun n => Value.int .i64 n).toArray
def bad (n : Int) : Bool := cond (decide (n < 0)) true (decide (n > 999))
theorem sl_get (l : List Int) (i : Nat) (hi : i < l.length) : (l.map fun n => Value.int .i64 n)[i]? = some (.int .i64 (l.getD i 0)) := by
  simp [List.getElem?_map, List.getElem?_eq_getElem hi]

theorem sl_at (l : List Int) (i : Nat) (hi : i < l.length) : (l.map fun n => Value.int .i64 n)[((i : Int)).toNat * 1]? = some (.int .i64 (l.getD i 0)) := by
  rw [Int.toNat_natCast, Nat.mul_one]; exact sl_get l i hi

theorem f92 : E.funcs 92 = some Try.f92 := by kernel_rfl
theorem f98 : E.funcs 98 = some Try.f98 := by kernel_rfl
theorem bad92 (n : Int) : Fun E 92 [.int .i64 n] (.bool (bad n)) := by
  refine Fun.of f92 rfl (of_decide_eq_true (by kernel_rfl)) rfl ?_
  refine Wp.seq (Wp.text ?_)
  refine kp 2 (.bool false) ?_
  refine WpOps.nil (thenK_at (Wp.seq (Wp.text ?_)))
  refine kp 3 (.int IntKind.i64 n) ?_
  refine kp 4 (.bool (decide (n < 0))) ?_
  refine kp 5 (.bool (decide (n < 0))) ?_
  refine WpOps.fork 3 (decide (n < 0)) [6, 7, 8] 8 (true) (decide (n > 999)) (by kernel_rfl) (fun g8 => ?_) (fun g8 => ?_) (fun f_8 b8 hb8 => ?_)
  · refine um 6 ?_ (hw := wants_tf g8)
    refine um 7 ?_ (hw := wants_tf g8)
    refine kp 8 (.bool true) ?_ (hop := fun _ => o_pickT g8)
    refine WpOps.nil ?_
    exact ⟨rfl, (.upd rfl (.upd rfl (.upd rfl .refl))), (by kernel_rfl)⟩
  · refine kp 6 (.int IntKind.i64 n) ?_ (hw := wants_ff g8)
    refine kp 7 (.bool (decide (n > 999))) ?_ (hw := wants_ff g8)
    refine kp 8 (.bool (decide (n > 999))) ?_ (hop := fun _ => o_pickF g8)
    refine WpOps.nil ?_
    exact ⟨rfl, (.upd rfl (.upd rfl (.upd rfl .refl))), (by kernel_rfl)⟩
  refine kp 2 (.bool b8) ?_
  refine WpOps.nil (thenK_at (Wp.ret ?_))
  refine endK_retn [Value.bool b8] (Value.bool b8) (by kernel_rfl) (by kernel_rfl) ?_
  subst_vars
  rfl

/-- The first that is bad, -1 if there is none. -/
def firstBad (l : List Int) : Int := match l.findIdx? bad with
  | some i => i
  | none => -1

theorem index92 (x : Nat) (l : List Int) (hl : l.length ≤ 9223372036854775806) : Fun E 98 [sl x l, .func (.func 92) #[] #[]] (.int .i64 (firstBad l)) := by
  refine Fun.of f98 rfl (of_decide_eq_true (by kernel_rfl)) rfl ?_
  refine Wp.seq (Wp.text ?_)
  refine kp 4 (.int IntKind.i64 0) ?_
  refine WpOps.nil (thenK_at (Wp.seq (Wp.seq (Wp.text ?_))))
  refine kp 6 (.iface 3 (Value.iface (List.length l) (Value.iface x (Value.agg (List.toArray (List.map (fun n => Value.int .i64 n) l)))))) ?_
  refine kp 7 (.int IntKind.i64 (↑(List.length l) : Int)) ?_
  refine kp 8 (.int IntKind.i64 0) ?_
  refine WpOps.nil (thenK_at (Wp.block ?_))
  refine Wp.loop (G := Nat) (fun i => layj [(0, sl x l), (1, .func (.func 92) #[] #[]), (7, .int .i64 l.length), (8, .int .i64 i)]) (fun _ => heapOf []) (fun i => l.length - i) (fun i => i ≤ l.length ∧ ∀ j, j < i → bad (l.getD j 0) = false) 0
    (View.of [] [] _ List.nodup_nil rfl trivial ⟨⟨by kernel_rfl, rfl⟩, ⟨by kernel_rfl, rfl⟩, ⟨by kernel_rfl, rfl⟩, ⟨by kernel_rfl, rfl⟩, trivial⟩) ⟨Nat.zero_le _, fun j hj => absurd hj (Nat.not_lt_zero _)⟩ ?_
  rintro i ⟨hi, hp⟩
  refine Wp.seq (Wp.text ?_)
  refine kp 9 (.bool (decide ((↑i : Int) < (↑(List.length l) : Int)))) ?_
  refine WpOps.nil (thenK_at (Wp.seq ?_))
  refine Wp.split (decide ((↑i : Int) < (↑(List.length l) : Int))) (by kernel_rfl) (fun hc => ?_) (fun hc => ?_)
  · have hlt : (i : Int) < l.length := of_decide_eq_true hc
    have h0 : 0 ≤ (i : Int) ∧ (i : Int) < l.length := ⟨Int.natCast_nonneg _, hlt⟩
    have hv := sl_at l i (by omega)
    refine Wp.skip (thenK_at (Wp.seq (Wp.block (Wp.seq (Wp.text ?_)))))
    refine kp 10 (.int IntKind.i64 (↑i : Int)) ?_
    refine kp 5 (.int IntKind.i64 (↑i : Int)) ?_
    refine WpOps.nil (thenK_at (Wp.seq (Wp.text ?_)))
    refine kp 11 (.func (Fn.func 92) #[] #[]) ?_
    refine kp 12 (.iface 3 (Value.iface (List.length l) (Value.iface x (Value.agg (List.toArray (List.map (fun n => Value.int .i64 n) l)))))) ?_
    refine kp 13 (.int IntKind.i64 (↑i : Int)) ?_
    refine kp 14 (.iface 3 (Value.iface (Int.toNat (↑i : Int) * 1) (Value.agg (List.toArray (List.map (fun n => Value.int .i64 n) l))))) ?_ (hop := fun _ => o_indexI (e := 3) (size := 1) (a := (↑i : Int)) h0)
    refine kp 15 (.int IntKind.i64 (List.getD l i 0)) ?_ (hop := fun _ => o_loadI1 (Int.toNat (↑i : Int) * 1) hv)
    refine fr 16 92 [Value.int .i64 (List.getD l i 0)] ?_
    refine WpFun.of (bad92 _) ?_
    refine WpOps.nil (thenK_at ?_)
    refine Wp.split (bad (List.getD l i 0)) (by kernel_rfl) (fun hb => ?_) (fun hb => ?_)
    · refine Wp.seq (Wp.text ?_)
      refine kp 17 (.int IntKind.i64 (↑i : Int)) ?_
      refine kp 4 (.int IntKind.i64 (↑i : Int)) ?_
      refine WpOps.nil (thenK_at (Wp.ret (blockK_ret (thenK_ret (thenK_ret (blockK_ret (thenK_ret ?_)))))))
      refine endK_retn [Value.int IntKind.i64 (↑i : Int)] (Value.int IntKind.i64 (↑i : Int)) (by kernel_rfl) (by kernel_rfl) ?_
      have hf : firstBad l = i := by
        have : l.findIdx? bad = some i := by
          rw [List.findIdx?_eq_some_iff_getElem]
          refine ⟨by omega, ?_, fun j hj => ?_⟩
          · simpa [List.getElem?_eq_getElem (show i < l.length by omega)] using hb
          · have := hp j hj
            simpa [List.getElem?_eq_getElem (show j < l.length by omega)] using this
        simp only [firstBad, this]
      rw [hf]
      rfl
    · refine Wp.skip (blockK_norm (thenK_at (Wp.text ?_)))
      refine kp 18 (.int IntKind.i64 (IntKind.wrap .i64 ((↑i : Int) + 1))) ?_
      refine kp 8 (.int IntKind.i64 (IntKind.wrap .i64 ((↑i : Int) + 1))) ?_
      refine WpOps.nil (thenK_at ?_)
      refine ⟨i + 1, by omega, ⟨by omega, fun j hj => ?_⟩, View.of [] [] _ List.nodup_nil rfl trivial ⟨⟨by kernel_rfl, rfl⟩, ⟨by kernel_rfl, rfl⟩, ⟨by kernel_rfl, rfl⟩, ⟨congrArg (Value.int .i64) (wrap_i64 ((i : Int) + 1) (by omega) (by omega)), rfl⟩, trivial⟩⟩
      rcases Nat.lt_or_ge j i with h | h
      · exact hp j h
      · obtain rfl : j = i := by omega
        exact hb
  · refine Wp.exit (thenK_exit (thenK_exit (blockK_hit (thenK_at (Wp.seq (Wp.text ?_))))))
    refine kp 4 (.int IntKind.i64 (-1)) ?_
    refine WpOps.nil (thenK_at (Wp.ret ?_))
    refine endK_retn [Value.int IntKind.i64 (-1)] (Value.int IntKind.i64 (-1)) (by kernel_rfl) (by kernel_rfl) ?_
    have hf : firstBad l = -1 := by
      have hlen : ¬ ((i : Int) < l.length) := of_decide_eq_false hc
      have : l.findIdx? bad = none := by
        rw [List.findIdx?_eq_none_iff]
        intro v hv
        obtain ⟨j, hj, rfl⟩ := List.getElem_of_mem hv
        have := hp j (by omega)
        simpa [List.getElem?_eq_getElem hj] using this
      simp only [firstBad, this]
    rw [hf]
    rfl
theorem firstBad_neg (l : List Int) : decide (firstBad l ≥ 0) = l.any bad := by
  unfold firstBad
  split
  · rename_i i h
    rw [List.findIdx?_eq_some_iff_getElem] at h
    obtain ⟨hi, h1, _⟩ := h
    rw [show l.any bad = true from List.any_eq_true.2 ⟨_, List.getElem_mem hi, h1⟩]
    exact decide_eq_true (Int.natCast_nonneg _)
  · rename_i h
    rw [List.findIdx?_eq_none_iff] at h
    rw [show l.any bad = false by simpa using h]
    rfl

theorem f91 : E.funcs 91 = some Try.f91 := by kernel_rfl
theorem contains92 (x : Nat) (l : List Int) (hl : l.length ≤ 9223372036854775806) : Fun E 91 [sl x l, .func (.func 92) #[] #[]] (.bool (l.any bad)) := by
  refine Fun.of f91 rfl (of_decide_eq_true (by kernel_rfl)) rfl ?_
  refine Wp.seq (Wp.text ?_)
  refine kp 4 (.bool false) ?_
  refine WpOps.nil (thenK_at (Wp.seq (Wp.text ?_)))
  refine kp 5 (.iface 3 (Value.iface (List.length l) (Value.iface x (Value.agg (List.toArray (List.map (fun n => Value.int .i64 n) l)))))) ?_
  refine kp 6 (.func (Fn.func 92) #[] #[]) ?_
  refine fr 7 98 [Value.iface 3 (Value.iface (List.length l) (Value.iface x (Value.agg (List.toArray (List.map (fun n => Value.int .i64 n) l))))), Value.func (Fn.func 92) #[] #[]] ?_
  refine WpFun.of (index92 x l hl) ?_
  refine kp 8 (.bool (decide (firstBad l ≥ 0))) ?_
  refine kp 4 (.bool (decide (firstBad l ≥ 0))) ?_
  refine WpOps.nil (thenK_at (Wp.ret ?_))
  refine endK_retn [Value.bool (decide (firstBad l ≥ 0))] (Value.bool (decide (firstBad l ≥ 0))) (by kernel_rfl) (by kernel_rfl) ?_
  rw [firstBad_neg]
  rfl

/-- Is it a prefix; an address? -/
def isPre (l : List Int) : Bool := cond (decide ((l.length : Int) ≤ 10)) (!l.any bad) false
def isAddr (l : List Int) : Bool := cond (decide ((l.length : Int) > 0)) (isPre l) false

theorem f78 : E.funcs 78 = some Try.f78 := by kernel_rfl
theorem prefix78 (x : Nat) (l : List Int) (hl : l.length ≤ 9223372036854775806) : Fun E 78 [sl x l] (.bool (isPre l)) := by
  refine Fun.of f78 rfl (of_decide_eq_true (by kernel_rfl)) rfl ?_
  have h1 := contains92 x l hl
  refine Wp.seq (Wp.text ?_)
  refine kp 2 (.bool false) ?_
  refine WpOps.nil (thenK_at (Wp.seq (Wp.text ?_)))
  refine kp 3 (.iface 3 (Value.iface (List.length l) (Value.iface x (Value.agg (List.toArray (List.map (fun n => Value.int .i64 n) l)))))) ?_
  refine kp 4 (.int IntKind.i64 (↑(List.length l) : Int)) ?_
  refine kp 5 (.bool (decide ((↑(List.length l) : Int) ≤ 10))) ?_
  refine kp 6 (.bool (decide ((↑(List.length l) : Int) ≤ 10))) ?_
  refine WpOps.fork 4 (decide ((↑(List.length l) : Int) ≤ 10)) [7, 8, 9, 10] 10 (!List.any l bad) (false) (by kernel_rfl) (fun g10 => ?_) (fun g10 => ?_) (fun f_10 b10 hb10 => ?_)
  · refine kp 7 (.iface 3 (Value.iface (List.length l) (Value.iface x (Value.agg (List.toArray (List.map (fun n => Value.int .i64 n) l)))))) ?_ (hw := wants_tt g10)
    refine fr 8 91 [Value.iface 3 (Value.iface (List.length l) (Value.iface x (Value.agg (List.toArray (List.map (fun n => Value.int .i64 n) l))))), Value.func (Fn.func 92) #[] #[]] ?_ (hw := wants_tt g10)
    refine WpFun.of (h1) ?_
    refine kp 9 (.bool !List.any l bad) ?_ (hw := wants_tt g10)
    refine kp 10 (.bool !List.any l bad) ?_ (hop := fun _ => o_pickT g10)
    refine WpOps.nil ?_
    exact ⟨rfl, (.upd rfl (.upd rfl (.upd rfl (.upd rfl .refl)))), (by kernel_rfl)⟩
  · refine um 7 ?_ (hw := wants_ft g10)
    refine um 8 ?_ (hw := wants_ft g10)
    refine um 9 ?_ (hw := wants_ft g10)
    refine kp 10 (.bool false) ?_ (hop := fun _ => o_pickF g10)
    refine WpOps.nil ?_
    exact ⟨rfl, (.upd rfl (.upd rfl (.upd rfl (.upd rfl .refl)))), (by kernel_rfl)⟩
  refine kp 2 (.bool b10) ?_
  refine WpOps.nil (thenK_at (Wp.ret ?_))
  refine endK_retn [Value.bool b10] (Value.bool b10) (by kernel_rfl) (by kernel_rfl) ?_
  subst_vars
  rfl
end Go.Proofs.Ytpkkcpglbjbgfaa.D
