/- relay.Calm: slices.IndexFunc, ContainsFunc. -/
import Derived.Test.YtdkmdpklojeepaaFwLem
import Derived.Test.YtdkmdpklojeepaaF09k
namespace Go.Proofs.Ytdkmdpklojeepaa.D
open Go.Fw Go.RowKit

/-- A unit's fate, as a value. -/
theorem ofC_val (mild : Bool) (x : Int) : ∃ c d, ofC mild x = [.bool (loseF mild x), .int .i64 c, .int .i64 d, .int .i64 (spF mild x)] := by
  obtain ⟨b, c, d, e, h⟩ := ofC_is mild x
  refine ⟨c, d, ?_⟩
  unfold loseF spF
  rw [h]
  rfl
/-- The first that is not calm, -1 if there is none. -/
def firstBad (mild : Bool) (L : List Int) : Int := match L.findIdx? (fun x => !calmB mild x) with
  | some i => i
  | none => -1
theorem fc_slice (mild : Bool) : ∀ (L : List Int) (i : Nat), i < L.length → ((fc mild L).drop (i * 4)).take 4 = ofC mild (L.getD i 0)
  | [], i, h => absurd h (Nat.not_lt_zero _)
  | a :: L, 0, _ => by
    unfold fc
    rw [List.flatMap_cons, Nat.zero_mul, List.drop_zero, List.take_append_of_le_length (by rw [ofC_len]; exact Nat.le_refl _), List.take_of_length_le (by rw [ofC_len]; exact Nat.le_refl _)]
    rfl
  | a :: L, i + 1, h => by
    have ih := fc_slice mild L i (by simpa using h)
    unfold fc at ih ⊢
    rw [List.flatMap_cons, List.drop_append, List.drop_eq_nil_of_le (by rw [ofC_len]; omega), List.nil_append, ofC_len, show (i + 1) * 4 - 4 = i * 4 by omega, ih]
    simp
theorem fc_cells (mild : Bool) (L : List Int) (i : Nat) (h : i < L.length) : cellsAt (fc mild L).toArray.toList ((i : Int).toNat * 4) 4 = some (ofC mild (L.getD i 0)) := by
  rw [Int.toNat_natCast, List.toList_toArray]
  have := fc_slice mild L i h
  unfold cellsAt
  rw [if_pos (by rw [fc_len]; omega), this]
theorem f51 : E.funcs 51 = some Try.f51 := by kernel_rfl
theorem index51 (mild : Bool) (L : List Int) (hz : L.length ≤ 1000) : Lent E 51 [FS 46 L.length 0 (fc mild L).toArray, fnV 44] [] (.int .i64 (firstBad mild L)) [] := by
  refine Lent.of f51 rfl (of_decide_eq_true (by kernel_rfl)) rfl rfl (Nat.le_refl _) rfl rfl rfl ?_
  unfold fnV
  refine Wp.seq (Wp.text ?_)
  refine kp 4 (.int IntKind.i64 0) ?_
  refine WpOps.nil (thenK_at (Wp.seq (Wp.seq (Wp.text ?_))))
  refine kp 6 (.iface 46 (Value.iface (List.length L) (Value.iface 0 (Value.agg (List.toArray (fc mild L)))))) ?_
  refine kp 7 (.int IntKind.i64 (↑(List.length L) : Int)) ?_
  refine kp 8 (.int IntKind.i64 0) ?_
  refine WpOps.nil (thenK_at (Wp.block ?_))
  refine Wp.loop (G := Nat) (fun i => layj [(0, FS 46 L.length 0 (fc mild L).toArray), (1, .func (.func 44) #[] #[]), (7, .int .i64 L.length), (8, .int .i64 i)]) (fun _ => heapOf []) (fun i => L.length - i) (fun i => i ≤ L.length ∧ ∀ j, j < i → calmB mild (L.getD j 0) = true) 0
    (View.of [] [] _ List.nodup_nil rfl trivial ⟨⟨by kernel_rfl, rfl⟩, ⟨by kernel_rfl, rfl⟩, ⟨by kernel_rfl, rfl⟩, ⟨by kernel_rfl, rfl⟩, trivial⟩) ⟨Nat.zero_le _, fun j hj => absurd hj (Nat.not_lt_zero _)⟩ ?_
  rintro i ⟨hi, hp⟩
  refine Wp.seq (Wp.text ?_)
  refine kp 9 (.bool (decide ((↑i : Int) < (↑(List.length L) : Int)))) ?_
  refine WpOps.nil (thenK_at (Wp.seq ?_))
  refine Wp.split (decide ((↑i : Int) < (↑(List.length L) : Int))) (by kernel_rfl) (fun hc => ?_) (fun hc => ?_)
  · have hlt : (i : Int) < L.length := of_decide_eq_true hc
    have h0 : 0 ≤ (i : Int) ∧ (i : Int) < L.length := ⟨Int.natCast_nonneg _, hlt⟩
    obtain ⟨c, d, hq⟩ := ofC_val mild (L.getD i 0)
    have hs := fc_cells mild L i (by omega)
    rw [hq] at hs
    have c1 := calmf44 (loseF mild (L.getD i 0)) c d (spF mild (L.getD i 0))
    have hcb : calmB mild (L.getD i 0) = !(bif loseF mild (L.getD i 0) then true else spF mild (L.getD i 0) != -1) := by
      unfold calmB
      generalize spF mild (L.getD i 0) = sp
      show (!_ && (sp == -1)) = !(bif _ then true else !(sp == -1))
      generalize (sp == -1) = q
      generalize loseF mild (L.getD i 0) = b
      cases b <;> cases q <;> rfl
    have hget : L[i]? = some (L.getD i 0) := by rw [List.getD_eq_getElem?_getD, List.getElem?_eq_getElem (by omega)]; rfl
    refine Wp.skip (thenK_at (Wp.seq (Wp.block (Wp.seq (Wp.text ?_)))))
    refine kp 10 (.int IntKind.i64 (↑i : Int)) ?_
    refine kp 5 (.int IntKind.i64 (↑i : Int)) ?_
    refine WpOps.nil (thenK_at (Wp.seq (Wp.text ?_)))
    refine kp 11 (.func (Fn.func 44) #[] #[]) ?_
    refine kp 12 (.iface 46 (Value.iface (List.length L) (Value.iface 0 (Value.agg (List.toArray (fc mild L)))))) ?_
    refine kp 13 (.int IntKind.i64 (↑i : Int)) ?_
    refine kp 14 (.iface 46 (Value.iface (Int.toNat (↑i : Int) * 4) (Value.agg (List.toArray (fc mild L))))) ?_ (hop := fun _ => o_indexI (e := 46) (size := 4) (a := (↑i : Int)) h0)
    refine kp 15 (.agg #[Value.bool (loseF mild (List.getD L i 0)), Value.int .i64 c, Value.int .i64 d, Value.int .i64 (spF mild (List.getD L i 0))]) ?_ (hop := fun _ => o_loadIA (Int.toNat (↑i : Int) * 4) hs)
    refine fr 16 44 [Value.agg #[Value.bool (loseF mild (List.getD L i 0)), Value.int .i64 c, Value.int .i64 d, Value.int .i64 (spF mild (List.getD L i 0))]] ?_
    refine WpFun.of (c1) ?_
    refine WpOps.nil (thenK_at ?_)
    refine Wp.split (bif loseF mild (List.getD L i 0) then true else spF mild (List.getD L i 0) != -1) (by kernel_rfl) (fun hb => ?_) (fun hb => ?_)
    · refine Wp.seq (Wp.text ?_)
      refine kp 17 (.int IntKind.i64 (↑i : Int)) ?_
      refine kp 4 (.int IntKind.i64 (↑i : Int)) ?_
      refine WpOps.nil (thenK_at (Wp.ret (blockK_ret (thenK_ret (thenK_ret (blockK_ret (thenK_ret ?_)))))))
      refine endK_retn [Value.int IntKind.i64 (↑i : Int)] (Value.int IntKind.i64 (↑i : Int)) (by kernel_rfl) (by kernel_rfl) ?_
      have hf : firstBad mild L = i := by
        have : L.findIdx? (fun x => !calmB mild x) = some i := by
          rw [List.findIdx?_eq_some_iff_getElem]
          refine ⟨by omega, ?_, fun j hj => ?_⟩
          · have e : L[i] = L.getD i 0 := by simp [List.getElem?_eq_getElem (show i < L.length by omega)]
            rw [e, hcb, hb]
            rfl
          · have := hp j hj
            have e : L[j] = L.getD j 0 := by simp [List.getElem?_eq_getElem (show j < L.length by omega)]
            rw [e, this]
            decide
        simp only [firstBad, this]
      rw [hf]
      exact ⟨[], by decide, by kernel_rfl, trivial, .w (.un rfl rfl)⟩
    · refine Wp.skip (blockK_norm (thenK_at (Wp.text ?_)))
      refine kp 18 (.int IntKind.i64 (IntKind.wrap .i64 ((↑i : Int) + 1))) ?_
      refine kp 8 (.int IntKind.i64 (IntKind.wrap .i64 ((↑i : Int) + 1))) ?_
      refine WpOps.nil (thenK_at ?_)
      refine ⟨i + 1, by omega, ⟨by omega, fun j hj => ?_⟩, View.of [] [] _ List.nodup_nil rfl trivial ⟨⟨by kernel_rfl, rfl⟩, ⟨by kernel_rfl, rfl⟩, ⟨by kernel_rfl, rfl⟩, ⟨congrArg (Value.int .i64) (wr _ (by omega) (by omega)), rfl⟩, trivial⟩⟩
      rcases Nat.lt_or_ge j i with h | h
      · exact hp j h
      · obtain rfl : j = i := by omega
        rw [hcb, hb]
        rfl
  · refine Wp.exit (thenK_exit (thenK_exit (blockK_hit (thenK_at (Wp.seq (Wp.text ?_))))))
    refine kp 4 (.int IntKind.i64 (-1)) ?_
    refine WpOps.nil (thenK_at (Wp.ret ?_))
    refine endK_retn [Value.int IntKind.i64 (-1)] (Value.int IntKind.i64 (-1)) (by kernel_rfl) (by kernel_rfl) ?_
    have hf : firstBad mild L = -1 := by
      have hlen : ¬ ((i : Int) < L.length) := of_decide_eq_false hc
      have : L.findIdx? (fun x => !calmB mild x) = none := by
        rw [List.findIdx?_eq_none_iff]
        intro v hv
        obtain ⟨j, hj, rfl⟩ := List.getElem_of_mem hv
        have := hp j (by omega)
        have e : L[j] = L.getD j 0 := by simp [List.getElem?_eq_getElem hj]
        rw [e, this]
        rfl
      simp only [firstBad, this]
    rw [hf]
    exact ⟨[], by decide, by kernel_rfl, trivial, .w (.un rfl rfl)⟩
theorem firstBad_neg (mild : Bool) (L : List Int) : decide (firstBad mild L ≥ 0) = !L.all (calmB mild) := by
  unfold firstBad
  split
  · rename_i i h
    rw [List.findIdx?_eq_some_iff_getElem] at h
    obtain ⟨hi, h1, _⟩ := h
    have : L.all (calmB mild) = false := by
      rw [List.all_eq_false]
      exact ⟨_, List.getElem_mem hi, by simpa using h1⟩
    rw [this]
    exact decide_eq_true (Int.natCast_nonneg _)
  · rename_i h
    rw [List.findIdx?_eq_none_iff] at h
    have : L.all (calmB mild) = true := by
      rw [List.all_eq_true]
      intro x hx
      simpa using h x hx
    rw [this]
    rfl
theorem f34 : E.funcs 34 = some Try.f34 := by kernel_rfl
theorem contains34 (mild : Bool) (L : List Int) (hz : L.length ≤ 1000) : Lent E 34 [FS 46 L.length 0 (fc mild L).toArray, fnV 44] [] (.bool (!L.all (calmB mild))) [] := by
  have c1 := index51 mild L hz
  refine Lent.of f34 rfl (of_decide_eq_true (by kernel_rfl)) rfl rfl (Nat.le_refl _) rfl rfl rfl ?_
  unfold fnV at c1 ⊢
  refine Wp.seq (Wp.text ?_)
  refine kp 4 (.bool false) ?_
  refine WpOps.nil (thenK_at (Wp.seq (Wp.text ?_)))
  refine kp 5 (.iface 46 (Value.iface (List.length L) (Value.iface 0 (Value.agg (List.toArray (fc mild L)))))) ?_
  refine kp 6 (.func (Fn.func 44) #[] #[]) ?_
  refine cl 7 51 [Value.iface 46 (Value.iface (List.length L) (Value.iface 0 (Value.agg (List.toArray (fc mild L))))), Value.func (Fn.func 44) #[] #[]] ?_
  refine WpCall.lent [] (c1) (by decide) trivial (by kernel_rfl) (Value.int IntKind.i64 (firstBad mild L)) ([]) .nil (by kernel_rfl) (heapOf []) (by kernel_rfl) ?_
  refine kp 8 (.bool (decide (firstBad mild L ≥ 0))) ?_
  refine kp 4 (.bool (decide (firstBad mild L ≥ 0))) ?_
  refine WpOps.nil (thenK_at (Wp.ret ?_))
  refine endK_retn [Value.bool (decide (firstBad mild L ≥ 0))] (Value.bool (decide (firstBad mild L ≥ 0))) (by kernel_rfl) (by kernel_rfl) ?_
  rw [← firstBad_neg]
  exact ⟨[], by decide, by kernel_rfl, trivial, .w (.un rfl rfl)⟩
theorem f21 : E.funcs 21 = some Try.f21 := by kernel_rfl
theorem calm21 (mild : Bool) (L : List Int) (hz : L.length ≤ 1000) : Fun E 21 [FS 46 L.length 0 (fc mild L).toArray] (.bool (L.all (calmB mild))) := by
  have c1 := contains34 mild L hz
  refine Fun.of f21 rfl (of_decide_eq_true (by kernel_rfl)) rfl ?_
  unfold fnV at c1
  refine Wp.seq (Wp.text ?_)
  refine kp 2 (.bool false) ?_
  refine WpOps.nil (thenK_at (Wp.seq (Wp.text ?_)))
  refine kp 3 (.iface 46 (Value.iface (List.length L) (Value.iface 0 (Value.agg (List.toArray (fc mild L)))))) ?_
  refine cl 4 34 [Value.iface 46 (Value.iface (List.length L) (Value.iface 0 (Value.agg (List.toArray (fc mild L))))), Value.func (Fn.func 44) #[] #[]] ?_
  refine WpCall.lent [] (c1) (by decide) trivial (by kernel_rfl) (Value.bool !List.all L (calmB mild)) ([]) .nil (by kernel_rfl) (Heap.none) (by kernel_rfl) ?_
  refine kp 5 (.bool !!List.all L (calmB mild)) ?_
  refine kp 2 (.bool !!List.all L (calmB mild)) ?_
  refine WpOps.nil (thenK_at (Wp.ret ?_))
  refine endK_retn [Value.bool !!List.all L (calmB mild)] (Value.bool !!List.all L (calmB mild)) (by kernel_rfl) (by kernel_rfl) ?_
  rw [Bool.not_not]
  rfl
/-! nil ones -/
theorem index51n : Lent E 51 [FS 46 0 2 #[], fnV 44] [] (.int .i64 (-1)) [] := by
  refine Lent.of f51 rfl (of_decide_eq_true (by kernel_rfl)) rfl rfl (Nat.le_refl _) rfl rfl rfl ?_
  unfold fnV
  refine Wp.seq (Wp.text ?_)
  refine kp 4 (.int IntKind.i64 0) ?_
  refine WpOps.nil (thenK_at (Wp.seq (Wp.seq (Wp.text ?_))))
  refine kp 6 (.iface 46 (Value.iface 0 (Value.iface 2 (Value.agg #[])))) ?_
  refine kp 7 (.int IntKind.i64 (↑0 : Int)) ?_
  refine kp 8 (.int IntKind.i64 0) ?_
  refine WpOps.nil (thenK_at (Wp.block ?_))
  refine Wp.unroll (WpL.step ?_)
  refine Wp.seq (Wp.text ?_)
  refine kp 9 (.bool false) ?_
  refine WpOps.nil (thenK_at (Wp.seq (off' (Wp.exit (thenK_exit (thenK_exit (blockK_hit (thenK_at (Wp.seq (Wp.text ?_))))))))))
  refine kp 4 (.int IntKind.i64 (-1)) ?_
  refine WpOps.nil (thenK_at (Wp.ret ?_))
  refine endK_retn [Value.int IntKind.i64 (-1)] (Value.int IntKind.i64 (-1)) (by kernel_rfl) (by kernel_rfl) ?_
  exact ⟨[], by decide, by kernel_rfl, trivial, .w (.un rfl rfl)⟩
theorem contains34n : Lent E 34 [FS 46 0 2 #[], fnV 44] [] (.bool false) [] := by
  have c1 := index51n
  refine Lent.of f34 rfl (of_decide_eq_true (by kernel_rfl)) rfl rfl (Nat.le_refl _) rfl rfl rfl ?_
  unfold fnV at c1 ⊢
  refine Wp.seq (Wp.text ?_)
  refine kp 4 (.bool false) ?_
  refine WpOps.nil (thenK_at (Wp.seq (Wp.text ?_)))
  refine kp 5 (.iface 46 (Value.iface 0 (Value.iface 2 (Value.agg #[])))) ?_
  refine kp 6 (.func (Fn.func 44) #[] #[]) ?_
  refine cl 7 51 [Value.iface 46 (Value.iface 0 (Value.iface 2 (Value.agg #[]))), Value.func (Fn.func 44) #[] #[]] ?_
  refine WpCall.lent [] (c1) (by decide) trivial (by kernel_rfl) (Value.int IntKind.i64 (-1)) ([]) .nil (by kernel_rfl) (heapOf []) (by kernel_rfl) ?_
  refine kp 8 (.bool false) ?_
  refine kp 4 (.bool false) ?_
  refine WpOps.nil (thenK_at (Wp.ret ?_))
  refine endK_retn [Value.bool false] (Value.bool false) (by kernel_rfl) (by kernel_rfl) ?_
  exact ⟨[], by decide, by kernel_rfl, trivial, .w (.un rfl rfl)⟩
theorem calm21n : Fun E 21 [FS 46 0 2 #[]] (.bool true) := by
  have c1 := contains34n
  refine Fun.of f21 rfl (of_decide_eq_true (by kernel_rfl)) rfl ?_
  unfold fnV at c1
  refine Wp.seq (Wp.text ?_)
  refine kp 2 (.bool false) ?_
  refine WpOps.nil (thenK_at (Wp.seq (Wp.text ?_)))
  refine kp 3 (.iface 46 (Value.iface 0 (Value.iface 2 (Value.agg #[])))) ?_
  refine cl 4 34 [Value.iface 46 (Value.iface 0 (Value.iface 2 (Value.agg #[]))), Value.func (Fn.func 44) #[] #[]] ?_
  refine WpCall.lent [] (c1) (by decide) trivial (by kernel_rfl) (Value.bool false) ([]) .nil (by kernel_rfl) (Heap.none) (by kernel_rfl) ?_
  refine kp 5 (.bool true) ?_
  refine kp 2 (.bool true) ?_
  refine WpOps.nil (thenK_at (Wp.ret ?_))
  refine endK_retn [Value.bool true] (Value.bool true) (by kernel_rfl) (by kernel_rfl) ?_
  rfl
theorem calm22n : Fun E 22 [FS 36 0 2 #[]] (.bool true) := by
  refine Fun.of f22 rfl (of_decide_eq_true (by kernel_rfl)) rfl ?_
  refine Wp.seq (Wp.text ?_)
  refine kp 2 (.bool false) ?_
  refine WpOps.nil (thenK_at (Wp.seq (Wp.seq (Wp.text ?_))))
  refine kp 3 (.int IntKind.i64 0) ?_
  refine WpOps.nil (thenK_at (Wp.block ?_))
  refine Wp.unroll (WpL.step ?_)
  refine Wp.seq (Wp.seq (Wp.text ?_))
  refine kp 4 (.int IntKind.i64 0) ?_
  refine kp 5 (.iface 36 (Value.iface 0 (Value.iface 2 (Value.agg #[])))) ?_
  refine kp 6 (.int IntKind.i64 (↑0 : Int)) ?_
  refine kp 7 (.bool false) ?_
  refine WpOps.nil (thenK_at (off' (Wp.exit (thenK_exit (thenK_exit (blockK_hit (thenK_at (Wp.seq (Wp.text ?_)))))))))
  refine kp 2 (.bool true) ?_
  refine WpOps.nil (thenK_at (Wp.ret ?_))
  refine endK_retn [Value.bool true] (Value.bool true) (by kernel_rfl) (by kernel_rfl) ?_
  rfl
/-! Mild is calm. -/
theorem ofC_mild (x : Int) : calmB true x = true := by
  unfold calmB loseF spF
  have : ∃ c d, ofC true x = [.bool false, .int .i64 c, .int .i64 d, .int .i64 (-1)] := by
    unfold ofC
    repeat' (first | exact ⟨_, _, rfl⟩ | split)
  obtain ⟨c, d, h⟩ := this
  rw [h]
  rfl
theorem mild_calm (L : List Int) : L.all (calmB true) = true := List.all_eq_true.2 fun x _ => ofC_mild x
end Go.Proofs.Ytdkmdpklojeepaa.D
