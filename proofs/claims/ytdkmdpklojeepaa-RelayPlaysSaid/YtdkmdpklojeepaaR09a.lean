/- relay.New, of any fates. -/
import Derived.Test.YtdkmdpklojeepaaFwLem
import Derived.Test.YtdkmdpklojeepaaFwMono
import Derived.Test.YtdkmdpklojeepaaFwCons
import Derived.Test.YtdkmdpklojeepaaS09a
import Derived.Test.YtdkmdpklojeepaaN09d
namespace Go.Proofs.Ytdkmdpklojeepaa.D
open Go.Fw Go.RowKit

/-- A unit's fate. -/
structure Ft where
  lo : Bool
  co : Int
  de : Int
  sp : Int
def fce (f : Ft) : List Value := [.bool f.lo, .int .i64 f.co, .int .i64 f.de, .int .i64 f.sp]
def fts (l : List Ft) : List Value := l.flatMap fce
def Ft.ok (f : Ft) : Bool := bif (bif (bif (bif decide (f.co ≥ 0) then decide (f.co ≤ 3) else false) then decide (f.de ≥ 0) else false) then decide (f.de ≤ 20) else false) then decide (f.sp ≥ -1) else false
theorem fts_len : ∀ L, (fts L).length = L.length * 4
  | [] => rfl
  | a :: r => by
    have ih := fts_len r
    unfold fts at ih ⊢
    rw [List.flatMap_cons, List.length_append, ih, List.length_cons, Nat.succ_mul]
    show 4 + _ = _
    omega
theorem fts_flat : ∀ L, (fts L).all flat = true
  | [] => rfl
  | a :: r => by
    have ih := fts_flat r
    unfold fts at ih ⊢
    rw [List.flatMap_cons, List.all_append, ih]
    rfl
theorem fts_slice : ∀ (L : List Ft) (i : Nat) (h : i < L.length), ((fts L).drop (i * 4)).take 4 = fce L[i]
  | [], i, h => absurd h (Nat.not_lt_zero _)
  | a :: L, 0, _ => by
    unfold fts
    rw [List.flatMap_cons, Nat.zero_mul, List.drop_zero, List.take_append_of_le_length (Nat.le_refl 4)]
    rfl
  | a :: L, i + 1, h => by
    have ih := fts_slice L i (by simpa using h)
    unfold fts at ih ⊢
    rw [List.flatMap_cons, List.drop_append, List.drop_eq_nil_of_le (by show 4 ≤ _; omega), List.nil_append, show (fce a).length = 4 from rfl, show (i + 1) * 4 - 4 = i * 4 by omega, ih]
    simp
theorem fts_cells (L : List Ft) (i : Nat) (h : i < L.length) : cellsAt (fts L) (i * 4) 4 = some (fce L[i]) := by
  have := fts_slice L i h
  unfold cellsAt
  rw [if_pos (by rw [fts_len]; omega), this]
theorem f36 : E.funcs 36 = some Try.f36 := by kernel_rfl
theorem fits36 (b : Bool) (c d e : Int) : Fun E 36 [.agg #[.bool b, .int .i64 c, .int .i64 d, .int .i64 e]] (.bool (Ft.ok ⟨b, c, d, e⟩)) := by
  refine Fun.of f36 rfl (of_decide_eq_true (by kernel_rfl)) rfl ?_
  refine Wp.seq (Wp.text ?_)
  refine md 1 (.pointer (some ⟨0, 0, none⟩)) (Blk.mk 46 true [Value.bool b, Value.int .i64 c, Value.int .i64 d, Value.int .i64 e]) ?_
  refine kp 2 (.bool false) ?_
  refine WpOps.nil (thenK_at (Wp.seq (Wp.text ?_)))
  refine kp 3 (.pointer (some ⟨0, 1, none⟩)) ?_
  refine kp 4 (.int IntKind.i64 c) ?_
  refine kp 5 (.bool (decide (c ≥ 0))) ?_
  refine kp 6 (.bool (decide (c ≥ 0))) ?_
  refine WpOps.fork 4 (decide (c ≥ 0)) [7, 8, 9, 10] 10 (decide (c ≤ 3)) (false) (by kernel_rfl) (fun g10 => ?_) (fun g10 => ?_) (fun f_10 b10 hb10 => ?_)
  · refine kp 7 (.pointer (some ⟨0, 1, none⟩)) ?_ (hw := wants_tt g10)
    refine kp 8 (.int IntKind.i64 c) ?_ (hw := wants_tt g10)
    refine kp 9 (.bool (decide (c ≤ 3))) ?_ (hw := wants_tt g10)
    refine kp 10 (.bool (decide (c ≤ 3))) ?_ (hop := fun _ => o_pickT g10)
    refine WpOps.nil ?_
    exact ⟨rfl, (.upd rfl (.upd rfl (.upd rfl (.upd rfl .refl)))), (by kernel_rfl)⟩
  · refine um 7 ?_ (hw := wants_ft g10)
    refine um 8 ?_ (hw := wants_ft g10)
    refine um 9 ?_ (hw := wants_ft g10)
    refine kp 10 (.bool false) ?_ (hop := fun _ => o_pickF g10)
    refine WpOps.nil ?_
    exact ⟨rfl, (.upd rfl (.upd rfl (.upd rfl (.upd rfl .refl)))), (by kernel_rfl)⟩
  refine kp 11 (.bool b10) ?_
  refine WpOps.fork 4 (b10) [12, 13, 14, 15] 15 (decide (d ≥ 0)) (false) (by kernel_rfl) (fun g15 => ?_) (fun g15 => ?_) (fun f_15 b15 hb15 => ?_)
  · refine kp 12 (.pointer (some ⟨0, 2, none⟩)) ?_ (hw := wants_tt g15)
    refine kp 13 (.int IntKind.i64 d) ?_ (hw := wants_tt g15)
    refine kp 14 (.bool (decide (d ≥ 0))) ?_ (hw := wants_tt g15)
    refine kp 15 (.bool (decide (d ≥ 0))) ?_ (hop := fun _ => o_pickT g15)
    refine WpOps.nil ?_
    exact ⟨rfl, (.upd rfl (.upd rfl (.upd rfl (.upd rfl .refl)))), (by kernel_rfl)⟩
  · refine um 12 ?_ (hw := wants_ft g15)
    refine um 13 ?_ (hw := wants_ft g15)
    refine um 14 ?_ (hw := wants_ft g15)
    refine kp 15 (.bool false) ?_ (hop := fun _ => o_pickF g15)
    refine WpOps.nil ?_
    exact ⟨rfl, (.upd rfl (.upd rfl (.upd rfl (.upd rfl .refl)))), (by kernel_rfl)⟩
  refine kp 16 (.bool b15) ?_
  refine WpOps.fork 4 (b15) [17, 18, 19, 20] 20 (decide (d ≤ 20)) (false) (by kernel_rfl) (fun g20 => ?_) (fun g20 => ?_) (fun f_20 b20 hb20 => ?_)
  · refine kp 17 (.pointer (some ⟨0, 2, none⟩)) ?_ (hw := wants_tt g20)
    refine kp 18 (.int IntKind.i64 d) ?_ (hw := wants_tt g20)
    refine kp 19 (.bool (decide (d ≤ 20))) ?_ (hw := wants_tt g20)
    refine kp 20 (.bool (decide (d ≤ 20))) ?_ (hop := fun _ => o_pickT g20)
    refine WpOps.nil ?_
    exact ⟨rfl, (.upd rfl (.upd rfl (.upd rfl (.upd rfl .refl)))), (by kernel_rfl)⟩
  · refine um 17 ?_ (hw := wants_ft g20)
    refine um 18 ?_ (hw := wants_ft g20)
    refine um 19 ?_ (hw := wants_ft g20)
    refine kp 20 (.bool false) ?_ (hop := fun _ => o_pickF g20)
    refine WpOps.nil ?_
    exact ⟨rfl, (.upd rfl (.upd rfl (.upd rfl (.upd rfl .refl)))), (by kernel_rfl)⟩
  refine kp 21 (.bool b20) ?_
  refine WpOps.fork 4 (b20) [22, 23, 24, 25] 25 (decide (e ≥ -1)) (false) (by kernel_rfl) (fun g25 => ?_) (fun g25 => ?_) (fun f_25 b25 hb25 => ?_)
  · refine kp 22 (.pointer (some ⟨0, 3, none⟩)) ?_ (hw := wants_tt g25)
    refine kp 23 (.int IntKind.i64 e) ?_ (hw := wants_tt g25)
    refine kp 24 (.bool (decide (e ≥ -1))) ?_ (hw := wants_tt g25)
    refine kp 25 (.bool (decide (e ≥ -1))) ?_ (hop := fun _ => o_pickT g25)
    refine WpOps.nil ?_
    exact ⟨rfl, (.upd rfl (.upd rfl (.upd rfl (.upd rfl .refl)))), (by kernel_rfl)⟩
  · refine um 22 ?_ (hw := wants_ft g25)
    refine um 23 ?_ (hw := wants_ft g25)
    refine um 24 ?_ (hw := wants_ft g25)
    refine kp 25 (.bool false) ?_ (hop := fun _ => o_pickF g25)
    refine WpOps.nil ?_
    exact ⟨rfl, (.upd rfl (.upd rfl (.upd rfl (.upd rfl .refl)))), (by kernel_rfl)⟩
  refine kp 2 (.bool b25) ?_
  refine WpOps.nil (thenK_at (Wp.ret ?_))
  refine endK_retn [Value.bool b25] (Value.bool b25) (by kernel_rfl) (by kernel_rfl) ?_
  subst hb10 hb15 hb20 hb25
  rfl
theorem f35 : E.funcs 35 = some Try.f35 := by kernel_rfl
theorem fit35 (b : Bool) (c d e : Int) : Fun E 35 [.agg #[.bool b, .int .i64 c, .int .i64 d, .int .i64 e]] (.bool (!Ft.ok ⟨b, c, d, e⟩)) := by
  have c1 := fits36 b c d e
  refine Fun.of f35 rfl (of_decide_eq_true (by kernel_rfl)) rfl ?_
  refine Wp.seq (Wp.text ?_)
  refine md 1 (.pointer (some ⟨0, 0, none⟩)) (Blk.mk 46 true [Value.bool b, Value.int .i64 c, Value.int .i64 d, Value.int .i64 e]) ?_
  refine kp 2 (.bool false) ?_
  refine WpOps.nil (thenK_at (Wp.seq (Wp.text ?_)))
  refine kp 3 (.agg #[Value.bool b, Value.int .i64 c, Value.int .i64 d, Value.int .i64 e]) ?_
  refine cl 4 36 [Value.agg #[Value.bool b, Value.int .i64 c, Value.int .i64 d, Value.int .i64 e]] ?_
  refine WpCall.consume [0] (c1) (by kernel_rfl) (by kernel_rfl) ?_
  refine kp 5 (.bool !Ft.ok (Ft.mk b c d e)) ?_
  refine kp 2 (.bool !Ft.ok (Ft.mk b c d e)) ?_
  refine WpOps.nil (thenK_at (Wp.ret ?_))
  refine endK_retn [Value.bool !Ft.ok (Ft.mk b c d e)] (Value.bool !Ft.ok (Ft.mk b c d e)) (by kernel_rfl) (by kernel_rfl) ?_
  rfl
/-- The first that is no fate, -1 if there is none. -/
def firstNo (L : List Ft) : Int := match L.findIdx? (fun f => !f.ok) with
  | some i => i
  | none => -1
theorem firstNo_neg (L : List Ft) : decide (firstNo L ≥ 0) = !L.all Ft.ok := by
  unfold firstNo
  split
  · rename_i i h
    rw [List.findIdx?_eq_some_iff_getElem] at h
    obtain ⟨hi, h1, _⟩ := h
    have : L.all Ft.ok = false := by
      rw [List.all_eq_false]
      exact ⟨_, List.getElem_mem hi, by simpa using h1⟩
    rw [this]
    exact decide_eq_true (Int.natCast_nonneg _)
  · rename_i h
    rw [List.findIdx?_eq_none_iff] at h
    have : L.all Ft.ok = true := by
      rw [List.all_eq_true]
      intro x hx
      simpa using h x hx
    rw [this]
    rfl
theorem g51 : E.funcs 51 = some Try.f51 := by kernel_rfl
theorem index51F (x : Nat) (L : List Ft) (hz : L.length ≤ 100000) : Lent E 51 [FS 46 L.length x (fts L).toArray, .func (.func 35) #[] #[]] [] (.int .i64 (firstNo L)) [] := by
  refine Lent.of g51 rfl (of_decide_eq_true (by kernel_rfl)) rfl rfl (Nat.le_refl _) rfl rfl rfl ?_
  refine Wp.seq (Wp.text ?_)
  refine kp 4 (.int IntKind.i64 0) ?_
  refine WpOps.nil (thenK_at (Wp.seq (Wp.seq (Wp.text ?_))))
  refine kp 6 (.iface 46 (Value.iface (List.length L) (Value.iface x (Value.agg (List.toArray (fts L)))))) ?_
  refine kp 7 (.int IntKind.i64 (↑(List.length L) : Int)) ?_
  refine kp 8 (.int IntKind.i64 0) ?_
  refine WpOps.nil (thenK_at (Wp.block ?_))
  refine Wp.loop (G := Nat) (fun i => layj [(0, FS 46 L.length x (fts L).toArray), (1, .func (.func 35) #[] #[]), (7, .int .i64 L.length), (8, .int .i64 i)]) (fun _ => heapOf []) (fun i => L.length - i) (fun i => i ≤ L.length ∧ ∀ j (hj : j < L.length), j < i → L[j].ok = true) 0
    (View.of [] [] _ List.nodup_nil rfl trivial ⟨⟨by kernel_rfl, rfl⟩, ⟨by kernel_rfl, rfl⟩, ⟨by kernel_rfl, rfl⟩, ⟨by kernel_rfl, rfl⟩, trivial⟩) ⟨Nat.zero_le _, fun j _ hj => absurd hj (Nat.not_lt_zero _)⟩ ?_
  rintro i ⟨hi, hp⟩
  refine Wp.seq (Wp.text ?_)
  refine kp 9 (.bool (decide ((↑i : Int) < (↑(List.length L) : Int)))) ?_
  refine WpOps.nil (thenK_at (Wp.seq ?_))
  refine Wp.split (decide ((↑i : Int) < (↑(List.length L) : Int))) (by kernel_rfl) (fun hc => ?_) (fun hc => ?_)
  · have hlt : (i : Int) < L.length := of_decide_eq_true hc
    have h0 : 0 ≤ (i : Int) ∧ (i : Int) < L.length := ⟨Int.natCast_nonneg _, hlt⟩
    have hs : cellsAt (fts L).toArray.toList ((i : Int).toNat * 4) 4 = some (fce L[i]) := fts_cells L i (by omega)
    unfold fce at hs
    have c1 := fit35 L[i].lo L[i].co L[i].de L[i].sp
    change Fun E 35 _ (.bool (!L[i].ok)) at c1
    refine Wp.skip (thenK_at (Wp.seq (Wp.block (Wp.seq (Wp.text ?_)))))
    refine kp 10 (.int IntKind.i64 (↑i : Int)) ?_
    refine kp 5 (.int IntKind.i64 (↑i : Int)) ?_
    refine WpOps.nil (thenK_at (Wp.seq (Wp.text ?_)))
    refine kp 11 (.func (Fn.func 35) #[] #[]) ?_
    refine kp 12 (.iface 46 (Value.iface (List.length L) (Value.iface x (Value.agg (List.toArray (fts L)))))) ?_
    refine kp 13 (.int IntKind.i64 (↑i : Int)) ?_
    refine kp 14 (.iface 46 (Value.iface (Int.toNat (↑i : Int) * 4) (Value.agg (List.toArray (fts L))))) ?_ (hop := fun _ => o_indexI (e := 46) (size := 4) (a := (↑i : Int)) h0)
    refine kp 15 (.agg #[Value.bool (Ft.lo L[i]), Value.int .i64 (Ft.co L[i]), Value.int .i64 (Ft.de L[i]), Value.int .i64 (Ft.sp L[i])]) ?_ (hop := fun _ => o_loadIA (Int.toNat (↑i : Int) * 4) hs)
    refine cl 16 35 [Value.agg #[Value.bool (Ft.lo L[i]), Value.int .i64 (Ft.co L[i]), Value.int .i64 (Ft.de L[i]), Value.int .i64 (Ft.sp L[i])]] ?_
    refine WpCall.consume [] (c1) (by kernel_rfl) (by kernel_rfl) ?_
    refine WpOps.nil (thenK_at ?_)
    refine Wp.split (!Ft.ok L[i]) (by kernel_rfl) (fun hb => ?_) (fun hb => ?_)
    · refine Wp.seq (Wp.text ?_)
      refine kp 17 (.int IntKind.i64 (↑i : Int)) ?_
      refine kp 4 (.int IntKind.i64 (↑i : Int)) ?_
      refine WpOps.nil (thenK_at (Wp.ret (blockK_ret (thenK_ret (thenK_ret (blockK_ret (thenK_ret ?_)))))))
      refine endK_retn [Value.int IntKind.i64 (↑i : Int)] (Value.int IntKind.i64 (↑i : Int)) (by kernel_rfl) (by kernel_rfl) ?_
      have hf : firstNo L = i := by
        have : L.findIdx? (fun f => !f.ok) = some i := by
          rw [List.findIdx?_eq_some_iff_getElem]
          refine ⟨by omega, ?_, fun j hj => ?_⟩
          · exact hb
          · rw [hp j (by omega) hj]
            decide
        simp only [firstNo, this]
      rw [hf]
      exact ⟨[], by decide, by kernel_rfl, trivial, .w (.un rfl rfl)⟩
    · refine Wp.skip (blockK_norm (thenK_at (Wp.text ?_)))
      refine kp 18 (.int IntKind.i64 (IntKind.wrap .i64 ((↑i : Int) + 1))) ?_
      refine kp 8 (.int IntKind.i64 (IntKind.wrap .i64 ((↑i : Int) + 1))) ?_
      refine WpOps.nil (thenK_at ?_)
      refine ⟨i + 1, by omega, ⟨by omega, fun j hjl hj => ?_⟩, View.of [] [] _ List.nodup_nil rfl trivial ⟨⟨by kernel_rfl, rfl⟩, ⟨by kernel_rfl, rfl⟩, ⟨by kernel_rfl, rfl⟩, ⟨congrArg (Value.int .i64) (wr _ (by omega) (by omega)), rfl⟩, trivial⟩⟩
      rcases Nat.lt_or_ge j i with h | h
      · exact hp j hjl h
      · obtain rfl : j = i := by omega
        simpa using hb
  · refine Wp.exit (thenK_exit (thenK_exit (blockK_hit (thenK_at (Wp.seq (Wp.text ?_))))))
    refine kp 4 (.int IntKind.i64 (-1)) ?_
    refine WpOps.nil (thenK_at (Wp.ret ?_))
    refine endK_retn [Value.int IntKind.i64 (-1)] (Value.int IntKind.i64 (-1)) (by kernel_rfl) (by kernel_rfl) ?_
    have hf : firstNo L = -1 := by
      have hlen : ¬ ((i : Int) < L.length) := of_decide_eq_false hc
      have : L.findIdx? (fun f => !f.ok) = none := by
        rw [List.findIdx?_eq_none_iff]
        intro v hv
        obtain ⟨j, hj, rfl⟩ := List.getElem_of_mem hv
        rw [hp j hj (by omega)]
        rfl
      simp only [firstNo, this]
    rw [hf]
    exact ⟨[], by decide, by kernel_rfl, trivial, .w (.un rfl rfl)⟩
theorem g34 : E.funcs 34 = some Try.f34 := by kernel_rfl
theorem contains34F (x : Nat) (L : List Ft) (hz : L.length ≤ 100000) : Lent E 34 [FS 46 L.length x (fts L).toArray, .func (.func 35) #[] #[]] [] (.bool (!L.all Ft.ok)) [] := by
  have c1 := index51F x L hz
  refine Lent.of g34 rfl (of_decide_eq_true (by kernel_rfl)) rfl rfl (Nat.le_refl _) rfl rfl rfl ?_
  refine Wp.seq (Wp.text ?_)
  refine kp 4 (.bool false) ?_
  refine WpOps.nil (thenK_at (Wp.seq (Wp.text ?_)))
  refine kp 5 (.iface 46 (Value.iface (List.length L) (Value.iface x (Value.agg (List.toArray (fts L)))))) ?_
  refine kp 6 (.func (Fn.func 35) #[] #[]) ?_
  refine cl 7 51 [Value.iface 46 (Value.iface (List.length L) (Value.iface x (Value.agg (List.toArray (fts L))))), Value.func (Fn.func 35) #[] #[]] ?_
  refine WpCall.lent [] (c1) (by decide) trivial (by kernel_rfl) (Value.int IntKind.i64 (firstNo L)) ([]) .nil (by kernel_rfl) (heapOf []) (by kernel_rfl) ?_
  refine kp 8 (.bool (decide (firstNo L ≥ 0))) ?_
  refine kp 4 (.bool (decide (firstNo L ≥ 0))) ?_
  refine WpOps.nil (thenK_at (Wp.ret ?_))
  refine endK_retn [Value.bool (decide (firstNo L ≥ 0))] (Value.bool (decide (firstNo L ≥ 0))) (by kernel_rfl) (by kernel_rfl) ?_
  rw [← firstNo_neg]
  exact ⟨[], by decide, by kernel_rfl, trivial, .w (.un rfl rfl)⟩
theorem f10 : E.funcs 10 = some Try.f10 := by kernel_rfl
/-- A medium: its kind, its script, the time, how many were put in, its way. -/
def mB (k : Int) (L : List Ft) (t u : Int) (w : Value) : Blk := ⟨66, true, [.int .i64 k, FS 46 L.length 0 (fts L).toArray, .int .i64 t, .int .i64 u, w]⟩
theorem ice_ft {hp : Heap} {b c : Nat} (L : List Ft) (h1 : hp.get b = some ⟨46, true, fts L⟩) : iceC E hp 4 (.slice (some ⟨b, 0, none⟩) L.length c) = some (FS 46 L.length 0 (fts L).toArray) :=
  iceC_row (E := E) (hp := hp) (b := b) (n := L.length) (c := c) (e := 46) (size := 4) (cells := fts L) 3 (by kernel_rfl) h1 (fts_len L).symm (fts_flat L)
theorem new10 (k : Int) (x : Nat) (L : List Ft) (hk : k = 0 ∨ k = 1) (hz : L.length ≤ 200) (hok : L.all Ft.ok = true) : Lent E 10 [.int .i64 k, FS 46 L.length x (fts L).toArray] [] (.tuple #[.pointer (some ⟨0, 0, none⟩), .int .i64 0]) [mB k L 0 0 (.slice none 0 0)] := by
  have c1 := contains34F x L (by omega)
  rw [hok] at c1
  refine Lent.of f10 rfl (of_decide_eq_true (by kernel_rfl)) rfl rfl (Nat.zero_le _) rfl rfl rfl ?_
  have d1 : decide ((L.length : Int) > 200) = false := decide_eq_false (by omega)
  refine Wp.seq (Wp.text ?_)
  refine kp 4 (.pointer none) ?_
  refine kp 5 (.int IntKind.i64 0) ?_
  refine WpOps.nil (thenK_at (Wp.seq (Wp.text ?_)))
  refine kp 7 (.iface 46 (Value.iface (List.length L) (Value.iface x (Value.agg (List.toArray (fts L)))))) ?_
  refine cl 8 34 [Value.iface 46 (Value.iface (List.length L) (Value.iface x (Value.agg (List.toArray (fts L))))), Value.func (Fn.func 35) #[] #[]] ?_
  refine WpCall.lent [] (c1) (by decide) trivial (by kernel_rfl) (Value.bool !true) ([]) .nil (by kernel_rfl) (heapOf []) (by kernel_rfl) ?_
  refine kp 6 (.bool false) ?_
  refine WpOps.nil (thenK_at (Wp.seq (Wp.seq (Wp.text ?_))))
  refine kp 9 (.int IntKind.i64 k) ?_
  refine kp 10 (.bool (k != 0)) ?_
  refine kp 11 (.bool (k != 0)) ?_
  refine WpOps.fork 3 (k != 0) [12, 13, 14] 14 (k != 1) (false) (by kernel_rfl) (fun g14 => ?_) (fun g14 => ?_) (fun f_14 b14 hb14 => ?_)
  · refine kp 12 (.int IntKind.i64 k) ?_ (hw := wants_tt g14)
    refine kp 13 (.bool (k != 1)) ?_ (hw := wants_tt g14)
    refine kp 14 (.bool (k != 1)) ?_ (hop := fun _ => o_pickT g14)
    refine WpOps.nil ?_
    exact ⟨rfl, (.upd rfl (.upd rfl (.upd rfl .refl))), (by kernel_rfl)⟩
  · refine um 12 ?_ (hw := wants_ft g14)
    refine um 13 ?_ (hw := wants_ft g14)
    refine kp 14 (.bool false) ?_ (hop := fun _ => o_pickF g14)
    refine WpOps.nil ?_
    exact ⟨rfl, (.upd rfl (.upd rfl (.upd rfl .refl))), (by kernel_rfl)⟩
  refine kp 15 (.bool b14) ?_
  refine WpOps.fork 4 (b14) [16, 17, 18, 19] 19 (true) (false) (by kernel_rfl) (fun g19 => ?_) (fun g19 => ?_) (fun f_19 b19 hb19 => ?_)
  · refine um 16 ?_ (hw := wants_tf g19)
    refine um 17 ?_ (hw := wants_tf g19)
    refine um 18 ?_ (hw := wants_tf g19)
    refine kp 19 (.bool true) ?_ (hop := fun _ => o_pickT g19)
    refine WpOps.nil ?_
    exact ⟨rfl, (.upd rfl (.upd rfl (.upd rfl (.upd rfl .refl)))), (by kernel_rfl)⟩
  · refine kp 16 (.iface 46 (Value.iface (List.length L) (Value.iface x (Value.agg (List.toArray (fts L)))))) ?_ (hw := wants_ff g19)
    refine kp 17 (.int IntKind.i64 (↑(List.length L) : Int)) ?_ (hw := wants_ff g19)
    refine kp 18 (.bool false) ?_ (hw := wants_ff g19) (hop := fun _ => by_fact d1)
    refine kp 19 (.bool false) ?_ (hop := fun _ => o_pickF g19)
    refine WpOps.nil ?_
    exact ⟨rfl, (.upd rfl (.upd rfl (.upd rfl (.upd rfl .refl)))), (by kernel_rfl)⟩
  refine kp 20 (.bool b19) ?_
  refine WpOps.fork 2 (b19) [21, 22] 22 (true) (false) (by kernel_rfl) (fun g22 => ?_) (fun g22 => ?_) (fun f_22 b22 hb22 => ?_)
  · refine um 21 ?_ (hw := wants_tf g22)
    refine kp 22 (.bool true) ?_ (hop := fun _ => o_pickT g22)
    refine WpOps.nil ?_
    exact ⟨rfl, (.upd rfl (.upd rfl .refl)), (by kernel_rfl)⟩
  · refine kp 21 (.bool false) ?_ (hw := wants_ff g22)
    refine kp 22 (.bool false) ?_ (hop := fun _ => o_pickF g22)
    refine WpOps.nil ?_
    exact ⟨rfl, (.upd rfl (.upd rfl .refl)), (by kernel_rfl)⟩
  refine WpOps.nil (thenK_at ?_)
  obtain rfl : b22 = false := by
    rw [hb22, hb19, hb14]
    rcases hk with rfl | rfl <;> rfl
  rcases Nat.eq_zero_or_pos L.length with h0 | h0
  · obtain rfl := List.eq_nil_of_length_eq_zero h0
    refine off' (Wp.skip (thenK_at (Wp.seq (Wp.text ?_))))
    refine kp 23 (.int IntKind.i64 k) ?_
    refine md 24 (.slice (some ⟨0, 0, none⟩) 0 0) (Blk.mk 46 true []) ?_
    refine kp 25 (.iface 46 (Value.iface 0 (Value.iface x (Value.agg #[])))) ?_
    refine kp 26 (.slice (some ⟨0, 0, none⟩) 0 0) ?_
    refine kp 27 (.agg #[Value.int .i64 k, Value.slice (some ⟨0, 0, none⟩) 0 0, Value.int .i64 0, Value.int .i64 0, Value.slice none 0 0]) ?_
    refine md 28 (.pointer (some ⟨1, 0, none⟩)) (Blk.mk 66 true [Value.int .i64 k, Value.slice (some ⟨0, 0, none⟩) 0 0, Value.int .i64 0, Value.int .i64 0, Value.slice none 0 0]) ?_
    refine kp 4 (.pointer (some ⟨1, 0, none⟩)) ?_
    refine kp 5 (.int IntKind.i64 0) ?_
    refine WpOps.nil (thenK_at (Wp.ret ?_))
    refine endK_retn [Value.pointer (some (Addr.mk 1 0 none)), Value.int IntKind.i64 0] (Value.tuple #[Value.pointer (some (Addr.mk 1 0 none)), Value.int IntKind.i64 0]) (by kernel_rfl) (by kernel_rfl) ?_
    exact ⟨[1], by decide, by kernel_rfl, ⟨⟨[.int .i64 k, .slice (some ⟨0, 0, none⟩) 0 0, .int .i64 0, .int .i64 0, .slice none 0 0], by kernel_rfl, .cons (.inl ⟨rfl, rfl⟩) (.cons (.inr ⟨_, ice_ft [] (by kernel_rfl), .inl rfl⟩) (.cons (.inl ⟨rfl, rfl⟩) (.cons (.inl ⟨rfl, rfl⟩) (.cons (.inl ⟨rfl, rfl⟩) .nil))))⟩, trivial⟩, .tuple _ _ rfl rfl (.cons (.un rfl rfl) (.cons (.un rfl rfl) .nil))⟩
  · have h1 : ¬ 0 + L.length ≤ 0 := by omega
    have h2 : 1 ≤ 32 ∧ (0 + L.length) * 32 ≤ 140737488355328 ∧ 4 = 4 ∧ 0 + L.length ≤ 9223372036854775807 := by omega
    refine off' (Wp.skip (thenK_at (Wp.seq (Wp.text ?_))))
    refine kp 23 (.int IntKind.i64 k) ?_
    refine md 24 (.slice (some ⟨0, 0, none⟩) 0 0) (Blk.mk 46 true []) ?_
    refine kp 25 (.iface 46 (Value.iface (List.length L) (Value.iface x (Value.agg (List.toArray (fts L)))))) ?_
    refine ra 26 (.slice (some ⟨1, 0, none⟩) (0 + List.length L) (0 + List.length L)) (0) (Blk.mk 46 true ([] ++ Array.toList (List.toArray (fts L)))) ?_ (hop := fun _ => o_append (e := 46) (0) (0) (0) _ (0) h1 h2)
    refine kp 27 (.agg #[Value.int .i64 k, Value.slice (some ⟨1, 0, none⟩) (0 + List.length L) (0 + List.length L), Value.int .i64 0, Value.int .i64 0, Value.slice none 0 0]) ?_
    refine md 28 (.pointer (some ⟨2, 0, none⟩)) (Blk.mk 66 true [Value.int .i64 k, Value.slice (some ⟨1, 0, none⟩) (0 + List.length L) (0 + List.length L), Value.int .i64 0, Value.int .i64 0, Value.slice none 0 0]) ?_
    refine kp 4 (.pointer (some ⟨2, 0, none⟩)) ?_
    refine kp 5 (.int IntKind.i64 0) ?_
    refine WpOps.nil (thenK_at (Wp.ret ?_))
    refine endK_retn [Value.pointer (some (Addr.mk 2 0 none)), Value.int IntKind.i64 0] (Value.tuple #[Value.pointer (some (Addr.mk 2 0 none)), Value.int IntKind.i64 0]) (by kernel_rfl) (by kernel_rfl) ?_
    exact ⟨[2], by decide, by kernel_rfl, ⟨⟨[.int .i64 k, .slice (some ⟨1, 0, none⟩) (0 + L.length) (0 + L.length), .int .i64 0, .int .i64 0, .slice none 0 0], by kernel_rfl, .cons (.inl ⟨rfl, rfl⟩) (.cons (.inr ⟨_, by rw [Nat.zero_add]; exact ice_ft L (by kernel_rfl), .inl rfl⟩) (.cons (.inl ⟨rfl, rfl⟩) (.cons (.inl ⟨rfl, rfl⟩) (.cons (.inl ⟨rfl, rfl⟩) .nil))))⟩, trivial⟩, .tuple _ _ rfl rfl (.cons (.un rfl rfl) (.cons (.un rfl rfl) .nil))⟩
end Go.Proofs.Ytdkmdpklojeepaa.D
