/- Routes, tables as they are handed in. -/
import Derived.Test.YtfjkanjmggbofaaFwLem
import Derived.Test.YtfjkanjmggbofaaV12b
namespace Go.Proofs.Ytfjkanjmggbofaa.D
open Go.Fw Go.RowKit

abbrev Rt := Int × Int
def rc (r : Rt) : List Value := [.int .i64 r.1, .int .i64 r.2]
def rcs (l : List Rt) : List Value := l.flatMap rc
/-- A row of routes, as a value. -/
def rowF (e x : Nat) (l : List Rt) : Value := FS e l.length x (rcs l).toArray
/-- Tables, as a value. -/
def tabF (e1 e x : Nat) (T : List (Nat × List Rt)) : Value := FS e1 T.length x (T.map fun p => rowF e p.1 p.2).toArray
theorem rcs_len : ∀ l, (rcs l).length = l.length * 2
  | [] => rfl
  | a :: l => by
    have ih := rcs_len l
    unfold rcs at ih ⊢
    rw [List.flatMap_cons, List.length_append, ih, List.length_cons]
    show 2 + _ = _
    omega
theorem rcs_flat : ∀ l, (rcs l).all flat = true
  | [] => rfl
  | a :: l => by
    have ih := rcs_flat l
    unfold rcs at ih ⊢
    rw [List.flatMap_cons, List.all_append, ih]
    rfl
theorem rcs_slice : ∀ (ls : List Rt) (i : Nat) (d : Rt), i < ls.length → ((rcs ls).drop (i * 2)).take 2 = rc (ls.getD i d)
  | [], i, _, h => absurd h (Nat.not_lt_zero _)
  | a :: l, 0, _, _ => rfl
  | a :: l, i + 1, d, h => by
    have ih := rcs_slice l i d (by simpa using h)
    unfold rcs at ih ⊢
    rw [List.flatMap_cons, show (i + 1) * 2 = 2 + i * 2 by omega, ← List.drop_drop]
    show List.take 2 (List.drop (i * 2) (List.flatMap rc l)) = _
    rw [ih]
    simp
theorem rcs_cells (ls : List Rt) (i : Nat) (d : Rt) (h : i < ls.length) : cellsAt (rcs ls).toArray.toList ((i : Int).toNat * 2) 2 = some (rc (ls.getD i d)) := by
  rw [Int.toNat_natCast, List.toList_toArray]
  have := rcs_slice ls i d h
  unfold cellsAt
  rw [if_pos (by rw [rcs_len]; omega), this]
theorem rcs_at (ls : List Rt) (i : Nat) (d : Rt) (h : i < ls.length) : (rcs ls).toArray.toList[(i : Int).toNat * 2 + 0]? = some (.int .i64 (ls.getD i d).1) ∧ (rcs ls).toArray.toList[(i : Int).toNat * 2 + 1]? = some (.int .i64 (ls.getD i d).2) := by
  have h1 := rcs_slice ls i d h
  have key : ∀ r, r < 2 → (rcs ls).toArray.toList[(i : Int).toNat * 2 + r]? = (rc (ls.getD i d))[r]? := fun r hr => by
    rw [← h1, List.getElem?_take, if_pos hr, List.getElem?_drop, List.toList_toArray, Int.toNat_natCast]
  exact ⟨key 0 (by decide), key 1 (by decide)⟩
theorem tab_at (e : Nat) (T : List (Nat × List Rt)) (i : Nat) (d : Nat × List Rt) (h : i < T.length) : (T.map fun p => rowF e p.1 p.2).toArray.toList[(i : Int).toNat * 1]? = some (rowF e (T.getD i d).1 (T.getD i d).2) := by
  rw [Int.toNat_natCast, Nat.mul_one, List.toList_toArray, List.getElem?_map, List.getElem?_eq_getElem h, List.getD_eq_getElem?_getD, List.getElem?_eq_getElem h]
  rfl

/-! ## routes -/
def routeB (N v to : Int) (r : Rt) : Bool := if v = to then (r.1 == 0 && (r.2 == v && true)) else if r.1 = 16 then r.2 == -1 else bif bif bif decide (r.1 ≥ 1) then decide (r.1 < 16) else false then nodeB N r.2 else false then r.2 != v else false
theorem f62 : E.funcs 62 = some Try.f62 := by kernel_rfl
theorem route62 (N : Int) (x : Nat) (ls : List Lk) (v to : Int) (r : Rt) : Fun E 62 [netV N x ls, .int .i64 v, .int .i64 to, .agg #[.int .i64 r.1, .int .i64 r.2]] (.bool (routeB N v to r)) := by
  obtain ⟨p, q⟩ := r
  have c1 := node53 N x ls q
  dsimp only
  refine Fun.of f62 rfl (of_decide_eq_true (by kernel_rfl)) rfl ?_
  unfold routeB
  unfold netV at c1 ⊢
  unfold lks at c1 ⊢
  by_cases h1 : v = to
  · subst h1
    rw [if_pos rfl]
    have d1 : (v == v) = true := by simp
    refine Wp.seq (Wp.text ?_)
    refine md 4 (.pointer (some ⟨0, 0, none⟩)) (Blk.mk 24 true [Value.int .i64 N, Value.iface 48 (Value.iface (List.length ls) (Value.iface x (Value.agg (List.toArray (lcs ls)))))]) ?_
    refine md 7 (.pointer (some ⟨1, 0, none⟩)) (Blk.mk 47 true [Value.int .i64 p, Value.int .i64 q]) ?_
    refine kp 8 (.bool false) ?_
    refine WpOps.nil (thenK_at (Wp.seq (Wp.seq (Wp.text ?_))))
    refine kp 9 (.int IntKind.i64 v) ?_
    refine kp 10 (.int IntKind.i64 v) ?_
    refine kp 11 (.bool true) ?_ (hop := fun _ => by_fact d1)
    refine WpOps.nil (thenK_at (on' (Wp.seq (Wp.text ?_))))
    refine kp 12 (.agg #[Value.int .i64 p, Value.int .i64 q]) ?_
    refine kp 13 (.int IntKind.i64 v) ?_
    refine kp 14 (.agg #[Value.int .i64 0, Value.int .i64 v]) ?_
    refine kp 15 (.bool ((fun q => p == 0 && q) ((fun q_1 => q == v && q_1) true))) ?_
    refine kp 8 (.bool ((fun q => p == 0 && q) ((fun q_1 => q == v && q_1) true))) ?_
    refine WpOps.nil (thenK_at (Wp.ret (thenK_ret ?_)))
    refine endK_retn [Value.bool ((fun q => p == 0 && q) ((fun q_1 => q == v && q_1) true))] (Value.bool ((fun q => p == 0 && q) ((fun q_1 => q == v && q_1) true))) (by kernel_rfl) (by kernel_rfl) ?_
    rfl
  · rw [if_neg h1]
    have d1 : (v == to) = false := by simpa using h1
    by_cases h2 : p = 16
    · subst h2
      rw [if_pos rfl]
      have d2 : ((16 : Int) == 16) = true := by decide
      refine Wp.seq (Wp.text ?_)
      refine md 4 (.pointer (some ⟨0, 0, none⟩)) (Blk.mk 24 true [Value.int .i64 N, Value.iface 48 (Value.iface (List.length ls) (Value.iface x (Value.agg (List.toArray (lcs ls)))))]) ?_
      refine md 7 (.pointer (some ⟨1, 0, none⟩)) (Blk.mk 47 true [Value.int .i64 16, Value.int .i64 q]) ?_
      refine kp 8 (.bool false) ?_
      refine WpOps.nil (thenK_at (Wp.seq (Wp.seq (Wp.text ?_))))
      refine kp 9 (.int IntKind.i64 v) ?_
      refine kp 10 (.int IntKind.i64 to) ?_
      refine kp 11 (.bool false) ?_ (hop := fun _ => by_fact d1)
      refine WpOps.nil (thenK_at (off' (Wp.skip (thenK_at (Wp.seq (Wp.seq (Wp.text ?_)))))))
      refine kp 16 (.pointer (some ⟨1, 0, none⟩)) ?_
      refine kp 17 (.int IntKind.i64 16) ?_
      refine kp 18 (.bool true) ?_
      refine WpOps.nil (thenK_at (on' (Wp.seq (Wp.text ?_))))
      refine kp 19 (.pointer (some ⟨1, 1, none⟩)) ?_
      refine kp 20 (.int IntKind.i64 q) ?_
      refine kp 21 (.bool (q == -1)) ?_
      refine kp 8 (.bool (q == -1)) ?_
      refine WpOps.nil (thenK_at (Wp.ret (thenK_ret ?_)))
      refine endK_retn [Value.bool (q == -1)] (Value.bool (q == -1)) (by kernel_rfl) (by kernel_rfl) ?_
      rfl
    · rw [if_neg h2]
      have d2 : (p == 16) = false := by simpa using h2
      refine Wp.seq (Wp.text ?_)
      refine md 4 (.pointer (some ⟨0, 0, none⟩)) (Blk.mk 24 true [Value.int .i64 N, Value.iface 48 (Value.iface (List.length ls) (Value.iface x (Value.agg (List.toArray (lcs ls)))))]) ?_
      refine md 7 (.pointer (some ⟨1, 0, none⟩)) (Blk.mk 47 true [Value.int .i64 p, Value.int .i64 q]) ?_
      refine kp 8 (.bool false) ?_
      refine WpOps.nil (thenK_at (Wp.seq (Wp.seq (Wp.text ?_))))
      refine kp 9 (.int IntKind.i64 v) ?_
      refine kp 10 (.int IntKind.i64 to) ?_
      refine kp 11 (.bool false) ?_ (hop := fun _ => by_fact d1)
      refine WpOps.nil (thenK_at (off' (Wp.skip (thenK_at (Wp.seq (Wp.seq (Wp.text ?_)))))))
      refine kp 16 (.pointer (some ⟨1, 0, none⟩)) ?_
      refine kp 17 (.int IntKind.i64 p) ?_
      refine kp 18 (.bool false) ?_ (hop := fun _ => by_fact d2)
      refine WpOps.nil (thenK_at (off' (Wp.skip (thenK_at (Wp.seq (Wp.text ?_))))))
      refine kp 22 (.pointer (some ⟨1, 0, none⟩)) ?_
      refine kp 23 (.int IntKind.i64 p) ?_
      refine kp 24 (.bool (decide (p ≥ 1))) ?_
      refine kp 25 (.bool (decide (p ≥ 1))) ?_
      refine WpOps.fork 4 (decide (p ≥ 1)) [26, 27, 28, 29] 29 (decide (p < 16)) (false) (by kernel_rfl) (fun g29 => ?_) (fun g29 => ?_) (fun f_29 b29 hb29 => ?_)
      · refine kp 26 (.pointer (some ⟨1, 0, none⟩)) ?_ (hw := wants_tt g29)
        refine kp 27 (.int IntKind.i64 p) ?_ (hw := wants_tt g29)
        refine kp 28 (.bool (decide (p < 16))) ?_ (hw := wants_tt g29)
        refine kp 29 (.bool (decide (p < 16))) ?_ (hop := fun _ => o_pickT g29)
        refine WpOps.nil ?_
        exact ⟨rfl, (.upd rfl (.upd rfl (.upd rfl (.upd rfl .refl)))), (by kernel_rfl)⟩
      · refine um 26 ?_ (hw := wants_ft g29)
        refine um 27 ?_ (hw := wants_ft g29)
        refine um 28 ?_ (hw := wants_ft g29)
        refine kp 29 (.bool false) ?_ (hop := fun _ => o_pickF g29)
        refine WpOps.nil ?_
        exact ⟨rfl, (.upd rfl (.upd rfl (.upd rfl (.upd rfl .refl)))), (by kernel_rfl)⟩
      refine kp 30 (.bool b29) ?_
      refine WpOps.fork 5 (b29) [31, 32, 33, 34, 35] 35 (nodeB N q) (false) (by kernel_rfl) (fun g35 => ?_) (fun g35 => ?_) (fun f_35 b35 hb35 => ?_)
      · refine kp 31 (.agg #[Value.int .i64 N, Value.iface 48 (Value.iface (List.length ls) (Value.iface x (Value.agg (List.toArray (lcs ls)))))]) ?_ (hw := wants_tt g35)
        refine kp 32 (.pointer (some ⟨1, 1, none⟩)) ?_ (hw := wants_tt g35)
        refine kp 33 (.int IntKind.i64 q) ?_ (hw := wants_tt g35)
        refine fr 34 53 [Value.agg #[Value.int .i64 N, Value.iface 48 (Value.iface (List.length ls) (Value.iface x (Value.agg (List.toArray (lcs ls)))))], Value.int .i64 q] ?_ (hw := wants_tt g35)
        refine WpFun.of (c1) ?_
        refine kp 35 (.bool (nodeB N q)) ?_ (hop := fun _ => o_pickT g35)
        refine WpOps.nil ?_
        exact ⟨rfl, (.upd rfl (.upd rfl (.upd rfl (.upd rfl (.upd rfl .refl))))), (by kernel_rfl)⟩
      · refine um 31 ?_ (hw := wants_ft g35)
        refine um 32 ?_ (hw := wants_ft g35)
        refine um 33 ?_ (hw := wants_ft g35)
        refine um 34 ?_ (hw := wants_ft g35)
        refine kp 35 (.bool false) ?_ (hop := fun _ => o_pickF g35)
        refine WpOps.nil ?_
        exact ⟨rfl, (.upd rfl (.upd rfl (.upd rfl (.upd rfl (.upd rfl .refl))))), (by kernel_rfl)⟩
      refine kp 36 (.bool b35) ?_
      refine WpOps.fork 5 (b35) [37, 38, 39, 40, 41] 41 (q != v) (false) (by kernel_rfl) (fun g41 => ?_) (fun g41 => ?_) (fun f_41 b41 hb41 => ?_)
      · refine kp 37 (.pointer (some ⟨1, 1, none⟩)) ?_ (hw := wants_tt g41)
        refine kp 38 (.int IntKind.i64 q) ?_ (hw := wants_tt g41)
        refine kp 39 (.int IntKind.i64 v) ?_ (hw := wants_tt g41)
        refine kp 40 (.bool (q != v)) ?_ (hw := wants_tt g41)
        refine kp 41 (.bool (q != v)) ?_ (hop := fun _ => o_pickT g41)
        refine WpOps.nil ?_
        exact ⟨rfl, (.upd rfl (.upd rfl (.upd rfl (.upd rfl (.upd rfl .refl))))), (by kernel_rfl)⟩
      · refine um 37 ?_ (hw := wants_ft g41)
        refine um 38 ?_ (hw := wants_ft g41)
        refine um 39 ?_ (hw := wants_ft g41)
        refine um 40 ?_ (hw := wants_ft g41)
        refine kp 41 (.bool false) ?_ (hop := fun _ => o_pickF g41)
        refine WpOps.nil ?_
        exact ⟨rfl, (.upd rfl (.upd rfl (.upd rfl (.upd rfl (.upd rfl .refl))))), (by kernel_rfl)⟩
      refine kp 8 (.bool b41) ?_
      refine WpOps.nil (thenK_at (Wp.ret ?_))
      refine endK_retn [Value.bool b41] (Value.bool b41) (by kernel_rfl) (by kernel_rfl) ?_
      rw [hb41, hb35, hb29]
      rfl

/-! ## tables -/
def rowOk (N : Int) (l : List Rt) (v : Nat) : Bool := !((l.length : Int) != N) && allR l.length (fun to => routeB N v to (l.getD to (0, 0)))
def tabOk (N : Int) (ls : List Lk) (T : List (Nat × List Rt)) : Bool := valid N ls && !((T.length : Int) != N) && allR T.length (fun v => rowOk N (T.getD v (0, [])).2 v)
def nv (N : Int) (x : Nat) (ls : List Lk) : Blk := ⟨24, true, [.int .i64 N, lks x ls]⟩
theorem tabOk_bad {N : Int} {ls : List Lk} {T : List (Nat × List Rt)} {v : Nat} (hv : v < T.length) (h : rowOk N (T.getD v (0, [])).2 v = false) : tabOk N ls T = false := by
  unfold tabOk
  rw [allR_false (P := fun v => rowOk N (T.getD v (0, [])).2 v) hv h, Bool.and_false]
theorem f40 : E.funcs 40 = some Try.f40 := by kernel_rfl
set_option maxHeartbeats 4000000 in
theorem tables40 (N : Int) (x : Nat) (ls : List Lk) (xt : Nat) (T : List (Nat × List Rt)) (hv : Fun E 25 [netV N x ls] (.bool (valid N ls))) (hz : T.length ≤ 17592186044416) (hw : ∀ p ∈ T, p.2.length ≤ 17592186044416) : Fun E 40 [netV N x ls, tabF 45 47 xt T] (.bool (tabOk N ls T)) := by
  refine Fun.of f40 rfl (of_decide_eq_true (by kernel_rfl)) rfl ?_
  unfold netV at hv ⊢
  unfold tabF
  unfold lks at hv ⊢
  refine Wp.seq (Wp.text ?_)
  refine md 2 (.pointer (some ⟨0, 0, none⟩)) (Blk.mk 24 true [Value.int .i64 N, Value.iface 48 (Value.iface (List.length ls) (Value.iface x (Value.agg (List.toArray (lcs ls)))))]) ?_
  refine kp 4 (.bool false) ?_
  refine WpOps.nil (thenK_at (Wp.seq (Wp.seq (Wp.text ?_))))
  refine kp 9 (.agg #[Value.int .i64 N, Value.iface 48 (Value.iface (List.length ls) (Value.iface x (Value.agg (List.toArray (lcs ls)))))]) ?_
  refine fr 10 25 [Value.agg #[Value.int .i64 N, Value.iface 48 (Value.iface (List.length ls) (Value.iface x (Value.agg (List.toArray (lcs ls)))))]] ?_
  refine WpFun.of (hv) ?_
  refine kp 11 (.bool !valid N ls) ?_
  refine kp 12 (.bool !valid N ls) ?_
  refine WpOps.fork 6 (!valid N ls) [13, 14, 15, 16, 17, 18] 18 (true) ((↑(List.length T) : Int) != N) (by kernel_rfl) (fun g18 => ?_) (fun g18 => ?_) (fun f_18 b18 hb18 => ?_)
  · refine um 13 ?_ (hw := wants_tf g18)
    refine um 14 ?_ (hw := wants_tf g18)
    refine um 15 ?_ (hw := wants_tf g18)
    refine um 16 ?_ (hw := wants_tf g18)
    refine um 17 ?_ (hw := wants_tf g18)
    refine kp 18 (.bool true) ?_ (hop := fun _ => o_pickT g18)
    refine WpOps.nil ?_
    exact ⟨rfl, (.upd rfl (.upd rfl (.upd rfl (.upd rfl (.upd rfl (.upd rfl .refl)))))), (by kernel_rfl)⟩
  · refine kp 13 (.iface 45 (Value.iface (List.length T) (Value.iface xt (Value.agg (List.toArray (List.map (fun p => rowF 47 (Prod.fst p) (Prod.snd p)) T)))))) ?_ (hw := wants_ff g18)
    refine kp 14 (.int IntKind.i64 (↑(List.length T) : Int)) ?_ (hw := wants_ff g18)
    refine kp 15 (.pointer (some ⟨0, 0, none⟩)) ?_ (hw := wants_ff g18)
    refine kp 16 (.int IntKind.i64 N) ?_ (hw := wants_ff g18)
    refine kp 17 (.bool ((↑(List.length T) : Int) != N)) ?_ (hw := wants_ff g18)
    refine kp 18 (.bool ((↑(List.length T) : Int) != N)) ?_ (hop := fun _ => o_pickF g18)
    refine WpOps.nil ?_
    exact ⟨rfl, (.upd rfl (.upd rfl (.upd rfl (.upd rfl (.upd rfl (.upd rfl .refl)))))), (by kernel_rfl)⟩
  refine WpOps.nil (thenK_at ?_)
  have hb : b18 = !(valid N ls && !((T.length : Int) != N)) := by
    rw [hb18]
    cases valid N ls <;> cases ((T.length : Int) != N) <;> rfl
  clear hb18
  refine Wp.split (b18) (by kernel_rfl) (fun hx => ?_) (fun hx => ?_)
  · refine Wp.seq (Wp.text ?_)
    refine kp 4 (.bool false) ?_
    refine WpOps.nil (thenK_at (Wp.ret (thenK_ret ?_)))
    refine endK_retn [Value.bool false] (Value.bool false) (by kernel_rfl) (by kernel_rfl) ?_
    have : tabOk N ls T = false := by
      unfold tabOk
      rw [bnot hb, hx]
      rfl
    rw [this]
    rfl
  have hN : (valid N ls && !((T.length : Int) != N)) = true := by rw [bnot hb, hx]; rfl
  clear hb
  refine Wp.skip (thenK_at (Wp.seq (Wp.seq (Wp.text ?_))))
  refine kp 19 (.iface 45 (Value.iface (List.length T) (Value.iface xt (Value.agg (List.toArray (List.map (fun p => rowF 47 (Prod.fst p) (Prod.snd p)) T)))))) ?_
  refine kp 20 (.int IntKind.i64 (↑(List.length T) : Int)) ?_
  refine kp 21 (.int IntKind.i64 0) ?_
  refine WpOps.nil (thenK_at (Wp.block ?_))
  refine Wp.loop (G := Nat) (fun v => layj [(2, .pointer (some ⟨0, 0, none⟩)), (19, tabF 45 47 xt T), (20, .int .i64 T.length), (21, .int .i64 v)]) (fun _ => heapOf [nv N x ls]) (fun v => T.length - v) (fun v => v ≤ T.length ∧ ∀ i, i < v → rowOk N (T.getD i (0, [])).2 i = true) 0
    (View.of [0] [nv N x ls] _ (by decide) rfl ⟨⟨[.int .i64 N, lks x ls], by kernel_rfl, by kernel_rfl, by kernel_rfl⟩, trivial⟩ ⟨⟨by kernel_rfl, rfl⟩, ⟨by kernel_rfl, rfl⟩, ⟨by kernel_rfl, rfl⟩, ⟨by kernel_rfl, rfl⟩, trivial⟩) ⟨Nat.zero_le _, fun i hi => absurd hi (Nat.not_lt_zero _)⟩ ?_
  rintro v ⟨hle, hp⟩
  by_cases hlt : v < T.length
  · have d1 : decide ((v : Int) < T.length) = true := decide_eq_true (by omega)
    have g1 : 0 ≤ (v : Int) ∧ (v : Int) < T.length := by omega
    have v1 := tab_at 47 T v (0, []) hlt
    obtain ⟨p, hpT⟩ : ∃ p, p = T.getD v (0, []) := ⟨_, rfl⟩
    have hpm : p ∈ T := by
      rw [hpT, List.getD_eq_getElem?_getD, List.getElem?_eq_getElem hlt]
      exact List.getElem_mem _
    have hwp := hw p hpm
    rw [← hpT] at v1
    obtain ⟨xr, l⟩ := p
    unfold rowF at v1
    dsimp only at v1 hwp
    unfold tabF nv lks
    refine Wp.seq (Wp.text ?_)
    refine kp 22 (.bool true) ?_ (hop := fun _ => by_fact d1)
    refine WpOps.nil (thenK_at (Wp.seq (on' (Wp.skip (thenK_at (Wp.seq (Wp.block (Wp.seq (Wp.text ?_)))))))))
    refine kp 23 (.int IntKind.i64 (↑v : Int)) ?_
    refine kp 24 (.iface 45 (Value.iface (Int.toNat (↑v : Int) * 1) (Value.agg (List.toArray (List.map (fun p => rowF 47 (Prod.fst p) (Prod.snd p)) T))))) ?_ (hop := fun _ => o_indexI (e := 45) (size := 1) (a := (↑v : Int)) g1)
    refine kp 25 (.iface 47 (Value.iface (List.length l) (Value.iface xr (Value.agg (List.toArray (rcs l)))))) ?_ (hop := fun _ => o_loadI1 (Int.toNat (↑v : Int) * 1) v1)
    refine kp 5 (.int IntKind.i64 (↑v : Int)) ?_
    refine kp 6 (.iface 47 (Value.iface (List.length l) (Value.iface xr (Value.agg (List.toArray (rcs l)))))) ?_
    refine WpOps.nil (thenK_at (Wp.seq (Wp.seq (Wp.text ?_))))
    refine kp 26 (.iface 47 (Value.iface (List.length l) (Value.iface xr (Value.agg (List.toArray (rcs l)))))) ?_
    refine kp 27 (.int IntKind.i64 (↑(List.length l) : Int)) ?_
    refine kp 28 (.pointer (some ⟨0, 0, none⟩)) ?_
    refine kp 29 (.int IntKind.i64 N) ?_
    refine kp 30 (.bool ((↑(List.length l) : Int) != N)) ?_
    refine WpOps.nil (thenK_at ?_)
    refine Wp.split ((↑(List.length l) : Int) != N) (by kernel_rfl) (fun hx2 => ?_) (fun hx2 => ?_)
    · refine Wp.seq (Wp.text ?_)
      refine kp 4 (.bool false) ?_
      refine WpOps.nil (thenK_at (Wp.ret (thenK_ret (blockK_ret (thenK_ret (thenK_ret (blockK_ret (thenK_ret ?_))))))))
      refine endK_retn [Value.bool false] (Value.bool false) (by kernel_rfl) (by kernel_rfl) ?_
      rw [tabOk_bad hlt (by rw [← hpT]; unfold rowOk; rw [hx2]; rfl)]
      rfl
    refine Wp.skip (thenK_at (Wp.seq (Wp.text ?_)))
    refine kp 31 (.iface 47 (Value.iface (List.length l) (Value.iface xr (Value.agg (List.toArray (rcs l)))))) ?_
    refine kp 32 (.int IntKind.i64 (↑(List.length l) : Int)) ?_
    refine kp 33 (.int IntKind.i64 0) ?_
    refine WpOps.nil (thenK_at (Wp.block ?_))
    refine Wp.loop (G := Nat) (fun k => layj [(2, .pointer (some ⟨0, 0, none⟩)), (19, tabF 45 47 xt T), (20, .int .i64 T.length), (21, .int .i64 v), (5, .int .i64 v), (31, rowF 47 xr l), (32, .int .i64 l.length), (33, .int .i64 k)]) (fun _ => heapOf [nv N x ls]) (fun k => l.length - k) (fun k => k ≤ l.length ∧ ∀ i, i < k → routeB N v i (l.getD i (0, 0)) = true) 0
      (View.of [0] [nv N x ls] _ (by decide) rfl ⟨⟨[.int .i64 N, lks x ls], by kernel_rfl, by kernel_rfl, by kernel_rfl⟩, trivial⟩ ⟨⟨by kernel_rfl, rfl⟩, ⟨by kernel_rfl, rfl⟩, ⟨by kernel_rfl, rfl⟩, ⟨by kernel_rfl, rfl⟩, ⟨by kernel_rfl, rfl⟩, ⟨by kernel_rfl, rfl⟩, ⟨by kernel_rfl, rfl⟩, ⟨by kernel_rfl, rfl⟩, trivial⟩) ⟨Nat.zero_le _, fun i hi => absurd hi (Nat.not_lt_zero _)⟩ ?_
    rintro k ⟨hk, hq⟩
    by_cases hlt2 : k < l.length
    · have d2 : decide ((k : Int) < l.length) = true := decide_eq_true (by omega)
      have g2 : 0 ≤ (k : Int) ∧ (k : Int) < l.length := by omega
      have v2 := rcs_cells l k (0, 0) hlt2
      have c1 := route62 N x ls v k (l.getD k (0, 0))
      unfold rc at v2
      unfold netV lks at c1
      unfold rowF nv lks
      refine Wp.seq (Wp.text ?_)
      refine kp 34 (.bool true) ?_ (hop := fun _ => by_fact d2)
      refine WpOps.nil (thenK_at (Wp.seq (on' (Wp.skip (thenK_at (Wp.seq (Wp.block (Wp.seq (Wp.text ?_)))))))))
      refine kp 35 (.int IntKind.i64 (↑k : Int)) ?_
      refine kp 36 (.iface 47 (Value.iface (Int.toNat (↑k : Int) * 2) (Value.agg (List.toArray (rcs l))))) ?_ (hop := fun _ => o_indexI (e := 47) (size := 2) (a := (↑k : Int)) g2)
      refine kp 37 (.agg #[Value.int .i64 (Prod.fst (List.getD l k (0, 0))), Value.int .i64 (Prod.snd (List.getD l k (0, 0)))]) ?_ (hop := fun _ => o_loadIA (Int.toNat (↑k : Int) * 2) v2)
      refine md 8 (.pointer (some ⟨1, 0, none⟩)) (Blk.mk 47 true [Value.int .i64 0, Value.int .i64 0]) ?_
      refine kp 7 (.int IntKind.i64 (↑k : Int)) ?_
      refine ld (.tuple #[]) (1) (Blk.mk 47 true [Value.int .i64 (Prod.fst (List.getD l k (0, 0))), Value.int .i64 (Prod.snd (List.getD l k (0, 0)))]) ?_
      refine WpOps.nil (thenK_at (Wp.seq (Wp.text ?_)))
      refine kp 38 (.agg #[Value.int .i64 N, Value.iface 48 (Value.iface (List.length ls) (Value.iface x (Value.agg (List.toArray (lcs ls)))))]) ?_
      refine kp 39 (.int IntKind.i64 (↑v : Int)) ?_
      refine kp 40 (.int IntKind.i64 (↑k : Int)) ?_
      refine kp 41 (.agg #[Value.int .i64 (Prod.fst (List.getD l k (0, 0))), Value.int .i64 (Prod.snd (List.getD l k (0, 0)))]) ?_
      refine fr 42 62 [Value.agg #[Value.int .i64 N, Value.iface 48 (Value.iface (List.length ls) (Value.iface x (Value.agg (List.toArray (lcs ls)))))], Value.int .i64 (↑v : Int), Value.int .i64 (↑k : Int), Value.agg #[Value.int .i64 (Prod.fst (List.getD l k (0, 0))), Value.int .i64 (Prod.snd (List.getD l k (0, 0)))]] ?_
      refine WpFun.of (c1) ?_
      refine kp 43 (.bool !routeB N (↑v : Int) (↑k : Int) (List.getD l k (0, 0))) ?_
      refine WpOps.nil (thenK_at ?_)
      refine Wp.split (!routeB N (↑v : Int) (↑k : Int) (List.getD l k (0, 0))) (by kernel_rfl) (fun hx3 => ?_) (fun hx3 => ?_)
      · refine Wp.seq (Wp.text ?_)
        refine kp 4 (.bool false) ?_
        refine WpOps.nil (thenK_at (Wp.ret (blockK_ret (thenK_ret (thenK_ret (blockK_ret (blockK_ret (thenK_ret (thenK_ret (blockK_ret (thenK_ret ?_)))))))))))
        refine endK_retn [Value.bool false] (Value.bool false) (by kernel_rfl) (by kernel_rfl) ?_
        have hx4 : routeB N v k (l.getD k (0, 0)) = false := by simpa using hx3
        rw [tabOk_bad hlt (by rw [← hpT]; unfold rowOk; rw [allR_false hlt2 hx4, Bool.and_false])]
        rfl
      · refine Wp.skip (blockK_norm (thenK_at (Wp.text ?_)))
        refine kp 44 (.int IntKind.i64 (IntKind.wrap .i64 ((↑k : Int) + 1))) ?_
        refine kp 33 (.int IntKind.i64 (IntKind.wrap .i64 ((↑k : Int) + 1))) ?_
        refine WpOps.nil (thenK_at ?_)
        have hx4 : routeB N v k (l.getD k (0, 0)) = true := by simpa using hx3
        exact ⟨k + 1, by omega, ⟨by omega, upto hq hx4⟩, View.of [0] [nv N x ls] _ (by decide) rfl ⟨⟨[.int .i64 N, lks x ls], by kernel_rfl, by kernel_rfl, by kernel_rfl⟩, trivial⟩ ⟨⟨by kernel_rfl, rfl⟩, ⟨by kernel_rfl, rfl⟩, ⟨by kernel_rfl, rfl⟩, ⟨by kernel_rfl, rfl⟩, ⟨by kernel_rfl, rfl⟩, ⟨by kernel_rfl, rfl⟩, ⟨by kernel_rfl, rfl⟩, ⟨congrArg (Value.int .i64) (wr _ (by omega) (by omega)), rfl⟩, trivial⟩⟩
    · obtain rfl : k = l.length := by omega
      have d2 : decide ((l.length : Int) < l.length) = false := decide_eq_false (by omega)
      refine Wp.seq (Wp.text ?_)
      refine kp 34 (.bool false) ?_ (hop := fun _ => by_fact d2)
      refine WpOps.nil (thenK_at (Wp.seq (off' (Wp.exit (thenK_exit (thenK_exit (blockK_hit (blockK_norm (thenK_at (Wp.text ?_))))))))))
      refine kp 45 (.int IntKind.i64 (IntKind.wrap .i64 ((↑v : Int) + 1))) ?_
      refine kp 21 (.int IntKind.i64 (IntKind.wrap .i64 ((↑v : Int) + 1))) ?_
      refine WpOps.nil (thenK_at ?_)
      exact ⟨v + 1, by omega, ⟨by omega, upto hp (by rw [← hpT]; unfold rowOk; rw [hx2, allR_true hq]; rfl)⟩, View.of [0] [nv N x ls] _ (by decide) rfl ⟨⟨[.int .i64 N, lks x ls], by kernel_rfl, by kernel_rfl, by kernel_rfl⟩, trivial⟩ ⟨⟨by kernel_rfl, rfl⟩, ⟨by kernel_rfl, rfl⟩, ⟨by kernel_rfl, rfl⟩, ⟨congrArg (Value.int .i64) (wr _ (by omega) (by omega)), rfl⟩, trivial⟩⟩
  · obtain rfl : v = T.length := by omega
    have d1 : decide ((T.length : Int) < T.length) = false := decide_eq_false (by omega)
    refine Wp.seq (Wp.text ?_)
    refine kp 22 (.bool false) ?_ (hop := fun _ => by_fact d1)
    refine WpOps.nil (thenK_at (Wp.seq (off' (Wp.exit (thenK_exit (thenK_exit (blockK_hit (thenK_at (Wp.seq (Wp.text ?_))))))))))
    refine kp 4 (.bool true) ?_
    refine WpOps.nil (thenK_at (Wp.ret ?_))
    refine endK_retn [Value.bool true] (Value.bool true) (by kernel_rfl) (by kernel_rfl) ?_
    have : tabOk N ls T = true := by
      unfold tabOk
      rw [hN, allR_true hp]
      rfl
    rw [this]
    rfl
end Go.Proofs.Ytfjkanjmggbofaa.D
