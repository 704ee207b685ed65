/- What validity says; the laws VectorRounds, VectorSettles. -/
import Derived.Test.YtfjkanjmggbofaaV12m
import Derived.Test.YtfjkanjmggbofaaFwLem
import Derived.Test.YtfjkanjmggbofaaFwCons
import Derived.Test.YtfjkanjmggbofaaV12vx
namespace Go.Proofs.Ytfjkanjmggbofaa.D
open Go.Fw Go.RowKit

theorem hit_iff (i j : Nat) (l : Lk) : hit (i : Int) (j : Int) l = true ↔ l.1 = ((min i j : Nat) : Int) ∧ l.2.1 = ((max i j : Nat) : Int) := by
  have h1 : (if (j : Int) < i then (j : Int) else i) = ((min i j : Nat) : Int) := by
    split <;> omega
  have h2 : (if (j : Int) > i then (j : Int) else i) = ((max i j : Nat) : Int) := by
    split <;> omega
  unfold hit
  rw [h1, h2]
  simp
theorem cost_take (ls : List Lk) (hd : ∀ k, k < ls.length → ∀ j, j < k → sameE (lk ls j) (lk ls k) = false) (i j : Nat) : ∀ k, k ≤ ls.length → cAt (ls.take k) i j = costF (ls.take k) i j
  | 0, _ => rfl
  | k + 1, h => by
    have ih := cost_take ls hd i j k (by omega)
    rw [cAt_snoc ls k (by omega), ih]
    have hs : ls.take (k + 1) = ls.take k ++ [lk ls k] := by
      rw [List.take_add_one, List.getElem?_eq_getElem (by omega)]
      simp [lk, List.getD_eq_getElem?_getD, List.getElem?_eq_getElem (show k < ls.length by omega)]
    have hc : costF (ls.take k ++ [lk ls k]) i j = match (ls.take k).find? (hit i j) with
      | some m => m.2.2
      | none => if hit i j (lk ls k) = true then (lk ls k).2.2 else 0 := by
      unfold costF
      rw [List.find?_append]
      cases (ls.take k).find? (hit i j) with
      | some m => rfl
      | none =>
        rw [Option.none_or, List.find?_singleton]
        cases hit (i : Int) (j : Int) (lk ls k) <;> rfl
    rw [hs, hc]
    by_cases hh : hit (i : Int) (j : Int) (lk ls k) = true
    · have h2 := (hit_iff i j (lk ls k)).1 hh
      have hn : (ls.take k).find? (hit i j) = none := by
        rw [List.find?_eq_none]
        intro m hm
        obtain ⟨p, hp, rfl⟩ := List.getElem_of_mem hm
        rw [List.length_take] at hp
        have e : (ls.take k)[p] = lk ls p := by simp [lk, List.getD_eq_getElem?_getD, List.getElem?_eq_getElem (show p < ls.length by omega)]
        rw [e]
        intro h3
        have h4 := (hit_iff i j (lk ls p)).1 h3
        have h5 := hd k (by omega) p (by omega)
        unfold sameE at h5
        rw [h4.1, h4.2, h2.1, h2.2] at h5
        simp at h5
      have hc2 : (ls.getD k (0, 0, 0)).1 = ((min i j : Nat) : Int) ∧ (ls.getD k (0, 0, 0)).2.1 = ((max i j : Nat) : Int) := h2
      rw [hn, if_pos hc2]
      simp only [hh, if_true]
      rfl
    · have hc2 : ¬ ((ls.getD k (0, 0, 0)).1 = ((min i j : Nat) : Int) ∧ (ls.getD k (0, 0, 0)).2.1 = ((max i j : Nat) : Int)) := fun h => hh ((hit_iff i j (lk ls k)).2 h)
      rw [if_neg hc2]
      simp only [hh]
      unfold costF
      cases (ls.take k).find? (hit i j) <;> rfl
theorem lk_mem {ls : List Lk} {l : Lk} (h : l ∈ ls) : ∃ k, k < ls.length ∧ lk ls k = l := by
  obtain ⟨k, hk, rfl⟩ := List.getElem_of_mem h
  exact ⟨k, hk, by simp [lk, List.getD_eq_getElem?_getD, List.getElem?_eq_getElem hk]⟩
/-- What a valid net is. -/
structure Good (n : Nat) (ls : List Lk) : Prop where
  hN : 1 ≤ n ∧ n ≤ 20
  hl : ∀ l ∈ ls, okLk n l
  same : cAt ls = cF ls
  range : ∀ i j, 0 ≤ cF ls i j ∧ cF ls i j ≤ 15
  diag : ∀ i, cF ls i i = 0
theorem good_of {N : Int} {ls : List Lk} (h : valid N ls = true) : ∃ n : Nat, N = n ∧ Good n ls := by
  unfold valid at h
  simp only [Bool.and_eq_true, decide_eq_true_eq] at h
  obtain ⟨⟨h1, h2⟩, h3⟩ := h
  obtain ⟨n, rfl⟩ := Int.eq_ofNat_of_zero_le (show 0 ≤ N by omega)
  have hk : ∀ k, k < ls.length → okB n (lk ls k) = true ∧ ∀ j, j < k → sameE (lk ls j) (lk ls k) = false := fun k hk => by
    have := allR_at h3 hk
    unfold linkB at this
    rw [Bool.and_eq_true] at this
    refine ⟨this.1, fun j hj => ?_⟩
    have h4 := allR_at this.2 hj
    simpa using h4
  have hok : ∀ l ∈ ls, okLk n l := fun l hl => by
    obtain ⟨k, hk2, rfl⟩ := lk_mem hl
    have := (hk k hk2).1
    unfold okB at this
    simp only [Bool.and_eq_true, decide_eq_true_eq] at this
    exact ⟨this.1.1.1.1, this.1.1.1.2, this.1.1.2, this.1.2, this.2⟩
  have hsame : cAt ls = cF ls := by
    funext i j
    have := cost_take ls (fun k hk2 => (hk k hk2).2) i j ls.length (Nat.le_refl _)
    rwa [List.take_length] at this
  refine ⟨n, rfl, ⟨by omega, hok, hsame, fun i j => ?_, fun i => ?_⟩⟩
  · rw [← hsame]
    exact cAt_range hok i j
  · unfold cF costF
    have : ls.find? (hit (i : Int) (i : Int)) = none := by
      rw [List.find?_eq_none]
      intro l hl h5
      have h6 := (hit_iff i i l).1 h5
      obtain ⟨_, h7, _⟩ := hok l hl
      omega
    rw [this]
theorem routeB_facts {n v to : Nat} {r : Rt} (h : routeB n v to r = true) : (0 ≤ r.1 ∧ r.1 ≤ 16) ∧ (v = to → r = (0, (v : Int))) := by
  unfold routeB at h
  by_cases e : (v : Int) = to
  · rw [if_pos e] at h
    simp at h
    exact ⟨by omega, fun _ => Prod.ext h.1 h.2⟩
  · rw [if_neg e] at h
    refine ⟨?_, fun e2 => absurd (by omega) e⟩
    by_cases e2 : r.1 = 16
    · omega
    · rw [if_neg e2] at h
      unfold nodeB at h
      simp at h
      omega
/-- Tables as a function. -/
def tf (T : List (Nat × List Rt)) (i j : Nat) : Rt := (T.getD i (0, [])).2.getD j (0, 0)
structure GoodT (n : Nat) (f : Nat → Nat → Rt) : Prop where
  range : ∀ i j, i < n → j < n → 0 ≤ (f i j).1 ∧ (f i j).1 ≤ 16
  diag : ∀ i, i < n → f i i = (0, (i : Int))
  ok : ∀ i j, i < n → j < n → routeB n i j (f i j) = true
theorem goodT_of {n : Nat} {ls : List Lk} {T : List (Nat × List Rt)} (h : tabOk n ls T = true) : T.length = n ∧ (∀ p ∈ T, p.2.length = n) ∧ GoodT n (tf T) := by
  unfold tabOk at h
  simp only [Bool.and_eq_true] at h
  obtain ⟨⟨_, h1⟩, h2⟩ := h
  have hl : T.length = n := by
    have : (T.length : Int) = n := by simpa using h1
    omega
  have hr : ∀ i, i < n → (T.getD i (0, [])).2.length = n ∧ ∀ j, j < n → routeB n i j (tf T i j) = true := fun i hi => by
    have := allR_at h2 (j := i) (by omega)
    unfold rowOk at this
    simp only [Bool.and_eq_true] at this
    have hl2 : (T.getD i (0, [])).2.length = n := by
      have h5 : ((T.getD i (0, [])).2.length : Int) = n := by simpa using this.1
      omega
    refine ⟨hl2, fun j hj => ?_⟩
    have h3 := allR_at this.2 (j := j) (by omega)
    exact h3
  refine ⟨hl, fun p hp => ?_, fun i j hi hj => (routeB_facts ((hr i hi).2 j hj)).1, fun i hi => (routeB_facts ((hr i hi).2 i hi)).2 rfl, fun i j hi hj => (hr i hi).2 j hj⟩
  obtain ⟨i, hi, rfl⟩ := List.getElem_of_mem hp
  have := (hr i (by omega)).1
  rwa [List.getD_eq_getElem?_getD, List.getElem?_eq_getElem hi] at this
theorem tab_is {n : Nat} {T : List (Nat × List Rt)} (hl : T.length = n) (hr : ∀ p ∈ T, p.2.length = n) (h0 : ∀ p ∈ T, p.1 = 0) : T = matT n (tf T) := by
  apply List.ext_getElem?
  intro i
  unfold matT
  by_cases hi : i < n
  · have hi2 : i < T.length := by omega
    rw [List.getElem?_map, List.getElem?_range hi, List.getElem?_eq_getElem hi2]
    have hm := List.getElem_mem hi2
    have e1 := h0 _ hm
    have e2 := hr _ hm
    show some T[i] = some (0, (List.range n).map (tf T i))
    congr 1
    refine Prod.ext e1 ?_
    apply List.ext_getElem?
    intro j
    by_cases hj : j < n
    · rw [List.getElem?_map, List.getElem?_range hj, List.getElem?_eq_getElem (by omega)]
      unfold tf
      simp [List.getD_eq_getElem?_getD, List.getElem?_eq_getElem hi2, List.getElem?_eq_getElem (show j < T[i].2.length by omega)]
    · rw [List.getElem?_eq_none (by omega), List.getElem?_eq_none (by simp; omega)]
  · rw [List.getElem?_eq_none (by omega), List.getElem?_eq_none (by simp; omega)]
/-- Rounds keep tables good. -/
theorem it_range {n : Nat} {c : Nat → Nat → Int} {poison : Bool} {f : Nat → Nat → Rt} (hc : ∀ i j, 0 ≤ c i j ∧ c i j ≤ 15) (hf : ∀ i j, i < n → j < n → 0 ≤ (f i j).1 ∧ (f i j).1 ≤ 16) : ∀ k i j, i < n → j < n → 0 ≤ (it n c poison f k i j).1 ∧ (it n c poison f k i j).1 ≤ 16
  | 0, i, j, hi, hj => hf i j hi hj
  | k + 1, i, j, hi, hj => by
    have ih := it_range (poison := poison) hc hf k
    show 0 ≤ (roundF n c poison _ i j).1 ∧ (roundF n c poison _ i j).1 ≤ 16
    unfold roundF
    split
    · exact ih i j hi hj
    · exact bestN_range hc (fun w hw => ih w j hw hj) n (Nat.le_refl _)
theorem it_diag {n : Nat} {c : Nat → Nat → Int} {poison : Bool} {f : Nat → Nat → Rt} (hd : ∀ i, i < n → f i i = (0, (i : Int))) : ∀ k i, i < n → it n c poison f k i i = (0, (i : Int))
  | 0, i, hi => hd i hi
  | k + 1, i, hi => by
    show roundF n c poison _ i i = _
    unfold roundF
    rw [if_pos rfl]
    exact it_diag hd k i hi
open Go.Fw Go.RowKit

theorem lcs_flat : ∀ ls, (lcs ls).all flat = true
  | [] => rfl
  | a :: l => by
    have ih := lcs_flat l
    unfold lcs at ih ⊢
    rw [List.flatMap_cons, List.all_append, ih]
    rfl
theorem agg2_ice {hp : Heap} {v u : Value} {k : IntKind} {n : Int} (h : iceC E hp 4 v = some u) : iceV E hp (.agg #[.int k n, v]) = some (.agg #[.int k n, u]) := by
  have h2 : mapO (iceC E hp 4) [.int k n, v] = some [.int k n, u] := by
    simp only [mapO, h]
    rfl
  show (mapO (iceC E hp 4) [.int k n, v]).map _ = _
  rw [h2]
  rfl
theorem f14 : E.funcs 14 = some Try.f14 := by kernel_rfl
theorem to14 (N : Int) (x : Nat) (ls : List Lk) (hz : ls.length * 24 ≤ 140737488351232) : Fun E 14 [netV N x ls] (netV N 0 ls) := by
  refine Fun.of f14 rfl (of_decide_eq_true (by kernel_rfl)) rfl ?_
  unfold netV
  rcases Nat.eq_zero_or_pos ls.length with h0 | h0
  · obtain rfl := List.eq_nil_of_length_eq_zero h0
    rw [show lks x [] = FS 48 0 x #[] from rfl]
    refine Wp.seq (Wp.text ?_)
    refine md 1 (.pointer (some ⟨0, 0, none⟩)) (Blk.mk 24 true [Value.int .i64 N, Value.iface 48 (Value.iface 0 (Value.iface x (Value.agg #[])))]) ?_
    refine md 2 (.pointer (some ⟨1, 0, none⟩)) (Blk.mk 34 true [Value.int .i64 0, Value.slice none 0 0]) ?_
    refine WpOps.nil (thenK_at (Wp.seq ?_))
    refine Wp.regionT (by kernel_rfl) (by kernel_rfl) ?_
    refine kp 3 (.pointer (some ⟨0, 0, none⟩)) ?_
    refine kp 4 (.int IntKind.i64 N) ?_
    refine md 5 (.slice (some ⟨2, 0, none⟩) 0 0) (Blk.mk 48 true []) ?_
    refine kp 6 (.pointer (some ⟨0, 1, none⟩)) ?_
    refine kp 7 (.iface 48 (Value.iface 0 (Value.iface x (Value.agg #[])))) ?_
    refine kp 8 (.slice (some ⟨2, 0, none⟩) 0 0) ?_
    refine kp 9 (.agg #[Value.int .i64 N, Value.slice (some ⟨2, 0, none⟩) 0 0]) ?_
    refine ld (.tuple #[]) (1) (Blk.mk 34 true [Value.int .i64 N, Value.slice (some ⟨2, 0, none⟩) 0 0]) ?_
    refine WpOps.nil ?_
    refine ⟨by kernel_rfl, ?_⟩
    refine thenK_at (Wp.ret ?_)
    refine endK_retn [Value.agg #[Value.int IntKind.i64 N, Value.slice (some (Addr.mk 2 0 none)) 0 0]] (Value.agg #[Value.int IntKind.i64 N, Value.slice (some (Addr.mk 2 0 none)) 0 0]) (by kernel_rfl) (by kernel_rfl) ?_
    kernel_rfl
  · have h1 : ¬ (0 + ls.length ≤ 0) := by omega
    have h2 : 1 ≤ 24 ∧ (0 + ls.length) * 24 ≤ 140737488355328 ∧ 3 = 3 ∧ 0 + ls.length ≤ 9223372036854775807 := by omega
    unfold lks
    refine Wp.seq (Wp.text ?_)
    refine md 1 (.pointer (some ⟨0, 0, none⟩)) (Blk.mk 24 true [Value.int .i64 N, Value.iface 48 (Value.iface (List.length ls) (Value.iface x (Value.agg (List.toArray (lcs ls)))))]) ?_
    refine md 2 (.pointer (some ⟨1, 0, none⟩)) (Blk.mk 34 true [Value.int .i64 0, Value.slice none 0 0]) ?_
    refine WpOps.nil (thenK_at (Wp.seq ?_))
    refine Wp.regionT (by kernel_rfl) (by kernel_rfl) ?_
    refine kp 3 (.pointer (some ⟨0, 0, none⟩)) ?_
    refine kp 4 (.int IntKind.i64 N) ?_
    refine md 5 (.slice (some ⟨2, 0, none⟩) 0 0) (Blk.mk 48 true []) ?_
    refine kp 6 (.pointer (some ⟨0, 1, none⟩)) ?_
    refine kp 7 (.iface 48 (Value.iface (List.length ls) (Value.iface x (Value.agg (List.toArray (lcs ls)))))) ?_
    refine ra 8 (.slice (some ⟨3, 0, none⟩) (0 + List.length ls) (0 + List.length ls)) (2) (Blk.mk 48 true ([] ++ Array.toList (List.toArray (lcs ls)))) ?_ (hop := fun _ => o_append (e := 48) (2) (0) (0) _ (0) h1 h2)
    refine kp 9 (.agg #[Value.int .i64 N, Value.slice (some ⟨3, 0, none⟩) (0 + List.length ls) (0 + List.length ls)]) ?_
    refine ld (.tuple #[]) (1) (Blk.mk 34 true [Value.int .i64 N, Value.slice (some ⟨3, 0, none⟩) (0 + List.length ls) (0 + List.length ls)]) ?_
    refine WpOps.nil ?_
    refine ⟨by kernel_rfl, ?_⟩
    refine thenK_at (Wp.ret ?_)
    refine endK_retn [Value.agg #[Value.int IntKind.i64 N, Value.slice (some (Addr.mk 3 0 none)) (0 + List.length ls) (0 + List.length ls)]] (Value.agg #[Value.int IntKind.i64 N, Value.slice (some (Addr.mk 3 0 none)) (0 + List.length ls) (0 + List.length ls)]) (by kernel_rfl) (by kernel_rfl) ?_
    rw [Nat.zero_add]
    exact agg2_ice (iceC_row (size := 3) 3 (by kernel_rfl) (by kernel_rfl) (lcs_len ls).symm (lcs_flat ls))
theorem f16 : E.funcs 16 = some Try.f16 := by kernel_rfl
theorem tabT_M (N : Nat) (f : Nat → Nat → Rt) (hN : 1 ≤ N) : tabT (matT N f) = tabM 92 93 N f := by
  unfold tabT tabM tabF
  have h0 : ¬ (matT N f).length = 0 := by simp [matT]; omega
  rw [if_neg h0]
  congr 2
  unfold ocs matT
  rw [List.map_map, List.map_map]
  refine List.map_congr_left fun i _ => ?_
  show rowT 93 ((List.range N).map (f i)) = rowF 93 0 ((List.range N).map (f i))
  unfold rowT
  rw [if_neg (by simp; omega)]
theorem same16 (N : Nat) (f g : Nat → Nat → Rt) (hN : 1 ≤ N ∧ N ≤ 20) : Fun E 16 [tabM 45 47 N f, tabM 92 93 N g] (.bool (eqT N f g)) := by
  have c1 := tables15 0 (matT N f) (by simp [matT]; omega) (fun p hp => by
    obtain ⟨i, _, rfl⟩ := List.mem_map.1 hp
    simp
    omega)
  rw [tabT_M N f hN.1] at c1
  have c1' : Fun E 15 [tabM 45 47 N f] (tabM 92 93 N f) := c1
  have c2 := same20 N f g hN
  refine Fun.of f16 rfl (of_decide_eq_true (by kernel_rfl)) rfl ?_
  clear c1
  rw [tabM_eq, tabM_eq] at *
  unfold matF at *
  refine Wp.seq (Wp.text ?_)
  refine kp 4 (.bool false) ?_
  refine WpOps.nil (thenK_at (Wp.seq (Wp.text ?_)))
  refine kp 5 (.iface 45 (Value.iface N (Value.iface 0 (Value.agg (List.toArray (List.map (fun r => FS 47 N 0 (List.toArray r)) (rowsM N f))))))) ?_
  refine cl 6 15 [Value.iface 45 (Value.iface N (Value.iface 0 (Value.agg (List.toArray (List.map (fun r => FS 47 N 0 (List.toArray r)) (rowsM N f))))))] ?_
  refine WpCall.consume [] (c1') (by kernel_rfl) (by kernel_rfl) ?_
  refine kp 7 (.iface 92 (Value.iface N (Value.iface 0 (Value.agg (List.toArray (List.map (fun r => FS 93 N 0 (List.toArray r)) (rowsM N g))))))) ?_
  refine fr 8 20 [Value.iface 92 (Value.iface N (Value.iface 0 (Value.agg (List.toArray (List.map (fun r => FS 93 N 0 (List.toArray r)) (rowsM N f)))))), Value.iface 92 (Value.iface N (Value.iface 0 (Value.agg (List.toArray (List.map (fun r => FS 93 N 0 (List.toArray r)) (rowsM N g))))))] ?_
  refine WpFun.of (c2) ?_
  refine kp 4 (.bool (eqT N f g)) ?_
  refine WpOps.nil (thenK_at (Wp.ret ?_))
  refine endK_retn [Value.bool (eqT N f g)] (Value.bool (eqT N f g)) (by kernel_rfl) (by kernel_rfl) ?_
  rfl
theorem same16n : Fun E 16 [FS 45 0 2 #[], FS 92 0 2 #[]] (.bool true) := by
  have c1 : Fun E 15 [FS 45 0 2 #[]] (FS 92 0 2 #[]) := tables15 2 [] (by decide) (fun p hp => by cases hp)
  have c2 := same20n
  refine Fun.of f16 rfl (of_decide_eq_true (by kernel_rfl)) rfl ?_
  refine Wp.seq (Wp.text ?_)
  refine kp 4 (.bool false) ?_
  refine WpOps.nil (thenK_at (Wp.seq (Wp.text ?_)))
  refine kp 5 (.iface 45 (Value.iface 0 (Value.iface 2 (Value.agg #[])))) ?_
  refine cl 6 15 [Value.iface 45 (Value.iface 0 (Value.iface 2 (Value.agg #[])))] ?_
  refine WpCall.consume [] (c1) (by kernel_rfl) (by kernel_rfl) ?_
  refine kp 7 (.iface 92 (Value.iface 0 (Value.iface 2 (Value.agg #[])))) ?_
  refine fr 8 20 [Value.iface 92 (Value.iface 0 (Value.iface 2 (Value.agg #[]))), Value.iface 92 (Value.iface 0 (Value.iface 2 (Value.agg #[])))] ?_
  refine WpFun.of (c2) ?_
  refine kp 4 (.bool true) ?_
  refine WpOps.nil (thenK_at (Wp.ret ?_))
  refine endK_retn [Value.bool true] (Value.bool true) (by kernel_rfl) (by kernel_rfl) ?_
  rfl
def rowL : List Lk := [(0, 1, 1), (1, 2, 1)]
theorem row48 : Fun E 48 [] (netV 3 0 rowL) := Fun.closed 50 (netV 3 0 rowL) (by kernel_rfl)
theorem rowGood : Good 3 rowL := by
  obtain ⟨n, h, g⟩ := good_of (N := 3) (ls := rowL) (by decide +kernel)
  obtain rfl : n = 3 := by omega
  exact g
theorem rowStop : stop 3 (cAt rowL) false firstF 10 = 2 := by decide +kernel
theorem f17 : E.funcs 17 = some Try.f17 := by kernel_rfl
theorem first_range (n : Nat) : ∀ i j, i < n → j < n → 0 ≤ (firstF i j).1 ∧ (firstF i j).1 ≤ 16 := fun i j _ _ => by
  unfold firstF
  split <;> simp
set_option maxHeartbeats 4000000 in
theorem sane17 : Fun E 17 [] (.bool true) := by
  have c0 := row48
  have v0 : Fun E 25 [netV 3 0 rowL] (.bool true) := valid25 3 0 rowL (by decide)
  have c1 := start21 3 0 rowL (by decide) v0
  have t0 : Fun E 40 [netV 3 0 rowL, tabM 45 47 3 firstF] (.bool true) := by
    have := tables40 3 0 rowL 0 (matT 3 firstF) v0 (by decide) (by decide)
    have e : tabOk 3 rowL (matT 3 firstF) = true := by decide +kernel
    rw [e] at this
    exact this
  have c2 := settle12_ok 3 0 rowL firstF false 10 (by decide) (by decide) t0 (fun k => roundF42 3 0 rowL _ false (by decide) rowGood.hl (by decide) (it_range (cAt_range rowGood.hl) (first_range 3) k))
  rw [rowStop] at c2
  refine Fun.of f17 rfl (of_decide_eq_true (by kernel_rfl)) rfl ?_
  rw [tabM_eq, tabM_eq] at *
  unfold matF netV lks at *
  refine Wp.seq (Wp.text ?_)
  refine kp 0 (.bool false) ?_
  refine WpOps.nil (thenK_at (Wp.seq (Wp.text ?_)))
  refine fr 7 48 [] ?_
  refine WpFun.of (c0) ?_
  refine fr 8 21 [Value.agg #[Value.int .i64 3, FS 48 (List.length rowL) 0 (List.toArray (lcs rowL))]] ?_
  refine WpFun.of (c1) ?_
  refine kp 6 (.tuple #[Value.iface 45 (Value.iface 3 (Value.iface 0 (Value.agg (List.toArray (List.map (fun r => FS 47 3 0 (List.toArray r)) (rowsM 3 firstF)))))), Value.int .i64 0]) ?_
  refine kp 9 (.iface 45 (Value.iface 3 (Value.iface 0 (Value.agg #[Value.iface 47 (Value.iface 3 (Value.iface 0 (Value.agg (List.toArray ((fun i => rcs (List.map (firstF i) (List.range 3))) 0))))), Value.iface 47 (Value.iface 3 (Value.iface 0 (Value.agg (List.toArray ((fun i => rcs (List.map (firstF i) (List.range 3))) 1))))), Value.iface 47 (Value.iface 3 (Value.iface 0 (Value.agg (List.toArray ((fun i => rcs (List.map (firstF i) (List.range 3))) 2)))))])))) ?_
  refine kp 10 (.int IntKind.i64 0) ?_
  refine kp 1 (.iface 45 (Value.iface 3 (Value.iface 0 (Value.agg #[Value.iface 47 (Value.iface 3 (Value.iface 0 (Value.agg (List.toArray ((fun i => rcs (List.map (firstF i) (List.range 3))) 0))))), Value.iface 47 (Value.iface 3 (Value.iface 0 (Value.agg (List.toArray ((fun i => rcs (List.map (firstF i) (List.range 3))) 1))))), Value.iface 47 (Value.iface 3 (Value.iface 0 (Value.agg (List.toArray ((fun i => rcs (List.map (firstF i) (List.range 3))) 2)))))])))) ?_
  refine kp 2 (.int IntKind.i64 0) ?_
  refine WpOps.nil (thenK_at (Wp.seq (Wp.text ?_)))
  refine fr 12 48 [] ?_
  refine WpFun.of (c0) ?_
  refine kp 13 (.iface 45 (Value.iface 3 (Value.iface 0 (Value.agg #[Value.iface 47 (Value.iface 3 (Value.iface 0 (Value.agg (List.toArray ((fun i => rcs (List.map (firstF i) (List.range 3))) 0))))), Value.iface 47 (Value.iface 3 (Value.iface 0 (Value.agg (List.toArray ((fun i => rcs (List.map (firstF i) (List.range 3))) 1))))), Value.iface 47 (Value.iface 3 (Value.iface 0 (Value.agg (List.toArray ((fun i => rcs (List.map (firstF i) (List.range 3))) 2)))))])))) ?_
  refine fr 14 12 [Value.agg #[Value.int .i64 3, FS 48 (List.length rowL) 0 (List.toArray (lcs rowL))], Value.iface 45 (Value.iface 3 (Value.iface 0 (Value.agg #[Value.iface 47 (Value.iface 3 (Value.iface 0 (Value.agg (List.toArray ((fun i => rcs (List.map (firstF i) (List.range 3))) 0))))), Value.iface 47 (Value.iface 3 (Value.iface 0 (Value.agg (List.toArray ((fun i => rcs (List.map (firstF i) (List.range 3))) 1))))), Value.iface 47 (Value.iface 3 (Value.iface 0 (Value.agg (List.toArray ((fun i => rcs (List.map (firstF i) (List.range 3))) 2)))))]))), Value.bool false, Value.int .i64 10] ?_
  refine WpFun.of (c2) ?_
  refine kp 11 (.tuple #[Value.iface 45 (Value.iface 3 (Value.iface 0 (Value.agg (List.toArray (List.map (fun r => FS 47 3 0 (List.toArray r)) (rowsM 3 (it 3 (cAt rowL) false firstF 2))))))), Value.int .i64 (↑2 : Int), Value.int .i64 0]) ?_
  refine kp 15 (.iface 45 (Value.iface 3 (Value.iface 0 (Value.agg #[Value.iface 47 (Value.iface 3 (Value.iface 0 (Value.agg (List.toArray ((fun i => rcs (List.map (it 3 (cAt rowL) false firstF 2 i) (List.range 3))) 0))))), Value.iface 47 (Value.iface 3 (Value.iface 0 (Value.agg (List.toArray ((fun i => rcs (List.map (it 3 (cAt rowL) false firstF 2 i) (List.range 3))) 1))))), Value.iface 47 (Value.iface 3 (Value.iface 0 (Value.agg (List.toArray ((fun i => rcs (List.map (it 3 (cAt rowL) false firstF 2 i) (List.range 3))) 2)))))])))) ?_
  refine kp 16 (.int IntKind.i64 (↑2 : Int)) ?_
  refine kp 17 (.int IntKind.i64 0) ?_
  refine kp 3 (.iface 45 (Value.iface 3 (Value.iface 0 (Value.agg #[Value.iface 47 (Value.iface 3 (Value.iface 0 (Value.agg (List.toArray ((fun i => rcs (List.map (it 3 (cAt rowL) false firstF 2 i) (List.range 3))) 0))))), Value.iface 47 (Value.iface 3 (Value.iface 0 (Value.agg (List.toArray ((fun i => rcs (List.map (it 3 (cAt rowL) false firstF 2 i) (List.range 3))) 1))))), Value.iface 47 (Value.iface 3 (Value.iface 0 (Value.agg (List.toArray ((fun i => rcs (List.map (it 3 (cAt rowL) false firstF 2 i) (List.range 3))) 2)))))])))) ?_
  refine kp 4 (.int IntKind.i64 (↑2 : Int)) ?_
  refine kp 5 (.int IntKind.i64 0) ?_
  refine WpOps.nil (thenK_at (Wp.seq (Wp.text ?_)))
  refine kp 18 (.int IntKind.i64 0) ?_
  refine kp 19 (.bool true) ?_
  refine kp 20 (.bool true) ?_
  refine kp 21 (.int IntKind.i64 0) ?_
  refine kp 22 (.bool true) ?_
  refine kp 23 (.bool true) ?_
  refine kp 24 (.bool true) ?_
  refine kp 25 (.int IntKind.i64 (↑2 : Int)) ?_
  refine kp 26 (.bool true) ?_
  refine kp 27 (.bool true) ?_
  refine kp 28 (.bool true) ?_
  refine kp 29 (.iface 45 (Value.iface 3 (Value.iface 0 (Value.agg #[Value.iface 47 (Value.iface 3 (Value.iface 0 (Value.agg (List.toArray ((fun i => rcs (List.map (it 3 (cAt rowL) false firstF 2 i) (List.range 3))) 0))))), Value.iface 47 (Value.iface 3 (Value.iface 0 (Value.agg (List.toArray ((fun i => rcs (List.map (it 3 (cAt rowL) false firstF 2 i) (List.range 3))) 1))))), Value.iface 47 (Value.iface 3 (Value.iface 0 (Value.agg (List.toArray ((fun i => rcs (List.map (it 3 (cAt rowL) false firstF 2 i) (List.range 3))) 2)))))])))) ?_
  refine kp 30 (.int IntKind.i64 (↑3 : Int)) ?_
  refine kp 31 (.bool true) ?_
  refine kp 32 (.bool true) ?_
  refine kp 33 (.bool true) ?_
  refine kp 34 (.iface 45 (Value.iface 3 (Value.iface 0 (Value.agg #[Value.iface 47 (Value.iface 3 (Value.iface 0 (Value.agg (List.toArray ((fun i => rcs (List.map (it 3 (cAt rowL) false firstF 2 i) (List.range 3))) 0))))), Value.iface 47 (Value.iface 3 (Value.iface 0 (Value.agg (List.toArray ((fun i => rcs (List.map (it 3 (cAt rowL) false firstF 2 i) (List.range 3))) 1))))), Value.iface 47 (Value.iface 3 (Value.iface 0 (Value.agg (List.toArray ((fun i => rcs (List.map (it 3 (cAt rowL) false firstF 2 i) (List.range 3))) 2)))))])))) ?_
  refine kp 35 (.iface 45 (Value.iface 0 (Value.agg #[Value.iface 47 (Value.iface 3 (Value.iface 0 (Value.agg (List.toArray ((fun i => rcs (List.map (it 3 (cAt rowL) false firstF 2 i) (List.range 3))) 0))))), Value.iface 47 (Value.iface 3 (Value.iface 0 (Value.agg (List.toArray ((fun i => rcs (List.map (it 3 (cAt rowL) false firstF 2 i) (List.range 3))) 1))))), Value.iface 47 (Value.iface 3 (Value.iface 0 (Value.agg (List.toArray ((fun i => rcs (List.map (it 3 (cAt rowL) false firstF 2 i) (List.range 3))) 2)))))]))) ?_
  refine kp 36 (.iface 47 (Value.iface 3 (Value.iface 0 (Value.agg #[Value.int .i64 (Prod.fst (it 3 (cAt rowL) false firstF 2 0 0)), Value.int .i64 (Prod.snd (it 3 (cAt rowL) false firstF 2 0 0)), Value.int .i64 (Prod.fst (it 3 (cAt rowL) false firstF 2 0 1)), Value.int .i64 (Prod.snd (it 3 (cAt rowL) false firstF 2 0 1)), Value.int .i64 (Prod.fst (it 3 (cAt rowL) false firstF 2 0 2)), Value.int .i64 (Prod.snd (it 3 (cAt rowL) false firstF 2 0 2))])))) ?_
  refine kp 37 (.int IntKind.i64 (↑3 : Int)) ?_
  refine kp 38 (.bool true) ?_
  refine kp 39 (.bool true) ?_
  refine kp 40 (.bool true) ?_
  refine kp 41 (.iface 45 (Value.iface 3 (Value.iface 0 (Value.agg #[Value.iface 47 (Value.iface 3 (Value.iface 0 (Value.agg (List.toArray ((fun i => rcs (List.map (it 3 (cAt rowL) false firstF 2 i) (List.range 3))) 0))))), Value.iface 47 (Value.iface 3 (Value.iface 0 (Value.agg (List.toArray ((fun i => rcs (List.map (it 3 (cAt rowL) false firstF 2 i) (List.range 3))) 1))))), Value.iface 47 (Value.iface 3 (Value.iface 0 (Value.agg (List.toArray ((fun i => rcs (List.map (it 3 (cAt rowL) false firstF 2 i) (List.range 3))) 2)))))])))) ?_
  refine kp 42 (.iface 45 (Value.iface 0 (Value.agg #[Value.iface 47 (Value.iface 3 (Value.iface 0 (Value.agg (List.toArray ((fun i => rcs (List.map (it 3 (cAt rowL) false firstF 2 i) (List.range 3))) 0))))), Value.iface 47 (Value.iface 3 (Value.iface 0 (Value.agg (List.toArray ((fun i => rcs (List.map (it 3 (cAt rowL) false firstF 2 i) (List.range 3))) 1))))), Value.iface 47 (Value.iface 3 (Value.iface 0 (Value.agg (List.toArray ((fun i => rcs (List.map (it 3 (cAt rowL) false firstF 2 i) (List.range 3))) 2)))))]))) ?_
  refine kp 43 (.iface 47 (Value.iface 3 (Value.iface 0 (Value.agg #[Value.int .i64 (Prod.fst (it 3 (cAt rowL) false firstF 2 0 0)), Value.int .i64 (Prod.snd (it 3 (cAt rowL) false firstF 2 0 0)), Value.int .i64 (Prod.fst (it 3 (cAt rowL) false firstF 2 0 1)), Value.int .i64 (Prod.snd (it 3 (cAt rowL) false firstF 2 0 1)), Value.int .i64 (Prod.fst (it 3 (cAt rowL) false firstF 2 0 2)), Value.int .i64 (Prod.snd (it 3 (cAt rowL) false firstF 2 0 2))])))) ?_
  refine kp 44 (.iface 47 (Value.iface 4 (Value.agg #[Value.int .i64 (Prod.fst (it 3 (cAt rowL) false firstF 2 0 0)), Value.int .i64 (Prod.snd (it 3 (cAt rowL) false firstF 2 0 0)), Value.int .i64 (Prod.fst (it 3 (cAt rowL) false firstF 2 0 1)), Value.int .i64 (Prod.snd (it 3 (cAt rowL) false firstF 2 0 1)), Value.int .i64 (Prod.fst (it 3 (cAt rowL) false firstF 2 0 2)), Value.int .i64 (Prod.snd (it 3 (cAt rowL) false firstF 2 0 2))]))) ?_
  refine kp 45 (.agg #[Value.int .i64 (Prod.fst (it 3 (cAt rowL) false firstF 2 0 2)), Value.int .i64 (Prod.snd (it 3 (cAt rowL) false firstF 2 0 2))]) ?_
  refine kp 46 (.agg #[Value.int .i64 2, Value.int .i64 1]) ?_
  refine kp 47 (.bool true) ?_
  refine kp 48 (.bool true) ?_
  refine kp 0 (.bool true) ?_
  refine WpOps.nil (thenK_at (Wp.ret ?_))
  refine endK_retn [Value.bool true] (Value.bool true) (by kernel_rfl) (by kernel_rfl) ?_
  rfl
open Go.Fw Go.RowKit

/-- Tables that are handed in. -/
structure OkT (xt : Nat) (T : List (Nat × List Rt)) : Prop where
  x : xt = 0 ∨ (xt = 2 ∧ T = [])
  row : ∀ p ∈ T, p.1 = 0 ∨ (p.1 = 2 ∧ p.2 = [])
  size : T.length * 24 ≤ 140737488351232
  sizes : ∀ p ∈ T, p.2.length * 16 ≤ 140737488351232
def flipT (T : List (Nat × List Rt)) : List (Nat × List Rt) := T.map fun p => (if p.2.length = 0 then 2 else 0, p.2)
theorem tabT_F (T : List (Nat × List Rt)) : tabT T = tabF 92 93 (if T.length = 0 then 2 else 0) (flipT T) := by
  unfold tabT tabF flipT ocs
  rw [List.map_map, List.length_map]
  rfl
theorem flip_at (T : List (Nat × List Rt)) (i : Nat) : ((flipT T).getD i (0, [])).2 = (T.getD i (0, [])).2 := by
  unfold flipT
  by_cases hi : i < T.length
  · simp [List.getD_eq_getElem?_getD, List.getElem?_eq_getElem hi]
  · simp [List.getD_eq_getElem?_getD, List.getElem?_eq_none (show T.length ≤ i by omega)]
theorem tabOk_flip (N : Int) (ls : List Lk) (T : List (Nat × List Rt)) : tabOk N ls (flipT T) = tabOk N ls T := by
  unfold tabOk
  have h : (fun v : Nat => rowOk N ((flipT T).getD v (0, [])).2 v) = fun v : Nat => rowOk N (T.getD v (0, [])).2 v := by
    funext v
    rw [flip_at]
  have hl : (flipT T).length = T.length := by simp [flipT]
  rw [h, hl]
theorem flip_w {T : List (Nat × List Rt)} {b : Nat} (h : ∀ p ∈ T, p.2.length * 16 ≤ b) : ∀ p ∈ flipT T, p.2.length * 16 ≤ b := fun p hp => by
  obtain ⟨q, hq, rfl⟩ := List.mem_map.1 hp
  exact h q hq
theorem open_tab {N : Int} {x : Nat} {ls : List Lk} {xt : Nat} {T : List (Nat × List Rt)} (hy : ls.length * 24 ≤ 140737488351232) (ok : OkT xt T) (hb : tabOk N ls T = true) : ∃ (n : Nat) (f : Nat → Nat → Rt), N = n ∧ Good n ls ∧ GoodT n f ∧ xt = 0 ∧ T = matT n f ∧
    Fun E 40 [netV n x ls, tabM 45 47 n f] (.bool true) ∧ Fun E 45 [netV n 0 ls, tabM 92 93 n f] (.bool true) ∧ Fun E 15 [tabM 45 47 n f] (tabM 92 93 n f) := by
  have hvl : valid N ls = true := by
    unfold tabOk at hb
    simp only [Bool.and_eq_true] at hb
    exact hb.1.1
  obtain ⟨n, rfl, g⟩ := good_of hvl
  obtain ⟨hl, hr, gt⟩ := goodT_of hb
  have hx0 : xt = 0 := by
    rcases ok.x with h | ⟨_, h⟩
    · exact h
    · have := g.hN
      rw [h] at hl
      simp at hl
      omega
  have h0 : ∀ p ∈ T, p.1 = 0 := fun p hp => by
    rcases ok.row p hp with h | ⟨_, h⟩
    · exact h
    · have h1 := hr p hp
      have := g.hN
      rw [h] at h1
      simp at h1
      omega
  have hT := tab_is hl hr h0
  have hs1 := ok.size
  have hs2 := ok.sizes
  subst hx0
  have t1 := tables40 n x ls 0 T (valid25 n x ls (by omega)) (by omega) (fun p hp => by have := hs2 p hp; omega)
  have t2 := tables45 n 0 ls 0 T (valid26 n 0 ls (by omega)) (by omega) (fun p hp => by have := hs2 p hp; omega)
  have t3 := tables15 0 T hs1 hs2
  rw [hb] at t1 t2
  generalize hf : tf T = f at hT gt
  rw [hT] at t1 t2 t3
  rw [tabT_M n f g.hN.1] at t3
  exact ⟨n, f, rfl, g, gt, rfl, hT, t1, t2, t3⟩
theorem f4 : E.funcs 4 = some Try.f4 := by kernel_rfl
set_option maxHeartbeats 4000000 in
theorem law4 (N : Int) (x : Nat) (ls : List Lk) (xt : Nat) (T : List (Nat × List Rt)) (poison : Bool) (hy : ls.length * 24 ≤ 140737488351232) (ok : OkT xt T) : Fun E 4 [netV N x ls, tabF 45 47 xt T, .bool poison] (.bool true) := by
  have c0 := sane17
  have c1 := to14 N x ls hy
  by_cases hb : tabOk N ls T = true
  · obtain ⟨n, f, rfl, g, gt, rfl, rfl, t1, t2, t3⟩ := open_tab (x := x) hy ok hb
    have c3 := round18_ok n x ls f poison g.hN g.hl (by omega) gt.range t1
    have c4 := round19_ok n 0 ls f poison (round47 n 0 ls f poison g.hN (by omega) gt.range gt.diag g.range g.diag) t2
    rw [g.same] at c3
    have c5 := same16 n (roundF n (cF ls) poison f) (roundF n (cF ls) poison f) g.hN
    rw [eqT_self] at c5
    show Fun E 4 [netV n x ls, tabM 45 47 n f, .bool poison] (.bool true)
    clear t1 t2 hb
    refine Fun.of f4 rfl (of_decide_eq_true (by kernel_rfl)) rfl ?_
    rw [tabM_eq, tabM_eq] at *
    unfold netV lks matF at *
    refine Wp.seq (Wp.text ?_)
    refine md 3 (.pointer (some ⟨0, 0, none⟩)) (Blk.mk 24 true [Value.int .i64 (↑n : Int), Value.iface 48 (Value.iface (List.length ls) (Value.iface x (Value.agg (List.toArray (lcs ls)))))]) ?_
    refine kp 6 (.bool false) ?_
    refine WpOps.nil (thenK_at (Wp.seq (Wp.text ?_)))
    refine kp 12 (.agg #[Value.int .i64 (↑n : Int), Value.iface 48 (Value.iface (List.length ls) (Value.iface x (Value.agg (List.toArray (lcs ls)))))]) ?_
    refine kp 13 (.iface 45 (Value.iface n (Value.iface 0 (Value.agg (List.toArray (List.map (fun r => FS 47 n 0 (List.toArray r)) (rowsM n f))))))) ?_
    refine kp 14 (.bool poison) ?_
    refine cl 15 18 [Value.agg #[Value.int .i64 (↑n : Int), Value.iface 48 (Value.iface (List.length ls) (Value.iface x (Value.agg (List.toArray (lcs ls)))))], Value.iface 45 (Value.iface n (Value.iface 0 (Value.agg (List.toArray (List.map (fun r => FS 47 n 0 (List.toArray r)) (rowsM n f)))))), Value.bool poison] ?_
    refine WpCall.consume [0] (c3) (by kernel_rfl) (by kernel_rfl) ?_
    refine kp 11 (.tuple #[FS 45 n 0 (List.toArray (List.map (fun r => FS 47 n 0 (List.toArray r)) (rowsM n (roundF n (cF ls) poison f)))), Value.int .i64 0]) ?_
    refine kp 16 (.iface 45 (Value.iface n (Value.iface 0 (Value.agg (List.toArray (List.map (fun r => FS 47 n 0 (List.toArray r)) (rowsM n (roundF n (cF ls) poison f)))))))) ?_
    refine kp 17 (.int IntKind.i64 0) ?_
    refine kp 7 (.iface 45 (Value.iface n (Value.iface 0 (Value.agg (List.toArray (List.map (fun r => FS 47 n 0 (List.toArray r)) (rowsM n (roundF n (cF ls) poison f)))))))) ?_
    refine kp 8 (.int IntKind.i64 0) ?_
    refine WpOps.nil (thenK_at (Wp.seq (Wp.text ?_)))
    refine kp 19 (.agg #[Value.int .i64 (↑n : Int), Value.iface 48 (Value.iface (List.length ls) (Value.iface x (Value.agg (List.toArray (lcs ls)))))]) ?_
    refine fr 20 14 [Value.agg #[Value.int .i64 (↑n : Int), Value.iface 48 (Value.iface (List.length ls) (Value.iface x (Value.agg (List.toArray (lcs ls)))))]] ?_
    refine WpFun.of (c1) ?_
    refine kp 21 (.iface 45 (Value.iface n (Value.iface 0 (Value.agg (List.toArray (List.map (fun r => FS 47 n 0 (List.toArray r)) (rowsM n f))))))) ?_
    refine cl 22 15 [Value.iface 45 (Value.iface n (Value.iface 0 (Value.agg (List.toArray (List.map (fun r => FS 47 n 0 (List.toArray r)) (rowsM n f))))))] ?_
    refine WpCall.consume [0] (t3) (by kernel_rfl) (by kernel_rfl) ?_
    refine kp 23 (.bool poison) ?_
    refine fr 24 19 [Value.agg #[Value.int .i64 (↑n : Int), FS 48 (List.length ls) 0 (List.toArray (lcs ls))], Value.iface 92 (Value.iface n (Value.iface 0 (Value.agg (List.toArray (List.map (fun r => FS 93 n 0 (List.toArray r)) (rowsM n f)))))), Value.bool poison] ?_
    refine WpFun.of (c4) ?_
    refine kp 18 (.tuple #[FS 92 n 0 (List.toArray (List.map (fun r => FS 93 n 0 (List.toArray r)) (rowsM n (roundF n (cF ls) poison f)))), Value.int .i64 0]) ?_
    refine kp 25 (.iface 92 (Value.iface n (Value.iface 0 (Value.agg (List.toArray (List.map (fun r => FS 93 n 0 (List.toArray r)) (rowsM n (roundF n (cF ls) poison f)))))))) ?_
    refine kp 26 (.int IntKind.i64 0) ?_
    refine kp 9 (.iface 92 (Value.iface n (Value.iface 0 (Value.agg (List.toArray (List.map (fun r => FS 93 n 0 (List.toArray r)) (rowsM n (roundF n (cF ls) poison f)))))))) ?_
    refine kp 10 (.int IntKind.i64 0) ?_
    refine WpOps.nil (thenK_at (Wp.seq (Wp.text ?_)))
    refine kp 27 (.int IntKind.i64 0) ?_
    refine kp 28 (.int IntKind.i64 0) ?_
    refine kp 29 (.bool true) ?_
    refine kp 30 (.bool true) ?_
    refine kp 31 (.iface 45 (Value.iface n (Value.iface 0 (Value.agg (List.toArray (List.map (fun r => FS 47 n 0 (List.toArray r)) (rowsM n (roundF n (cF ls) poison f)))))))) ?_
    refine kp 32 (.iface 92 (Value.iface n (Value.iface 0 (Value.agg (List.toArray (List.map (fun r => FS 93 n 0 (List.toArray r)) (rowsM n (roundF n (cF ls) poison f)))))))) ?_
    refine fr 33 16 [Value.iface 45 (Value.iface n (Value.iface 0 (Value.agg (List.toArray (List.map (fun r => FS 47 n 0 (List.toArray r)) (rowsM n (roundF n (cF ls) poison f))))))), Value.iface 92 (Value.iface n (Value.iface 0 (Value.agg (List.toArray (List.map (fun r => FS 93 n 0 (List.toArray r)) (rowsM n (roundF n (cF ls) poison f)))))))] ?_
    refine WpFun.of (c5) ?_
    refine kp 34 (.bool true) ?_
    refine kp 35 (.bool true) ?_
    refine fr 36 17 [] ?_
    refine WpFun.of (c0) ?_
    refine kp 37 (.bool true) ?_
    refine kp 6 (.bool true) ?_
    refine WpOps.nil (thenK_at (Wp.ret ?_))
    refine endK_retn [Value.bool true] (Value.bool true) (by kernel_rfl) (by kernel_rfl) ?_
    rfl
  · have hb' : tabOk N ls T = false := by simpa using hb
    have hs1 := ok.size
    have hs2 := ok.sizes
    have c2 := tables15 xt T hs1 hs2
    have c3 := round18_bad N x ls xt T poison hb' (valid25 N x ls (by omega)) (by omega) (fun p hp => by have := hs2 p hp; omega)
    have c4 := round19_bad N 0 ls (if T.length = 0 then 2 else 0) (flipT T) poison (by rw [tabOk_flip]; exact hb') (by omega) (by simp [flipT]; omega) (fun p hp => by have := flip_w hs2 p hp; omega)
    rw [← tabT_F] at c4
    have c5 := same16n
    refine Fun.of f4 rfl (of_decide_eq_true (by kernel_rfl)) rfl ?_
    unfold tabT at c2 c4
    unfold netV lks tabF at *
    refine Wp.seq (Wp.text ?_)
    refine md 3 (.pointer (some ⟨0, 0, none⟩)) (Blk.mk 24 true [Value.int .i64 N, Value.iface 48 (Value.iface (List.length ls) (Value.iface x (Value.agg (List.toArray (lcs ls)))))]) ?_
    refine kp 6 (.bool false) ?_
    refine WpOps.nil (thenK_at (Wp.seq (Wp.text ?_)))
    refine kp 12 (.agg #[Value.int .i64 N, Value.iface 48 (Value.iface (List.length ls) (Value.iface x (Value.agg (List.toArray (lcs ls)))))]) ?_
    refine kp 13 (.iface 45 (Value.iface (List.length T) (Value.iface xt (Value.agg (List.toArray (List.map (fun p => rowF 47 (Prod.fst p) (Prod.snd p)) T)))))) ?_
    refine kp 14 (.bool poison) ?_
    refine cl 15 18 [Value.agg #[Value.int .i64 N, Value.iface 48 (Value.iface (List.length ls) (Value.iface x (Value.agg (List.toArray (lcs ls)))))], Value.iface 45 (Value.iface (List.length T) (Value.iface xt (Value.agg (List.toArray (List.map (fun p => rowF 47 (Prod.fst p) (Prod.snd p)) T))))), Value.bool poison] ?_
    refine WpCall.consume [0] (c3) (by kernel_rfl) (by kernel_rfl) ?_
    refine kp 11 (.tuple #[Value.iface 45 (Value.iface 0 (Value.iface 2 (Value.agg #[]))), Value.int .i64 1]) ?_
    refine kp 16 (.iface 45 (Value.iface 0 (Value.iface 2 (Value.agg #[])))) ?_
    refine kp 17 (.int IntKind.i64 1) ?_
    refine kp 7 (.iface 45 (Value.iface 0 (Value.iface 2 (Value.agg #[])))) ?_
    refine kp 8 (.int IntKind.i64 1) ?_
    refine WpOps.nil (thenK_at (Wp.seq (Wp.text ?_)))
    refine kp 19 (.agg #[Value.int .i64 N, Value.iface 48 (Value.iface (List.length ls) (Value.iface x (Value.agg (List.toArray (lcs ls)))))]) ?_
    refine fr 20 14 [Value.agg #[Value.int .i64 N, Value.iface 48 (Value.iface (List.length ls) (Value.iface x (Value.agg (List.toArray (lcs ls)))))]] ?_
    refine WpFun.of (c1) ?_
    refine kp 21 (.iface 45 (Value.iface (List.length T) (Value.iface xt (Value.agg (List.toArray (List.map (fun p => rowF 47 (Prod.fst p) (Prod.snd p)) T)))))) ?_
    refine cl 22 15 [Value.iface 45 (Value.iface (List.length T) (Value.iface xt (Value.agg (List.toArray (List.map (fun p => rowF 47 (Prod.fst p) (Prod.snd p)) T)))))] ?_
    refine WpCall.consume [0] (c2) (by kernel_rfl) (by kernel_rfl) ?_
    refine kp 23 (.bool poison) ?_
    refine fr 24 19 [Value.agg #[Value.int .i64 N, FS 48 (List.length ls) 0 (List.toArray (lcs ls))], Value.iface 92 (Value.iface (List.length T) (Value.iface (if List.length T = 0 then 2 else 0) (Value.agg (List.toArray (ocs 93 T))))), Value.bool poison] ?_
    refine WpFun.of (c4) ?_
    refine kp 18 (.tuple #[Value.iface 92 (Value.iface 0 (Value.iface 2 (Value.agg #[]))), Value.int .i64 1]) ?_
    refine kp 25 (.iface 92 (Value.iface 0 (Value.iface 2 (Value.agg #[])))) ?_
    refine kp 26 (.int IntKind.i64 1) ?_
    refine kp 9 (.iface 92 (Value.iface 0 (Value.iface 2 (Value.agg #[])))) ?_
    refine kp 10 (.int IntKind.i64 1) ?_
    refine WpOps.nil (thenK_at (Wp.seq (Wp.text ?_)))
    refine kp 27 (.int IntKind.i64 1) ?_
    refine kp 28 (.int IntKind.i64 1) ?_
    refine kp 29 (.bool true) ?_
    refine kp 30 (.bool true) ?_
    refine kp 31 (.iface 45 (Value.iface 0 (Value.iface 2 (Value.agg #[])))) ?_
    refine kp 32 (.iface 92 (Value.iface 0 (Value.iface 2 (Value.agg #[])))) ?_
    refine fr 33 16 [Value.iface 45 (Value.iface 0 (Value.iface 2 (Value.agg #[]))), Value.iface 92 (Value.iface 0 (Value.iface 2 (Value.agg #[])))] ?_
    refine WpFun.of (c5) ?_
    refine kp 34 (.bool true) ?_
    refine kp 35 (.bool true) ?_
    refine fr 36 17 [] ?_
    refine WpFun.of (c0) ?_
    refine kp 37 (.bool true) ?_
    refine kp 6 (.bool true) ?_
    refine WpOps.nil (thenK_at (Wp.ret ?_))
    refine endK_retn [Value.bool true] (Value.bool true) (by kernel_rfl) (by kernel_rfl) ?_
    rfl
theorem f3 : E.funcs 3 = some Try.f3 := by kernel_rfl
set_option maxHeartbeats 4000000 in
theorem law3 (N : Int) (x : Nat) (ls : List Lk) (xt : Nat) (T : List (Nat × List Rt)) (poison : Bool) (most : Int) (hy : ls.length * 24 ≤ 140737488351232) (ok : OkT xt T) : Fun E 3 [.agg #[.int .i64 N, lks x ls, tabF 45 47 xt T, .bool poison, .int .i64 most]] (.bool true) := by
  have c0 := sane17
  have c1 := to14 N x ls hy
  have hs1 := ok.size
  have hs2 := ok.sizes
  by_cases hm : okMost (tabOk N ls T) most = true
  · have hb : tabOk N ls T = true := by
      unfold okMost at hm
      simp only [Bool.and_eq_true] at hm
      exact hm.1.1
    rw [hb] at hm
    unfold okMost at hm
    simp only [Bool.and_eq_true, decide_eq_true_eq] at hm
    obtain ⟨m, rfl⟩ := Int.eq_ofNat_of_zero_le hm.1.2
    obtain ⟨n, f, rfl, g, gt, rfl, rfl, t1, t2, t3⟩ := open_tab (x := x) hy ok hb
    have c3 := settle12_ok n x ls f poison m (by omega) g.hN t1 (fun k => roundF42 n x ls _ poison g.hN g.hl (by omega) (it_range (cAt_range g.hl) gt.range k))
    have c4 := settle13_ok n 0 ls f poison m (by omega) g.hN t2 (fun k => round47 n 0 ls _ poison g.hN (by omega) (it_range g.range gt.range k) (it_diag gt.diag k) g.range g.diag)
    rw [g.same] at c3
    generalize stop n (cF ls) poison f m = s at c3 c4
    have c5 := same16 n (it n (cF ls) poison f s) (it n (cF ls) poison f s) g.hN
    rw [eqT_self] at c5
    show Fun E 3 [.agg #[.int .i64 n, lks x ls, tabM 45 47 n f, .bool poison, .int .i64 m]] (.bool true)
    have e1 : ((s : Int) == (s : Int)) = true := by simp
    clear t1 t2 hb hm
    refine Fun.of f3 rfl (of_decide_eq_true (by kernel_rfl)) rfl ?_
    rw [tabM_eq, tabM_eq] at *
    unfold netV at c1 c3 c4
    unfold lks matF at *
    refine Wp.seq (Wp.text ?_)
    refine md 1 (.pointer (some ⟨0, 0, none⟩)) (Blk.mk 27 true [Value.int .i64 (↑n : Int), Value.iface 48 (Value.iface (List.length ls) (Value.iface x (Value.agg (List.toArray (lcs ls))))), Value.iface 45 (Value.iface n (Value.iface 0 (Value.agg (List.toArray (List.map (fun r => FS 47 n 0 (List.toArray r)) (rowsM n f)))))), Value.bool poison, Value.int .i64 (↑m : Int)]) ?_
    refine kp 2 (.bool false) ?_
    refine WpOps.nil (thenK_at (Wp.seq (Wp.text ?_)))
    refine kp 10 (.pointer (some ⟨0, 0, none⟩)) ?_
    refine kp 11 (.agg #[Value.int .i64 (↑n : Int), Value.iface 48 (Value.iface (List.length ls) (Value.iface x (Value.agg (List.toArray (lcs ls)))))]) ?_
    refine kp 12 (.pointer (some ⟨0, 2, none⟩)) ?_
    refine kp 13 (.iface 45 (Value.iface n (Value.iface 0 (Value.agg (List.toArray (List.map (fun r => FS 47 n 0 (List.toArray r)) (rowsM n f))))))) ?_
    refine kp 14 (.pointer (some ⟨0, 3, none⟩)) ?_
    refine kp 15 (.bool poison) ?_
    refine kp 16 (.pointer (some ⟨0, 4, none⟩)) ?_
    refine kp 17 (.int IntKind.i64 (↑m : Int)) ?_
    refine fr 18 12 [Value.agg #[Value.int .i64 (↑n : Int), Value.iface 48 (Value.iface (List.length ls) (Value.iface x (Value.agg (List.toArray (lcs ls)))))], Value.iface 45 (Value.iface n (Value.iface 0 (Value.agg (List.toArray (List.map (fun r => FS 47 n 0 (List.toArray r)) (rowsM n f)))))), Value.bool poison, Value.int .i64 (↑m : Int)] ?_
    refine WpFun.of (c3) ?_
    refine kp 9 (.tuple #[FS 45 n 0 (List.toArray (List.map (fun r => FS 47 n 0 (List.toArray r)) (rowsM n (it n (cF ls) poison f s)))), Value.int .i64 (↑s : Int), Value.int .i64 0]) ?_
    refine kp 19 (.iface 45 (Value.iface n (Value.iface 0 (Value.agg (List.toArray (List.map (fun r => FS 47 n 0 (List.toArray r)) (rowsM n (it n (cF ls) poison f s)))))))) ?_
    refine kp 20 (.int IntKind.i64 (↑s : Int)) ?_
    refine kp 21 (.int IntKind.i64 0) ?_
    refine kp 3 (.iface 45 (Value.iface n (Value.iface 0 (Value.agg (List.toArray (List.map (fun r => FS 47 n 0 (List.toArray r)) (rowsM n (it n (cF ls) poison f s)))))))) ?_
    refine kp 4 (.int IntKind.i64 (↑s : Int)) ?_
    refine kp 5 (.int IntKind.i64 0) ?_
    refine WpOps.nil (thenK_at (Wp.seq ?_))
    refine Wp.region (by kernel_rfl) ?_
    refine kp 23 (.pointer (some ⟨0, 0, none⟩)) ?_
    refine kp 24 (.agg #[Value.int .i64 (↑n : Int), Value.iface 48 (Value.iface (List.length ls) (Value.iface x (Value.agg (List.toArray (lcs ls)))))]) ?_
    refine fr 25 14 [Value.agg #[Value.int .i64 (↑n : Int), Value.iface 48 (Value.iface (List.length ls) (Value.iface x (Value.agg (List.toArray (lcs ls)))))]] ?_
    refine WpFun.of (c1) ?_
    refine kp 26 (.pointer (some ⟨0, 2, none⟩)) ?_
    refine kp 27 (.iface 45 (Value.iface n (Value.iface 0 (Value.agg (List.toArray (List.map (fun r => FS 47 n 0 (List.toArray r)) (rowsM n f))))))) ?_
    refine clr 28 15 [Value.iface 45 (Value.iface n (Value.iface 0 (Value.agg (List.toArray (List.map (fun r => FS 47 n 0 (List.toArray r)) (rowsM n f))))))] ?_
    refine WpCall.consume [0] (t3) (by kernel_rfl) (by kernel_rfl) ?_
    refine kp 29 (.pointer (some ⟨0, 3, none⟩)) ?_
    refine kp 30 (.bool poison) ?_
    refine kp 31 (.pointer (some ⟨0, 4, none⟩)) ?_
    refine kp 32 (.int IntKind.i64 (↑m : Int)) ?_
    refine fr 33 13 [Value.agg #[Value.int .i64 (↑n : Int), FS 48 (List.length ls) 0 (List.toArray (lcs ls))], Value.iface 92 (Value.iface n (Value.iface 0 (Value.agg (List.toArray (List.map (fun r => FS 93 n 0 (List.toArray r)) (rowsM n f)))))), Value.bool poison, Value.int .i64 (↑m : Int)] ?_
    refine WpFun.of (c4) ?_
    refine kp 22 (.tuple #[FS 92 n 0 (List.toArray (List.map (fun r => FS 93 n 0 (List.toArray r)) (rowsM n (it n (cF ls) poison f s)))), Value.int .i64 (↑s : Int), Value.int .i64 0]) ?_
    refine kp 34 (.iface 92 (Value.iface n (Value.iface 0 (Value.agg (List.toArray (List.map (fun r => FS 93 n 0 (List.toArray r)) (rowsM n (it n (cF ls) poison f s)))))))) ?_
    refine kp 35 (.int IntKind.i64 (↑s : Int)) ?_
    refine kp 36 (.int IntKind.i64 0) ?_
    refine kp 6 (.iface 92 (Value.iface n (Value.iface 0 (Value.agg (List.toArray (List.map (fun r => FS 93 n 0 (List.toArray r)) (rowsM n (it n (cF ls) poison f s)))))))) ?_
    refine kp 7 (.int IntKind.i64 (↑s : Int)) ?_
    refine kp 8 (.int IntKind.i64 0) ?_
    refine WpOps.nil (thenK_at (Wp.seq (Wp.text ?_)))
    refine kp 37 (.int IntKind.i64 (↑s : Int)) ?_
    refine kp 38 (.int IntKind.i64 (↑s : Int)) ?_
    refine kp 39 (.bool true) ?_ (hop := fun _ => by_fact e1)
    refine kp 40 (.bool true) ?_
    refine kp 41 (.int IntKind.i64 0) ?_
    refine kp 42 (.int IntKind.i64 0) ?_
    refine kp 43 (.bool true) ?_
    refine kp 44 (.bool true) ?_
    refine kp 45 (.bool true) ?_
    refine kp 46 (.iface 45 (Value.iface n (Value.iface 0 (Value.agg (List.toArray (List.map (fun r => FS 47 n 0 (List.toArray r)) (rowsM n (it n (cF ls) poison f s)))))))) ?_
    refine kp 47 (.iface 92 (Value.iface n (Value.iface 0 (Value.agg (List.toArray (List.map (fun r => FS 93 n 0 (List.toArray r)) (rowsM n (it n (cF ls) poison f s)))))))) ?_
    refine fr 48 16 [Value.iface 45 (Value.iface n (Value.iface 0 (Value.agg (List.toArray (List.map (fun r => FS 47 n 0 (List.toArray r)) (rowsM n (it n (cF ls) poison f s))))))), Value.iface 92 (Value.iface n (Value.iface 0 (Value.agg (List.toArray (List.map (fun r => FS 93 n 0 (List.toArray r)) (rowsM n (it n (cF ls) poison f s)))))))] ?_
    refine WpFun.of (c5) ?_
    refine kp 49 (.bool true) ?_
    refine kp 50 (.bool true) ?_
    refine fr 51 17 [] ?_
    refine WpFun.of (c0) ?_
    refine kp 52 (.bool true) ?_
    refine kp 2 (.bool true) ?_
    refine WpOps.nil (thenK_at (Wp.ret ?_))
    refine endK_retn [Value.bool true] (Value.bool true) (by kernel_rfl) (by kernel_rfl) ?_
    rfl
  · have hm' : okMost (tabOk N ls T) most = false := by simpa using hm
    have c2 := tables15 xt T hs1 hs2
    have c3 := settle12_bad N x ls xt T poison most _ (tables40 N x ls xt T (valid25 N x ls (by omega)) (by omega) (fun p hp => by have := hs2 p hp; omega)) hm'
    have c4 := settle13_bad N 0 ls (if T.length = 0 then 2 else 0) (flipT T) poison most _ (tables45 N 0 ls (if T.length = 0 then 2 else 0) (flipT T) (valid26 N 0 ls (by omega)) (by simp [flipT]; omega) (fun p hp => by have := flip_w hs2 p hp; omega)) (by rw [tabOk_flip]; exact hm')
    rw [← tabT_F] at c4
    have c5 := same16n
    refine Fun.of f3 rfl (of_decide_eq_true (by kernel_rfl)) rfl ?_
    unfold tabT at c2 c4
    unfold netV at c1 c3 c4
    unfold lks tabF at *
    refine Wp.seq (Wp.text ?_)
    refine md 1 (.pointer (some ⟨0, 0, none⟩)) (Blk.mk 27 true [Value.int .i64 N, Value.iface 48 (Value.iface (List.length ls) (Value.iface x (Value.agg (List.toArray (lcs ls))))), Value.iface 45 (Value.iface (List.length T) (Value.iface xt (Value.agg (List.toArray (List.map (fun p => rowF 47 (Prod.fst p) (Prod.snd p)) T))))), Value.bool poison, Value.int .i64 most]) ?_
    refine kp 2 (.bool false) ?_
    refine WpOps.nil (thenK_at (Wp.seq (Wp.text ?_)))
    refine kp 10 (.pointer (some ⟨0, 0, none⟩)) ?_
    refine kp 11 (.agg #[Value.int .i64 N, Value.iface 48 (Value.iface (List.length ls) (Value.iface x (Value.agg (List.toArray (lcs ls)))))]) ?_
    refine kp 12 (.pointer (some ⟨0, 2, none⟩)) ?_
    refine kp 13 (.iface 45 (Value.iface (List.length T) (Value.iface xt (Value.agg (List.toArray (List.map (fun p => rowF 47 (Prod.fst p) (Prod.snd p)) T)))))) ?_
    refine kp 14 (.pointer (some ⟨0, 3, none⟩)) ?_
    refine kp 15 (.bool poison) ?_
    refine kp 16 (.pointer (some ⟨0, 4, none⟩)) ?_
    refine kp 17 (.int IntKind.i64 most) ?_
    refine fr 18 12 [Value.agg #[Value.int .i64 N, Value.iface 48 (Value.iface (List.length ls) (Value.iface x (Value.agg (List.toArray (lcs ls)))))], Value.iface 45 (Value.iface (List.length T) (Value.iface xt (Value.agg (List.toArray (List.map (fun p => rowF 47 (Prod.fst p) (Prod.snd p)) T))))), Value.bool poison, Value.int .i64 most] ?_
    refine WpFun.of (c3) ?_
    refine kp 9 (.tuple #[Value.iface 45 (Value.iface 0 (Value.iface 2 (Value.agg #[]))), Value.int .i64 0, Value.int .i64 1]) ?_
    refine kp 19 (.iface 45 (Value.iface 0 (Value.iface 2 (Value.agg #[])))) ?_
    refine kp 20 (.int IntKind.i64 0) ?_
    refine kp 21 (.int IntKind.i64 1) ?_
    refine kp 3 (.iface 45 (Value.iface 0 (Value.iface 2 (Value.agg #[])))) ?_
    refine kp 4 (.int IntKind.i64 0) ?_
    refine kp 5 (.int IntKind.i64 1) ?_
    refine WpOps.nil (thenK_at (Wp.seq ?_))
    refine Wp.region (by kernel_rfl) ?_
    refine kp 23 (.pointer (some ⟨0, 0, none⟩)) ?_
    refine kp 24 (.agg #[Value.int .i64 N, Value.iface 48 (Value.iface (List.length ls) (Value.iface x (Value.agg (List.toArray (lcs ls)))))]) ?_
    refine fr 25 14 [Value.agg #[Value.int .i64 N, Value.iface 48 (Value.iface (List.length ls) (Value.iface x (Value.agg (List.toArray (lcs ls)))))]] ?_
    refine WpFun.of (c1) ?_
    refine kp 26 (.pointer (some ⟨0, 2, none⟩)) ?_
    refine kp 27 (.iface 45 (Value.iface (List.length T) (Value.iface xt (Value.agg (List.toArray (List.map (fun p => rowF 47 (Prod.fst p) (Prod.snd p)) T)))))) ?_
    refine clr 28 15 [Value.iface 45 (Value.iface (List.length T) (Value.iface xt (Value.agg (List.toArray (List.map (fun p => rowF 47 (Prod.fst p) (Prod.snd p)) T)))))] ?_
    refine WpCall.consume [0] (c2) (by kernel_rfl) (by kernel_rfl) ?_
    refine kp 29 (.pointer (some ⟨0, 3, none⟩)) ?_
    refine kp 30 (.bool poison) ?_
    refine kp 31 (.pointer (some ⟨0, 4, none⟩)) ?_
    refine kp 32 (.int IntKind.i64 most) ?_
    refine fr 33 13 [Value.agg #[Value.int .i64 N, FS 48 (List.length ls) 0 (List.toArray (lcs ls))], Value.iface 92 (Value.iface (List.length T) (Value.iface (if List.length T = 0 then 2 else 0) (Value.agg (List.toArray (ocs 93 T))))), Value.bool poison, Value.int .i64 most] ?_
    refine WpFun.of (c4) ?_
    refine kp 22 (.tuple #[Value.iface 92 (Value.iface 0 (Value.iface 2 (Value.agg #[]))), Value.int .i64 0, Value.int .i64 1]) ?_
    refine kp 34 (.iface 92 (Value.iface 0 (Value.iface 2 (Value.agg #[])))) ?_
    refine kp 35 (.int IntKind.i64 0) ?_
    refine kp 36 (.int IntKind.i64 1) ?_
    refine kp 6 (.iface 92 (Value.iface 0 (Value.iface 2 (Value.agg #[])))) ?_
    refine kp 7 (.int IntKind.i64 0) ?_
    refine kp 8 (.int IntKind.i64 1) ?_
    refine WpOps.nil (thenK_at (Wp.seq (Wp.text ?_)))
    refine kp 37 (.int IntKind.i64 0) ?_
    refine kp 38 (.int IntKind.i64 0) ?_
    refine kp 39 (.bool true) ?_
    refine kp 40 (.bool true) ?_
    refine kp 41 (.int IntKind.i64 1) ?_
    refine kp 42 (.int IntKind.i64 1) ?_
    refine kp 43 (.bool true) ?_
    refine kp 44 (.bool true) ?_
    refine kp 45 (.bool true) ?_
    refine kp 46 (.iface 45 (Value.iface 0 (Value.iface 2 (Value.agg #[])))) ?_
    refine kp 47 (.iface 92 (Value.iface 0 (Value.iface 2 (Value.agg #[])))) ?_
    refine fr 48 16 [Value.iface 45 (Value.iface 0 (Value.iface 2 (Value.agg #[]))), Value.iface 92 (Value.iface 0 (Value.iface 2 (Value.agg #[])))] ?_
    refine WpFun.of (c5) ?_
    refine kp 49 (.bool true) ?_
    refine kp 50 (.bool true) ?_
    refine fr 51 17 [] ?_
    refine WpFun.of (c0) ?_
    refine kp 52 (.bool true) ?_
    refine kp 2 (.bool true) ?_
    refine WpOps.nil (thenK_at (Wp.ret ?_))
    refine endK_retn [Value.bool true] (Value.bool true) (by kernel_rfl) (by kernel_rfl) ?_
    rfl
end Go.Proofs.Ytfjkanjmggbofaa.D
