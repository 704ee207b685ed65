/- What validity says; costs told in both ways. -/
import Derived.Test.YtfjkanjmggbofaaV12m
namespace Go.Proofs.Ytfjkanjmggbofaa.D
open Go.Fw Go.RowKit

theorem hit_iff (i j : Nat) (l : Lk) : hit (i : Int) (j : Int) l = true ↔ l.1 = ((min i j : Nat) : Int) ∧ l.2.1 = ((max i j : Nat) : Int) := by
  have h1 : (if (j : Int) < i then (j : Int) else i) = ((min i j : Nat) : Int) := by
    split <;> omega
  have h2 : (if (j : Int) > i then (j : Int) else i) = ((max i j : Nat) : Int) := by
    split <;> omega
  unfold hit
  rw [h1, h2]
  simp
theorem cost_take (ls : List Lk) (hd : ∀ k, k < ls.length → ∀ j, j < k → sameE (lk ls j) (lk ls k) = false) (i j : Nat) : ∀ k, k ≤ ls.length → cAt (ls.take k) i j = costF (ls.take k) i j
  | 0, _ => rfl
  | k + 1, h => by
    have ih := cost_take ls hd i j k (by omega)
    rw [cAt_snoc ls k (by omega), ih]
    have hs : ls.take (k + 1) = ls.take k ++ [lk ls k] := by
      rw [List.take_add_one, List.getElem?_eq_getElem (by omega)]
      simp [lk, List.getD_eq_getElem?_getD, List.getElem?_eq_getElem (show k < ls.length by omega)]
    have hc : costF (ls.take k ++ [lk ls k]) i j = match (ls.take k).find? (hit i j) with
      | some m => m.2.2
      | none => if hit i j (lk ls k) = true then (lk ls k).2.2 else 0 := by
      unfold costF
      rw [List.find?_append]
      cases (ls.take k).find? (hit i j) with
      | some m => rfl
      | none =>
        rw [Option.none_or, List.find?_singleton]
        cases hit (i : Int) (j : Int) (lk ls k) <;> rfl
    rw [hs, hc]
    by_cases hh : hit (i : Int) (j : Int) (lk ls k) = true
    · have h2 := (hit_iff i j (lk ls k)).1 hh
      have hn : (ls.take k).find? (hit i j) = none := by
        rw [List.find?_eq_none]
        intro m hm
        obtain ⟨p, hp, rfl⟩ := List.getElem_of_mem hm
        rw [List.length_take] at hp
        have e : (ls.take k)[p] = lk ls p := by simp [lk, List.getD_eq_getElem?_getD, List.getElem?_eq_getElem (show p < ls.length by omega)]
        rw [e]
        intro h3
        have h4 := (hit_iff i j (lk ls p)).1 h3
        have h5 := hd k (by omega) p (by omega)
        unfold sameE at h5
        rw [h4.1, h4.2, h2.1, h2.2] at h5
        simp at h5
      have hc2 : (ls.getD k (0, 0, 0)).1 = ((min i j : Nat) : Int) ∧ (ls.getD k (0, 0, 0)).2.1 = ((max i j : Nat) : Int) := h2
      rw [hn, if_pos hc2]
      simp only [hh, if_true]
      rfl
    · have hc2 : ¬ ((ls.getD k (0, 0, 0)).1 = ((min i j : Nat) : Int) ∧ (ls.getD k (0, 0, 0)).2.1 = ((max i j : Nat) : Int)) := fun h => hh ((hit_iff i j (lk ls k)).2 h)
      rw [if_neg hc2]
      simp only [hh]
      unfold costF
      cases (ls.take k).find? (hit i j) <;> rfl
theorem lk_mem {ls : List Lk} {l : Lk} (h : l ∈ ls) : ∃ k, k < ls.length ∧ lk ls k = l := by
  obtain ⟨k, hk, rfl⟩ := List.getElem_of_mem h
  exact ⟨k, hk, by simp [lk, List.getD_eq_getElem?_getD, List.getElem?_eq_getElem hk]⟩
/-- What a valid net is. -/
structure Good (n : Nat) (ls : List Lk) : Prop where
  hN : 1 ≤ n ∧ n ≤ 20
  hl : ∀ l ∈ ls, okLk n l
  same : cAt ls = cF ls
  range : ∀ i j, 0 ≤ cF ls i j ∧ cF ls i j ≤ 15
  diag : ∀ i, cF ls i i = 0
theorem good_of {N : Int} {ls : List Lk} (h : valid N ls = true) : ∃ n : Nat, N = n ∧ Good n ls := by
  unfold valid at h
  simp only [Bool.and_eq_true, decide_eq_true_eq] at h
  obtain ⟨⟨h1, h2⟩, h3⟩ := h
  obtain ⟨n, rfl⟩ := Int.eq_ofNat_of_zero_le (show 0 ≤ N by omega)
  have hk : ∀ k, k < ls.length → okB n (lk ls k) = true ∧ ∀ j, j < k → sameE (lk ls j) (lk ls k) = false := fun k hk => by
    have := allR_at h3 hk
    unfold linkB at this
    rw [Bool.and_eq_true] at this
    refine ⟨this.1, fun j hj => ?_⟩
    have h4 := allR_at this.2 hj
    simpa using h4
  have hok : ∀ l ∈ ls, okLk n l := fun l hl => by
    obtain ⟨k, hk2, rfl⟩ := lk_mem hl
    have := (hk k hk2).1
    unfold okB at this
    simp only [Bool.and_eq_true, decide_eq_true_eq] at this
    exact ⟨this.1.1.1.1, this.1.1.1.2, this.1.1.2, this.1.2, this.2⟩
  have hsame : cAt ls = cF ls := by
    funext i j
    have := cost_take ls (fun k hk2 => (hk k hk2).2) i j ls.length (Nat.le_refl _)
    rwa [List.take_length] at this
  refine ⟨n, rfl, ⟨by omega, hok, hsame, fun i j => ?_, fun i => ?_⟩⟩
  · rw [← hsame]
    exact cAt_range hok i j
  · unfold cF costF
    have : ls.find? (hit (i : Int) (i : Int)) = none := by
      rw [List.find?_eq_none]
      intro l hl h5
      have h6 := (hit_iff i i l).1 h5
      obtain ⟨_, h7, _⟩ := hok l hl
      omega
    rw [this]
theorem routeB_facts {n v to : Nat} {r : Rt} (h : routeB n v to r = true) : (0 ≤ r.1 ∧ r.1 ≤ 16) ∧ (v = to → r = (0, (v : Int))) := by
  unfold routeB at h
  by_cases e : (v : Int) = to
  · rw [if_pos e] at h
    simp at h
    exact ⟨by omega, fun _ => Prod.ext h.1 h.2⟩
  · rw [if_neg e] at h
    refine ⟨?_, fun e2 => absurd (by omega) e⟩
    by_cases e2 : r.1 = 16
    · omega
    · rw [if_neg e2] at h
      unfold nodeB at h
      simp at h
      omega
/-- Tables as a function. -/
def tf (T : List (Nat × List Rt)) (i j : Nat) : Rt := (T.getD i (0, [])).2.getD j (0, 0)
structure GoodT (n : Nat) (f : Nat → Nat → Rt) : Prop where
  range : ∀ i j, i < n → j < n → 0 ≤ (f i j).1 ∧ (f i j).1 ≤ 16
  diag : ∀ i, i < n → f i i = (0, (i : Int))
  ok : ∀ i j, i < n → j < n → routeB n i j (f i j) = true
theorem goodT_of {n : Nat} {ls : List Lk} {T : List (Nat × List Rt)} (h : tabOk n ls T = true) : T.length = n ∧ (∀ p ∈ T, p.2.length = n) ∧ GoodT n (tf T) := by
  unfold tabOk at h
  simp only [Bool.and_eq_true] at h
  obtain ⟨⟨_, h1⟩, h2⟩ := h
  have hl : T.length = n := by
    have : (T.length : Int) = n := by simpa using h1
    omega
  have hr : ∀ i, i < n → (T.getD i (0, [])).2.length = n ∧ ∀ j, j < n → routeB n i j (tf T i j) = true := fun i hi => by
    have := allR_at h2 (j := i) (by omega)
    unfold rowOk at this
    simp only [Bool.and_eq_true] at this
    have hl2 : (T.getD i (0, [])).2.length = n := by
      have h5 : ((T.getD i (0, [])).2.length : Int) = n := by simpa using this.1
      omega
    refine ⟨hl2, fun j hj => ?_⟩
    have h3 := allR_at this.2 (j := j) (by omega)
    exact h3
  refine ⟨hl, fun p hp => ?_, fun i j hi hj => (routeB_facts ((hr i hi).2 j hj)).1, fun i hi => (routeB_facts ((hr i hi).2 i hi)).2 rfl, fun i j hi hj => (hr i hi).2 j hj⟩
  obtain ⟨i, hi, rfl⟩ := List.getElem_of_mem hp
  have := (hr i (by omega)).1
  rwa [List.getD_eq_getElem?_getD, List.getElem?_eq_getElem hi] at this
theorem tab_is {n : Nat} {T : List (Nat × List Rt)} (hl : T.length = n) (hr : ∀ p ∈ T, p.2.length = n) (h0 : ∀ p ∈ T, p.1 = 0) : T = matT n (tf T) := by
  apply List.ext_getElem?
  intro i
  unfold matT
  by_cases hi : i < n
  · have hi2 : i < T.length := by omega
    rw [List.getElem?_map, List.getElem?_range hi, List.getElem?_eq_getElem hi2]
    have hm := List.getElem_mem hi2
    have e1 := h0 _ hm
    have e2 := hr _ hm
    show some T[i] = some (0, (List.range n).map (tf T i))
    congr 1
    refine Prod.ext e1 ?_
    apply List.ext_getElem?
    intro j
    by_cases hj : j < n
    · rw [List.getElem?_map, List.getElem?_range hj, List.getElem?_eq_getElem (by omega)]
      unfold tf
      simp [List.getD_eq_getElem?_getD, List.getElem?_eq_getElem hi2, List.getElem?_eq_getElem (show j < T[i].2.length by omega)]
    · rw [List.getElem?_eq_none (by omega), List.getElem?_eq_none (by simp; omega)]
  · rw [List.getElem?_eq_none (by omega), List.getElem?_eq_none (by simp; omega)]
/-- Rounds keep tables good. -/
theorem it_range {n : Nat} {c : Nat → Nat → Int} {poison : Bool} {f : Nat → Nat → Rt} (hc : ∀ i j, 0 ≤ c i j ∧ c i j ≤ 15) (hf : ∀ i j, i < n → j < n → 0 ≤ (f i j).1 ∧ (f i j).1 ≤ 16) : ∀ k i j, i < n → j < n → 0 ≤ (it n c poison f k i j).1 ∧ (it n c poison f k i j).1 ≤ 16
  | 0, i, j, hi, hj => hf i j hi hj
  | k + 1, i, j, hi, hj => by
    have ih := it_range (poison := poison) hc hf k
    show 0 ≤ (roundF n c poison _ i j).1 ∧ (roundF n c poison _ i j).1 ≤ 16
    unfold roundF
    split
    · exact ih i j hi hj
    · exact bestN_range hc (fun w hw => ih w j hw hj) n (Nat.le_refl _)
theorem it_diag {n : Nat} {c : Nat → Nat → Int} {poison : Bool} {f : Nat → Nat → Rt} (hd : ∀ i, i < n → f i i = (0, (i : Int))) : ∀ k i, i < n → it n c poison f k i i = (0, (i : Int))
  | 0, i, hi => hd i hi
  | k + 1, i, hi => by
    show roundF n c poison _ i i = _
    unfold roundF
    rw [if_pos rfl]
    exact it_diag hd k i hi
end Go.Proofs.Ytfjkanjmggbofaa.D
