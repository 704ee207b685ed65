/- Rounds come to rest at the least costs, in plain terms. -/
import Derived.Test.YtfjkanjmggbofaaP12a
import Derived.Test.YtfjkanjmggbofaaV12r
namespace Go.Proofs.Ytfjkanjmggbofaa.D

abbrev Tb := Nat → Nat → Rt
/-- What a node's best is, over the first n. -/
theorem best_inv (c : Mx) (poison : Bool) (f : Tb) (i j : Nat) : ∀ n,
    (bestN c poison f i j n = (16, -1) ∧ ∀ w, w < n → c i w ≠ 0 → 16 ≤ c i w + heard poison i (f w j)) ∨
    (∃ w, w < n ∧ c i w ≠ 0 ∧ bestN c poison f i j n = (c i w + heard poison i (f w j), (w : Int)) ∧ c i w + heard poison i (f w j) < 16 ∧ (∀ u, u < n → c i u ≠ 0 → c i w + heard poison i (f w j) ≤ c i u + heard poison i (f u j)) ∧ ∀ u, u < w → c i u ≠ 0 → c i w + heard poison i (f w j) < c i u + heard poison i (f u j))
  | 0 => .inl ⟨rfl, fun w h => absurd h (Nat.not_lt_zero _)⟩
  | n + 1 => by
    have ih := best_inv c poison f i j n
    have hs : bestN c poison f i j (n + 1) = better (c i n) (heard poison i (f n j)) n (bestN c poison f i j n) := rfl
    rw [hs]
    unfold better
    by_cases h0 : c i n = 0
    · rw [if_pos h0]
      rcases ih with ⟨h1, h2⟩ | ⟨w, h1, h2, h3, h4, h5, h6⟩
      · refine .inl ⟨h1, fun w hw hc => ?_⟩
        by_cases e : w = n
        · subst e
          exact absurd h0 hc
        · exact h2 w (by omega) hc
      · refine .inr ⟨w, by omega, h2, h3, h4, fun u hu hc => ?_, h6⟩
        by_cases e : u = n
        · subst e
          exact absurd h0 hc
        · exact h5 u (by omega) hc
    · rw [if_neg h0]
      rcases ih with ⟨h1, h2⟩ | ⟨w, h1, h2, h3, h4, h5, h6⟩
      · rw [h1]
        by_cases hlt : c i n + heard poison i (f n j) < 16
        · rw [if_pos hlt]
          refine .inr ⟨n, by omega, h0, rfl, hlt, fun u hu hc => ?_, fun u hu hc => ?_⟩
          · by_cases e : u = n
            · subst e
              exact Int.le_refl _
            · have := h2 u (by omega) hc
              omega
          · have := h2 u hu hc
            omega
        · rw [if_neg hlt]
          refine .inl ⟨rfl, fun w hw hc => ?_⟩
          by_cases e : w = n
          · subst e
            omega
          · exact h2 w (by omega) hc
      · rw [h3]
        by_cases hlt : c i n + heard poison i (f n j) < c i w + heard poison i (f w j)
        · rw [if_pos hlt]
          refine .inr ⟨n, by omega, h0, rfl, by omega, fun u hu hc => ?_, fun u hu hc => ?_⟩
          · by_cases e : u = n
            · subst e
              exact Int.le_refl _
            · have := h5 u (by omega) hc
              omega
          · have := h5 u hu hc
            omega
        · rw [if_neg hlt]
          refine .inr ⟨w, by omega, h2, rfl, h4, fun u hu hc => ?_, h6⟩
          by_cases e : u = n
          · subst e
            omega
          · exact h5 u (by omega) hc
/-- What a route is in the end. -/
def Fin (N : Nat) (c d : Mx) (i j : Nat) (r : Rt) : Prop :=
  (d i j = 16 ∧ r = (16, -1)) ∨ (∃ w, w < N ∧ c i w ≠ 0 ∧ r = (d i j, (w : Int)) ∧ d i j < 16 ∧ c i w + d w j = d i j ∧ ∀ u, u < w → c i u ≠ 0 → ¬ c i u + d u j = d i j)
theorem Fin.eq {N : Nat} {c d : Mx} {i j : Nat} {r s : Rt} (h : Fin N c d i j r) (g : Fin N c d i j s) : r = s := by
  rcases h with ⟨h1, rfl⟩ | ⟨w, h1, h2, rfl, h4, h5, h6⟩
  · rcases g with ⟨_, rfl⟩ | ⟨u, _, _, _, g4, _⟩
    · rfl
    · omega
  · rcases g with ⟨g1, _⟩ | ⟨u, g1, g2, rfl, g4, g5, g6⟩
    · omega
    · have : w = u := by
        rcases Nat.lt_trichotomy w u with h | h | h
        · exact absurd h5 (g6 w h h2)
        · exact h
        · exact absurd g5 (h6 u h g2)
      rw [this]
theorem Fin.cost {N : Nat} {c d : Mx} {i j : Nat} {r : Rt} (h : Fin N c d i j r) : r.1 = d i j := by
  rcases h with ⟨h1, rfl⟩ | ⟨w, h1, h2, rfl, h4, h5, h6⟩
  · exact h1.symm
  · rfl
section
variable {N : Nat} {c d : Mx} (D : Dist N c d) (poison : Bool)
/-- Nothing is told below the least. -/
def Lb (N : Nat) (d : Mx) (f : Tb) : Prop := ∀ i j, i < N → j < N → d i j ≤ (f i j).1
def Dg (N : Nat) (f : Tb) : Prop := ∀ j, j < N → f j j = (0, (j : Int))
/-- What is right is heard. -/
def Ti (N : Nat) (c d : Mx) (poison : Bool) (f : Tb) : Prop := ∀ i w j, i < N → w < N → j < N → ¬ i = j → c i w ≠ 0 → c i w + d w j = d i j → d i j < 16 → (f w j).1 = d w j → heard poison i (f w j) = d w j
/-- Those of a rank are right. -/
def Up (N : Nat) (d : Mx) (f : Tb) (r : Nat) : Prop := ∀ i j, i < N → j < N → rk N d j i ≤ r → d i j < 16 → (f i j).1 = d i j
include D in
theorem heard_ge {f : Tb} (hl : Lb N d f) {i w j : Nat} (hw : w < N) (hj : j < N) : d w j ≤ heard poison i (f w j) := by
  unfold heard
  split
  · exact (D.bd w j).2
  · exact hl w j hw hj
include D in
theorem fin_of {f : Tb} (hl : Lb N d f) {i j : Nat} (hi : i < N) (hj : j < N) (hij : ¬ i = j) (ht : ∀ w, w < N → c i w ≠ 0 → c i w + d w j = d i j → d i j < 16 → heard poison i (f w j) = d w j) : Fin N c d i j (bestN c poison f i j N) := by
  have hb := D.bd i j
  rcases best_inv c poison f i j N with ⟨h1, h2⟩ | ⟨w, h1, h2, h3, h4, h5, h6⟩
  · by_cases hlt : d i j < 16
    · obtain ⟨w, g1, g2, g3⟩ := D.next i j hi hj hij hlt
      have g4 := ht w g1 g2 g3.symm hlt
      have g5 := h2 w g1 g2
      omega
    · exact .inl ⟨by omega, h1⟩
  · have k1 := heard_ge D poison hl (i := i) h1 hj
    have k2 := D.tri i w j hi h1 hj h2
    obtain ⟨w0, g1, g2, g3⟩ := D.next i j hi hj hij (by omega)
    have g4 := ht w0 g1 g2 g3.symm (by omega)
    have g5 := h5 w0 g1 g2
    have hv : c i w + heard poison i (f w j) = d i j := by omega
    refine .inr ⟨w, h1, h2, by rw [h3, hv], by omega, by omega, fun u hu hc he => ?_⟩
    have q1 := h6 u hu hc
    have q2 := ht u (by omega) hc he (by omega)
    omega
include D in
theorem lb_step {f : Tb} {m : Int} (hm : 0 ≤ m) (h : ∀ i j, i < N → j < N → min (d i j) m ≤ (f i j).1) : ∀ i j, i < N → j < N → min (d i j) (m + 1) ≤ (roundF N c poison f i j).1 := by
  intro i j hi hj
  unfold roundF
  by_cases e : j = i
  · subst e
    rw [if_pos rfl]
    have h1 := D.diag j hj
    have h2 := h j j hj hj
    omega
  · rw [if_neg e]
    have hb := D.bd i j
    have key : ∀ w, w < N → c i w ≠ 0 → min (d i j) (m + 1) ≤ c i w + heard poison i (f w j) := fun w hw hc => by
      have k1 := D.tri i w j hi hw hj hc
      have k2 := h w j hw hj
      have k3 := D.bd w j
      have k4 := D.cr i w
      unfold heard
      split <;> omega
    rcases best_inv c poison f i j N with ⟨h1, h2⟩ | ⟨w, h1, h2, h3, h4, h5, h6⟩
    · rw [h1]
      show min (d i j) (m + 1) ≤ 16
      omega
    · rw [h3]
      exact key w h1 h2
include D in
theorem lb_keep {f : Tb} (h : Lb N d f) : Lb N d (roundF N c poison f) := by
  intro i j hi hj
  have := lb_step D poison (f := f) (m := 16) (by omega) (fun a b ha hb => by
    have := h a b ha hb
    omega) i j hi hj
  have hb := D.bd i j
  omega
theorem dg_keep {f : Tb} (h : Dg N f) : Dg N (roundF N c poison f) := by
  intro j hj
  unfold roundF
  rw [if_pos rfl]
  exact h j hj
include D in
theorem ti_of {g : Tb} (hl : Lb N d g) (hg : Dg N g) : Ti N c d poison (roundF N c poison g) := by
  intro i w j hi hw hj hij hc he hlt hv
  have hne : ¬ (roundF N c poison g w j).2 = (i : Int) := by
    unfold roundF at hv ⊢
    by_cases e : j = w
    · subst e
      rw [if_pos rfl, hg j hj]
      intro h
      have h' : (j : Int) = i := h
      omega
    · rw [if_neg e] at hv ⊢
      intro h
      rcases best_inv c poison g w j N with ⟨h1, h2⟩ | ⟨u, h1, h2, h3, h4, h5, h6⟩
      · rw [h1] at h
        have h' : (-1 : Int) = i := h
        omega
      · rw [h3] at h hv
        have h' : (u : Int) = i := h
        obtain rfl : u = i := by omega
        have hv' : c w u + heard poison w (g u j) = d w j := hv
        have k1 := heard_ge D poison hl (i := w) hi hj
        have k2 := D.cr w u
        have k3 := D.cr u w
        omega
  unfold heard
  rw [if_neg ?_]
  · exact hv
  · cases poison
    · simp
    · intro h
      exact hne (by simpa using h)
include D in
theorem up_zero {f : Tb} (hg : Dg N f) : Up N d f 0 := by
  intro i j hi hj hr hlt
  by_cases e : i = j
  · subst e
    rw [hg i hi, D.diag i hi]
  · exfalso
    obtain ⟨w, g1, g2, g3⟩ := D.next i j hi hj e hlt
    have k1 := D.cr i w
    have k2 := D.bd w j
    have := rk_lt (N := N) (d := d) (j := j) (i := i) (w := j) hj (by rw [D.diag j hj]; omega)
    omega
include D in
theorem fin_step {f : Tb} {r : Nat} (hl : Lb N d f) (ht : Ti N c d poison f) (hu : Up N d f r) {i j : Nat} (hi : i < N) (hj : j < N) (hij : ¬ i = j) (hr : rk N d j i ≤ r + 1) : Fin N c d i j (roundF N c poison f i j) := by
  unfold roundF
  rw [if_neg fun h => hij h.symm]
  refine fin_of D poison hl hi hj hij fun w hw hc he hlt => ?_
  have k1 := D.cr i w
  have hlt2 : d w j < d i j := by omega
  have := rk_lt (N := N) (j := j) hw hlt2
  exact ht i w j hi hw hj hij hc he hlt (hu w j hw hj (by omega) (by omega))
include D in
theorem up_step {f : Tb} {r : Nat} (hl : Lb N d f) (hg : Dg N f) (ht : Ti N c d poison f) (hu : Up N d f r) : Up N d (roundF N c poison f) (r + 1) := by
  intro i j hi hj hr hlt
  by_cases e : i = j
  · subst e
    have := dg_keep (c := c) poison hg i hi
    rw [this, D.diag i hi]
  · exact (fin_step D poison hl ht hu hi hj e hr).cost
variable (f : Tb)
/-- From some round on: nothing too low, and what is right is heard. -/
structure From (N : Nat) (c d : Mx) (poison : Bool) (f : Tb) (t0 : Nat) : Prop where
  lb : ∀ t, t0 ≤ t → Lb N d (it N c poison f t)
  ti : ∀ t, t0 ≤ t → Ti N c d poison (it N c poison f t)
theorem dg_it (hg : Dg N f) : ∀ t, Dg N (it N c poison f t)
  | 0 => hg
  | t + 1 => dg_keep poison (dg_it hg t)
include D in
theorem up_it {t0 : Nat} (hg : Dg N f) (F : From N c d poison f t0) : ∀ r, Up N d (it N c poison f (t0 + r)) r
  | 0 => up_zero D (dg_it poison f hg _)
  | r + 1 => up_step D poison (F.lb (t0 + r) (by omega)) (dg_it poison f hg _) (F.ti (t0 + r) (by omega)) (up_it hg F r)
theorem up_mono {g : Tb} {r s : Nat} (h : r ≤ s) (hu : Up N d g s) : Up N d g r := fun i j hi hj hr hlt => hu i j hi hj (by omega) hlt
include D in
theorem fin_it {t0 : Nat} (hN : 2 ≤ N) (hg : Dg N f) (F : From N c d poison f t0) (s : Nat) (hs : N - 1 ≤ s) : ∀ i j, i < N → j < N → ¬ i = j → Fin N c d i j (it N c poison f (t0 + s) i j) := by
  intro i j hi hj hij
  obtain ⟨s, rfl⟩ : ∃ r, s = r + 1 := ⟨s - 1, by omega⟩
  have hu := up_it D poison f hg F s
  have hm := rk_max (N := N) (d := d) (j := j) hi
  exact fin_step D poison (F.lb _ (by omega)) (F.ti _ (by omega)) hu hi hj hij (by omega)
end
theorem eqT_of {N : Nat} {f g : Tb} (h : ∀ i j, i < N → j < N → f i j = g i j) : eqT N f g = true := allR_true fun i hi => allR_true fun j hj => by
  rw [h i j hi hj]
  exact eqR_self _
theorem of_eqT {N : Nat} {f g : Tb} (h : eqT N f g = true) {i j : Nat} (hi : i < N) (hj : j < N) : f i j = g i j := eqR_eq (allR_at (allR_at h hi) hj)
theorem round_congr {N : Nat} {c : Mx} {poison : Bool} {f g : Tb} (h : ∀ i j, i < N → j < N → f i j = g i j) : ∀ i j, i < N → j < N → roundF N c poison f i j = roundF N c poison g i j := by
  intro i j hi hj
  unfold roundF
  by_cases e : j = i
  · rw [if_pos e, if_pos e]
    exact h i j hi hj
  · rw [if_neg e, if_neg e]
    have : ∀ n, n ≤ N → bestN c poison f i j n = bestN c poison g i j n := fun n => by
      induction n with
      | zero => exact fun _ => rfl
      | succ n ih =>
        intro hn
        show better _ _ _ _ = better _ _ _ _
        rw [ih (by omega), h n j (by omega) hj]
    exact this N (Nat.le_refl _)
/-- Where it rests it stays. -/
theorem it_rest {N : Nat} {c : Mx} {poison : Bool} {f : Tb} {k : Nat} (h : eqT N (it N c poison f (k + 1)) (it N c poison f k) = true) : ∀ m i j, i < N → j < N → it N c poison f (k + m) i j = it N c poison f k i j
  | 0, _, _, _, _ => rfl
  | m + 1, i, j, hi, hj => by
    have ih := round_congr (N := N) (c := c) (poison := poison) (it_rest h m) i j hi hj
    have h2 := of_eqT h hi hj
    show roundF N c poison (it N c poison f (k + m)) i j = _
    rw [ih]
    exact h2
theorem stop_le {N : Nat} {c : Mx} {poison : Bool} {f : Tb} {most K : Nat} (hK : K < most) (h : eqT N (it N c poison f (K + 1)) (it N c poison f K) = true) : stop N c poison f most ≤ K ∧ eqT N (it N c poison f (stop N c poison f most + 1)) (it N c poison f (stop N c poison f most)) = true := by
  unfold stop
  cases e : (List.range most).find? (fun k => eqT N (it N c poison f (k + 1)) (it N c poison f k)) with
  | none =>
    have := List.find?_eq_none.1 e K (List.mem_range.2 hK)
    exact absurd h this
  | some k =>
    have h1 := List.find?_some e
    refine ⟨?_, h1⟩
    rw [List.find?_eq_some_iff_getElem] at e
    obtain ⟨_, i, hi, he, hp⟩ := e
    simp only [List.getElem_range] at he
    subst he
    refine Nat.le_of_not_lt fun hlt => ?_
    have := hp K hlt
    rw [List.getElem_range, h] at this
    cases this
/-- Tables that are least. -/
structure Least (N : Nat) (c d : Mx) (f : Tb) : Prop where
  dg : Dg N f
  fin : ∀ i j, i < N → j < N → ¬ i = j → Fin N c d i j (f i j)
theorem least_of {N : Nat} {c d : Mx} (D : Dist N c d) {poison : Bool} {f : Tb} {t0 most : Nat} (hN : 2 ≤ N) (hg : Dg N f) (F : From N c d poison f t0) (hm : t0 + (N - 1) < most) : stop N c poison f most ≤ t0 + (N - 1) ∧ Least N c d (it N c poison f (stop N c poison f most)) := by
  have h1 := fin_it D poison f hN hg F (N - 1) (Nat.le_refl _)
  have h2 := fin_it D poison f hN hg F (N - 1 + 1) (by omega)
  have he : eqT N (it N c poison f (t0 + (N - 1) + 1)) (it N c poison f (t0 + (N - 1))) = true := eqT_of fun i j hi hj => by
    by_cases e : i = j
    · subst e
      rw [dg_it poison f hg _ i hi, dg_it poison f hg _ i hi]
    · exact (h2 i j hi hj e).eq (h1 i j hi hj e)
  obtain ⟨h3, h4⟩ := stop_le hm he
  refine ⟨h3, dg_it poison f hg _, fun i j hi hj hij => ?_⟩
  have h5 := it_rest h4 (t0 + (N - 1) - stop N c poison f most) i j hi hj
  rw [show stop N c poison f most + (t0 + (N - 1) - stop N c poison f most) = t0 + (N - 1) by omega] at h5
  rw [← h5]
  exact h1 i j hi hj hij
theorem least_one {c d : Mx} {poison : Bool} {f : Tb} {most : Nat} (hg : Dg 1 f) (hm : 0 < most) : stop 1 c poison f most = 0 ∧ Least 1 c d (it 1 c poison f (stop 1 c poison f most)) := by
  have he : eqT 1 (it 1 c poison f (0 + 1)) (it 1 c poison f 0) = true := eqT_of fun i j hi hj => by
    obtain rfl : i = 0 := by omega
    obtain rfl : j = 0 := by omega
    rw [dg_it poison f hg _ 0 hi, dg_it poison f hg _ 0 hi]
  have h0 : stop 1 c poison f most = 0 := by
    have := (stop_le hm he).1
    omega
  refine ⟨h0, dg_it poison f hg _, fun i j hi hj hij => absurd (show i = j by omega) hij⟩
/-- From any tables. -/
theorem from_any {N : Nat} {c d : Mx} (D : Dist N c d) (poison : Bool) {f : Tb} (hg : Dg N f) (hf : ∀ i j, i < N → j < N → 0 ≤ (f i j).1) : From N c d poison f 17 := by
  have h1 : ∀ t : Nat, ∀ i j, i < N → j < N → min (d i j) (t : Int) ≤ (it N c poison f t i j).1 := fun t => by
    induction t with
    | zero =>
      intro i j hi hj
      have := hf i j hi hj
      show min (d i j) ((0 : Nat) : Int) ≤ (f i j).1
      omega
    | succ t ih =>
      intro i j hi hj
      have := lb_step D poison (m := (t : Int)) (by omega) ih i j hi hj
      show min (d i j) ((t + 1 : Nat) : Int) ≤ (roundF N c poison (it N c poison f t) i j).1
      omega
  have h2 : ∀ t, 16 ≤ t → Lb N d (it N c poison f t) := fun t ht i j hi hj => by
    have := h1 t i j hi hj
    have := D.bd i j
    omega
  refine ⟨fun t ht => h2 t (by omega), fun t ht => ?_⟩
  obtain ⟨s, rfl⟩ : ∃ s, t = s + 1 := ⟨t - 1, by omega⟩
  exact ti_of D poison (h2 s (by omega)) (dg_it poison f hg _)
/-- From the start. -/
theorem from_start {N : Nat} {c d : Mx} (D : Dist N c d) (poison : Bool) : From N c d poison firstF 0 := by
  have hg : Dg N firstF := fun j _ => if_pos rfl
  have h2 : ∀ t, Lb N d (it N c poison firstF t) := fun t => by
    induction t with
    | zero =>
      intro i j hi hj
      show d i j ≤ (firstF i j).1
      unfold firstF
      by_cases e : i = j
      · subst e
        rw [if_pos rfl, D.diag i hi]
        exact Int.le_refl _
      · rw [if_neg e]
        exact (D.bd i j).2
    | succ t ih => exact lb_keep D poison ih
  refine ⟨fun t _ => h2 t, fun t _ => ?_⟩
  match t with
  | 0 =>
    intro i w j hi hw hj hij hc he hlt hv
    show heard poison i (firstF w j) = d w j
    have hv' : (firstF w j).1 = d w j := hv
    have hne : ¬ (firstF w j).2 = (i : Int) := by
      unfold firstF
      by_cases e : w = j
      · rw [if_pos e]
        intro h
        have h' : (w : Int) = i := h
        omega
      · rw [if_neg e]
        intro h
        have h' : (-1 : Int) = i := h
        omega
    unfold heard
    rw [if_neg ?_]
    · exact hv'
    · cases poison
      · simp
      · intro h
        exact hne (by simpa using h)
  | t + 1 => exact ti_of D poison (h2 t) (dg_it poison firstF hg _)
end Go.Proofs.Ytfjkanjmggbofaa.D
