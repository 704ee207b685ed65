/- Paths in least tables, in plain terms. -/
import Derived.Test.YtfjkanjmggbofaaP12b
namespace Go.Proofs.Ytfjkanjmggbofaa.D

theorem tabOk_matT {n : Nat} {ls : List Lk} {f : Tb} (hv : valid n ls = true) (g : ∀ i j, i < n → j < n → routeB n i j (f i j) = true) : tabOk n ls (matT n f) = true := by
  unfold tabOk
  have hl : (matT n f).length = n := by simp [matT]
  rw [hv, hl]
  have e1 : ((n : Int) != (n : Int)) = false := by simp
  rw [e1]
  simp only [Bool.not_false, Bool.true_and]
  refine allR_true fun i hi => ?_
  have e2 : (matT n f).getD i (0, []) = (0, (List.range n).map (f i)) := by simp [matT, List.getD_eq_getElem?_getD, hi]
  rw [e2]
  unfold rowOk
  have hl2 : ((List.range n).map (f i)).length = n := by simp
  show (!((((List.range n).map (f i)).length : Int) != (n : Int)) && _) = true
  rw [hl2, e1]
  simp only [Bool.not_false, Bool.true_and]
  refine allR_true fun j hj => ?_
  have e3 : ((List.range n).map (f i)).getD j (0, 0) = f i j := by simp [List.getD_eq_getElem?_getD, hj]
  rw [e3]
  exact g i j hi hj
theorem Fin.ok {N : Nat} {c d : Mx} (D : Dist N c d) {i j : Nat} (hij : ¬ i = j) (hi : i < N) {r : Rt} (h : Fin N c d i j r) : routeB N i j r = true := by
  unfold routeB
  rw [if_neg (by omega)]
  rcases h with ⟨h1, rfl⟩ | ⟨w, h1, h2, rfl, h4, h5, h6⟩
  · rfl
  · have h7 := D.bd w j
    have h8 := D.cr i w
    have hne : ¬ d i j = 16 := by omega
    dsimp only
    rw [if_neg hne]
    have hw : ¬ w = i := by
      rintro rfl
      exact h2 (D.cd w)
    have e1 : decide (d i j ≥ 1) = true := decide_eq_true (by omega)
    have e2 : decide (d i j < 16) = true := decide_eq_true h4
    have e3 : nodeB N (w : Int) = true := by
      unfold nodeB
      simp
      omega
    have e4 : ((w : Int) != (i : Int)) = true := bne_iff_ne.2 (by omega)
    rw [e1, e2, e3, e4]
    rfl
theorem Least.ok {N : Nat} {c d : Mx} (D : Dist N c d) {f : Tb} (L : Least N c d f) : ∀ i j, i < N → j < N → routeB N i j (f i j) = true := by
  intro i j hi hj
  by_cases e : i = j
  · subst e
    rw [L.dg i hi]
    unfold routeB
    rw [if_pos rfl]
    simp
  · exact (L.fin i j hi hj e).ok D e hi
theorem Least.good {N : Nat} {c d : Mx} (D : Dist N c d) {f : Tb} (L : Least N c d f) : GoodT N f :=
  ⟨fun i j hi hj => (routeB_facts (L.ok D i j hi hj)).1, fun i hi => L.dg i hi, L.ok D⟩
theorem Least.cost {N : Nat} {c d : Mx} (D : Dist N c d) {f : Tb} (L : Least N c d f) : ∀ i j, i < N → j < N → (f i j).1 = d i j := by
  intro i j hi hj
  by_cases e : i = j
  · subst e
    rw [L.dg i hi, D.diag i hi]
  · exact (L.fin i j hi hj e).cost
/-- The cost of a path's first steps. -/
def pc (c : Mx) (f : Tb) (to st : Nat) : Nat → Int
  | 0 => 0
  | k + 1 => pc c f to st k + c (nd f to st k) (nd f to st (k + 1))
theorem pc_range {c : Mx} (hc : ∀ i j, 0 ≤ c i j ∧ c i j ≤ 15) (f : Tb) (to st : Nat) : ∀ k : Nat, 0 ≤ pc c f to st k ∧ pc c f to st k ≤ 15 * k
  | 0 => ⟨Int.le_refl _, Int.le_refl _⟩
  | k + 1 => by
    have ih := pc_range hc f to st k
    have := hc (nd f to st k) (nd f to st (k + 1))
    show 0 ≤ pc c f to st k + _ ∧ pc c f to st k + _ ≤ 15 * ((k + 1 : Nat) : Int)
    omega
theorem Least.next {N : Nat} {c d : Mx} {f : Tb} (L : Least N c d f) {v j : Nat} (hv : v < N) (hj : j < N) (hvj : ¬ v = j) (hlt : d v j < 16) : ∃ w, w < N ∧ (f v j).2 = (w : Int) ∧ c v w ≠ 0 ∧ c v w + d w j = d v j := by
  rcases L.fin v j hv hj hvj with ⟨h1, _⟩ | ⟨w, h1, h2, h3, h4, h5, h6⟩
  · omega
  · exact ⟨w, h1, by rw [h3], h2, h5⟩
theorem path_inv {N : Nat} {c d : Mx} (D : Dist N c d) {f : Tb} (L : Least N c d f) {i j : Nat} (hi : i < N) (hj : j < N) (hlt : d i j < 16) : ∀ k, (∀ m, m < k → halt c f j i m = false) → nd f j i k < N ∧ d (nd f j i k) j < 16 ∧ pc c f j i k + d (nd f j i k) j = d i j ∧ rk N d j (nd f j i k) + k ≤ rk N d j i
  | 0, _ => ⟨hi, hlt, by show (0 : Int) + d i j = d i j; omega, Nat.le_refl _⟩
  | k + 1, hp => by
    obtain ⟨h1, h2, h3, h4⟩ := path_inv D L hi hj hlt k fun m hm => hp m (by omega)
    obtain ⟨g1, _, _⟩ := halt_no (hp k (by omega))
    obtain ⟨w, w1, w2, w3, w4⟩ := L.next h1 hj g1 h2
    have e : nd f j i (k + 1) = w := by
      show (f (nd f j i k) j).2.toNat = w
      rw [w2, Int.toNat_natCast]
    have k1 := D.cr (nd f j i k) w
    have k2 := D.bd w j
    have k3 := rk_lt (N := N) (d := d) (j := j) (i := nd f j i k) w1 (by omega)
    refine ⟨by rw [e]; exact w1, by rw [e]; omega, ?_, by rw [e]; omega⟩
    show pc c f j i k + c (nd f j i k) (nd f j i (k + 1)) + d (nd f j i (k + 1)) j = d i j
    rw [e]
    omega
theorem path_near {N : Nat} {c d : Mx} (D : Dist N c d) {f : Tb} (L : Least N c d f) {i j : Nat} (hi : i < N) (hj : j < N) (hlt : d i j < 16) : stopP N c f j i < N ∧ nd f j i (stopP N c f j i) = j ∧ pc c f j i (stopP N c f j i) = d i j := by
  unfold stopP
  cases e : (List.range N).find? (halt c f j i) with
  | none =>
    exfalso
    have hp : ∀ m, m < N → halt c f j i m = false := fun m hm => by
      have := List.find?_eq_none.1 e m (List.mem_range.2 hm)
      simpa using this
    obtain ⟨_, _, _, h4⟩ := path_inv D L hi hj hlt N hp
    have := rk_max (N := N) (d := d) (j := j) hi
    omega
  | some k =>
    have hh := List.find?_some e
    have hk : k < N := List.mem_range.1 (List.mem_of_find?_eq_some e)
    have hp : ∀ m, m < k → halt c f j i m = false := by
      rw [List.find?_eq_some_iff_getElem] at e
      obtain ⟨_, q, hq, he, hp⟩ := e
      simp only [List.getElem_range] at he
      subst he
      intro m hm
      have := hp m hm
      rw [List.getElem_range] at this
      simpa using this
    obtain ⟨h1, h2, h3, h4⟩ := path_inv D L hi hj hlt k hp
    have hend : nd f j i k = j := by
      refine Decidable.not_not.1 fun hne => ?_
      obtain ⟨w, w1, w2, w3, w4⟩ := L.next h1 hj hne h2
      have e2 : nd f j i (k + 1) = w := by
        show (f (nd f j i k) j).2.toNat = w
        rw [w2, Int.toNat_natCast]
      unfold halt at hh
      rw [e2, w2] at hh
      simp at hh
      rcases hh with h | h
      · exact hne h
      · exact w3 h
    refine ⟨hk, hend, ?_⟩
    rw [hend, D.diag j hj] at h3
    show pc c f j i k = d i j
    omega
theorem path_far {N : Nat} {c d : Mx} {f : Tb} (L : Least N c d f) {i j : Nat} (hi : i < N) (hj : j < N) (hij : ¬ i = j) (h : d i j = 16) : stopP N c f j i = 0 := by
  refine stopP_at (by omega) (fun m hm => absurd hm (Nat.not_lt_zero _)) ?_
  rcases L.fin i j hi hj hij with ⟨_, h2⟩ | ⟨w, h1, h2, h3, h4, h5, h6⟩
  · unfold halt
    show ((i == j) || (((f i j).2 == -1) || _)) = true
    rw [h2]
    simp
  · omega
theorem Least.no_goes {N : Nat} {c d : Mx} (D : Dist N c d) {f : Tb} (L : Least N c d f) {i j : Nat} (hi : i < N) (hj : j < N) : goes N c f i j = false := by
  unfold goes
  have hb := D.bd i j
  by_cases hlt : d i j < 16
  · rw [(path_near D L hi hj hlt).2.1]
    simp
  · have hij : ¬ i = j := fun e => by
      subst e
      rw [D.diag i hi] at hlt
      omega
    rw [path_far L hi hj hij (by omega)]
    simp
    omega
theorem cntAll_zero {N : Nat} {c d : Mx} (D : Dist N c d) {f : Tb} (L : Least N c d f) : cntAll N c f N = 0 := by
  have h1 : ∀ i, i < N → ∀ j, j ≤ N → cntRow N c f i j = 0 := fun i hi j => by
    induction j with
    | zero => exact fun _ => rfl
    | succ j ih =>
      intro hj
      rw [cntRow_f (L.no_goes D hi (by omega))]
      exact ih (by omega)
  have h2 : ∀ i, i ≤ N → cntAll N c f i = 0 := fun i => by
    induction i with
    | zero => exact fun _ => rfl
    | succ i ih =>
      intro hi
      rw [cntAll_succ, ih (by omega), h1 i (by omega) N (Nat.le_refl _)]
  exact h2 N (Nat.le_refl _)
end Go.Proofs.Ytfjkanjmggbofaa.D
