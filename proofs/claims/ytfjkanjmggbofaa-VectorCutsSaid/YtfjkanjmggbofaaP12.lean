/- The least costs; rounds come to rest at them; paths of least tables: in plain terms. -/
import Derived.Test.YtfjkanjmggbofaaV12t
import Derived.Test.YtfjkanjmggbofaaV12r
namespace Go.Proofs.Ytfjkanjmggbofaa.D
/-- A walk to j from a node and its cost; its inner nodes are below k. -/
inductive Wk (c : Mx) (k j : Nat) : Nat → Int → Prop
  | edge {i : Nat} : c i j ≠ 0 → Wk c k j i (c i j)
  | step {i w : Nat} {x : Int} : c i w ≠ 0 → w < k → Wk c k j w x → Wk c k j i (c i w + x)
theorem Wk.trans {c : Mx} {k m j i : Nat} {x y : Int} (hm : m < k) (h : Wk c k m i x) (g : Wk c k j m y) : Wk c k j i (x + y) := by
  induction h with
  | edge h => exact .step h hm g
  | step h1 h2 _ ih =>
    rw [Int.add_assoc]
    exact .step h1 h2 ih
theorem Wk.nonneg {c : Mx} (hc : ∀ i j, 0 ≤ c i j ∧ c i j ≤ 15) {k j i : Nat} {x : Int} (h : Wk c k j i x) : 0 ≤ x := by
  induction h with
  | edge h => exact (hc _ _).1
  | @step i w x h1 h2 _ ih =>
    have := (hc i w).1
    omega
theorem Wk.split {c : Mx} (hc : ∀ i j, 0 ≤ c i j ∧ c i j ≤ 15) {k j i : Nat} {x : Int} (h : Wk c (k + 1) j i x) : (∃ y, y ≤ x ∧ Wk c k j i y) ∨ (∃ y z, y + z ≤ x ∧ Wk c k k i y ∧ Wk c k j k z) := by
  induction h with
  | edge h => exact .inl ⟨_, Int.le_refl _, .edge h⟩
  | @step i w x h1 h2 _ ih =>
    by_cases hw : w = k
    · subst hw
      rcases ih with ⟨y, hy, g⟩ | ⟨y, z, hyz, g1, g2⟩
      · exact .inr ⟨c i w, y, by omega, .edge h1, g⟩
      · have := g1.nonneg hc
        exact .inr ⟨c i w, z, by omega, .edge h1, g2⟩
    · rcases ih with ⟨y, hy, g⟩ | ⟨y, z, hyz, g1, g2⟩
      · exact .inl ⟨c i w + y, by omega, .step h1 (by omega) g⟩
      · exact .inr ⟨c i w + y, z, by omega, .step h1 (by omega) g1, g2⟩
theorem relax_le (d : Mx) (k i j a b : Nat) : relax d k i j a b ≤ d a b := by
  unfold relax putC
  by_cases e : a = i ∧ b = j
  · obtain ⟨rfl, rfl⟩ := e
    rw [if_pos ⟨rfl, rfl⟩]
    exact Int.min_le_left _ _
  · rw [if_neg e]
    exact Int.le_refl _
theorem rrow_le (d : Mx) (k i a b : Nat) : ∀ m, rrow d k i m a b ≤ d a b
  | 0 => Int.le_refl _
  | m + 1 => Int.le_trans (relax_le _ _ _ _ _ _) (rrow_le d k i a b m)
theorem rmat_le (n : Nat) (d : Mx) (k a b : Nat) : ∀ m, rmat n d k m a b ≤ d a b
  | 0 => Int.le_refl _
  | m + 1 => Int.le_trans (rrow_le _ _ _ _ _ _) (rmat_le n d k a b m)
theorem rall_le0 (n : Nat) (d : Mx) (a b : Nat) : ∀ k, rall n d k a b ≤ d a b
  | 0 => Int.le_refl _
  | k + 1 => Int.le_trans (rmat_le _ _ _ _ _ _) (rall_le0 n d a b k)
theorem rrow_via (d : Mx) (k i j : Nat) : ∀ m, j < m → rrow d k i m i j ≤ d i k + d k j
  | 0, h => absurd h (Nat.not_lt_zero _)
  | m + 1, h => by
    by_cases e : j = m
    · subst e
      have h1 := rrow_le d k i i k j
      have h2 := rrow_le d k i k j j
      show relax (rrow d k i j) k i j i j ≤ _
      unfold relax putC
      rw [if_pos ⟨rfl, rfl⟩]
      have := Int.min_le_right (rrow d k i j i j) (rrow d k i j i k + rrow d k i j k j)
      omega
    · exact Int.le_trans (relax_le _ _ _ _ _ _) (rrow_via d k i j m (by omega))
theorem rmat_via (n : Nat) (d : Mx) (k i j : Nat) (hj : j < n) : ∀ m, i < m → rmat n d k m i j ≤ d i k + d k j
  | 0, h => absurd h (Nat.not_lt_zero _)
  | m + 1, h => by
    by_cases e : i = m
    · subst e
      have h1 := rmat_le n d k i k i
      have h2 := rmat_le n d k k j i
      have h3 := rrow_via (rmat n d k i) k i j n hj
      show rrow (rmat n d k i) k i n i j ≤ _
      omega
    · exact Int.le_trans (rrow_le _ _ _ _ _ _) (rmat_via n d k i j hj m (by omega))
/-- No cost is above a walk's. -/
theorem rall_le {N : Nat} {c : Mx} (hc : ∀ i j, 0 ≤ c i j ∧ c i j ≤ 15) : ∀ k, k ≤ N → ∀ (i j : Nat) (x : Int), i < N → j < N → Wk c k j i x → rall N (d0 c) k i j ≤ x
  | 0, _, i, j, x, _, _, h => by
    cases h with
    | edge h =>
      show d0 c i j ≤ c i j
      unfold d0
      rw [if_neg fun h1 => h h1.1]
      exact Int.le_refl _
    | step _ h2 _ => exact absurd h2 (Nat.not_lt_zero _)
  | k + 1, hk, i, j, x, hi, hj, h => by
    rcases h.split hc with ⟨y, hy, g⟩ | ⟨y, z, hyz, g1, g2⟩
    · have h1 := rall_le hc k (by omega) i j y hi hj g
      have h2 := rmat_le N (rall N (d0 c) k) k i j N
      show rmat N (rall N (d0 c) k) k N i j ≤ x
      omega
    · have h1 := rall_le hc k (by omega) i k y hi (by omega) g1
      have h2 := rall_le hc k (by omega) k j z (by omega) hj g2
      have h3 := rmat_via N (rall N (d0 c) k) k i j hj N hi
      show rmat N (rall N (d0 c) k) k N i j ≤ x
      omega
/-- Each cost is a walk's. -/
def snd (N : Nat) (c d : Mx) : Prop := ∀ i j, i < N → j < N → (i = j ∧ d i j = 0) ∨ 16 ≤ d i j ∨ Wk c N j i (d i j)
theorem snd_relax {N : Nat} {c d : Mx} (h : snd N c d) (hb : bnd d) {k i j : Nat} (hk : k < N) (hi : i < N) (hj : j < N) : snd N c (relax d k i j) := by
  intro a b ha hb2
  unfold relax putC
  by_cases e : a = i ∧ b = j
  · obtain ⟨rfl, rfl⟩ := e
    rw [if_pos ⟨rfl, rfl⟩]
    by_cases hm : d a b ≤ d a k + d k b
    · rw [Int.min_eq_left hm]
      exact h a b ha hb2
    · rw [Int.min_eq_right (by omega)]
      have p1 := hb a k
      have p2 := hb k b
      rcases h a k ha hk with ⟨e1, e2⟩ | h1 | h1
      · subst e1
        omega
      · exact .inr (.inl (by omega))
      · rcases h k b hk hb2 with ⟨e1, e2⟩ | h2 | h2
        · subst e1
          omega
        · exact .inr (.inl (by omega))
        · exact .inr (.inr (h1.trans hk h2))
  · rw [if_neg e]
    exact h a b ha hb2
theorem snd_rrow {N : Nat} {c d : Mx} (h : snd N c d) (hb : bnd d) {k i : Nat} (hk : k < N) (hi : i < N) : ∀ m, m ≤ N → snd N c (rrow d k i m)
  | 0, _ => h
  | m + 1, hm => snd_relax (snd_rrow h hb hk hi m (by omega)) (bnd_rrow hb k i m) hk hi (by omega)
theorem snd_rmat {N : Nat} {c d : Mx} (h : snd N c d) (hb : bnd d) {k : Nat} (hk : k < N) : ∀ m, m ≤ N → snd N c (rmat N d k m)
  | 0, _ => h
  | m + 1, hm => snd_rrow (snd_rmat h hb hk m (by omega)) (bnd_rmat hb k m) hk (by omega) N (Nat.le_refl _)
theorem snd_rall {N : Nat} {c d : Mx} (h : snd N c d) (hb : bnd d) : ∀ k, k ≤ N → snd N c (rall N d k)
  | 0, _ => h
  | k + 1, hk => snd_rmat (snd_rall h hb k (by omega)) (bnd_rall hb k) (by omega) N (Nat.le_refl _)
theorem snd_d0 {N : Nat} {c : Mx} (hcd : ∀ i, c i i = 0) : snd N c (d0 c) := fun i j _ _ => by
  by_cases e : i = j
  · subst e
    refine .inl ⟨rfl, ?_⟩
    unfold d0
    rw [if_neg (by simp)]
    exact hcd i
  · unfold d0
    by_cases h : c i j = 0
    · rw [if_pos ⟨h, e⟩]
      exact .inr (.inl (Int.le_refl _))
    · rw [if_neg fun h1 => h h1.1]
      exact .inr (.inr (.edge h))
/-- The least costs. -/
structure Dist (N : Nat) (c d : Mx) : Prop where
  cr : ∀ i j, 0 ≤ c i j ∧ c i j ≤ 15
  cd : ∀ i, c i i = 0
  bd : ∀ i j, 0 ≤ d i j ∧ d i j ≤ 16
  diag : ∀ i, i < N → d i i = 0
  tri : ∀ i w j, i < N → w < N → j < N → c i w ≠ 0 → d i j ≤ c i w + d w j
  next : ∀ i j, i < N → j < N → ¬ i = j → d i j < 16 → ∃ w, w < N ∧ c i w ≠ 0 ∧ d i j = c i w + d w j
theorem dist_of {N : Nat} {c : Mx} (hc : ∀ i j, 0 ≤ c i j ∧ c i j ≤ 15) (hcd : ∀ i, c i i = 0) : Dist N c (rall N (d0 c) N) := by
  have hb := bnd_rall (n := N) (bnd_d0 hc) N
  have hs := snd_rall (snd_d0 (N := N) hcd) (bnd_d0 hc) N (Nat.le_refl _)
  have hl := rall_le (N := N) hc N (Nat.le_refl _)
  have hd : ∀ i, rall N (d0 c) N i i = 0 := fun i => by
    have h1 := rall_le0 N (d0 c) i i N
    have h2 : d0 c i i = 0 := by
      unfold d0
      rw [if_neg (by simp)]
      exact hcd i
    have := (hb i i).1
    omega
  have tri : ∀ i w j, i < N → w < N → j < N → c i w ≠ 0 → rall N (d0 c) N i j ≤ c i w + rall N (d0 c) N w j := fun i w j hi hw hj h => by
    rcases hs w j hw hj with ⟨e1, e2⟩ | h1 | h1
    · subst e1
      have := hl i w _ hi hj (.edge h)
      omega
    · have := hb i j
      have := hc i w
      omega
    · exact hl i j _ hi hj (.step h hw h1)
  refine ⟨hc, hcd, hb, fun i _ => hd i, tri, fun i j hi hj hij hlt => ?_⟩
  rcases hs i j hi hj with ⟨e1, e2⟩ | h1 | h1
  · exact absurd e1 hij
  · omega
  · generalize hx : rall N (d0 c) N i j = x at h1
    cases h1 with
    | edge h =>
      refine ⟨j, hj, h, ?_⟩
      rw [hd j]
      omega
    | @step _ w x h2 h3 h4 =>
      refine ⟨w, h3, h2, ?_⟩
      have g1 := tri i w j hi h3 hj h2
      have g2 := hl w j _ h3 hj h4
      omega
/-! ## how many are nearer -/
def rk (N : Nat) (d : Mx) (j i : Nat) : Nat := (List.range N).countP fun v => decide (d v j < d i j)
theorem countP_lt {α : Type} {p q : α → Bool} (h : ∀ x, p x = true → q x = true) {a : α} (hq : q a = true) (hp : p a = false) : ∀ {l : List α}, a ∈ l → l.countP p < l.countP q
  | x :: l, hm => by
    have hle : l.countP p ≤ l.countP q := List.countP_mono_left fun y _ hy => h y hy
    rw [List.countP_cons, List.countP_cons]
    rcases List.mem_cons.1 hm with rfl | hm
    · rw [hq, hp]
      simp
      omega
    · have ih := countP_lt h hq hp hm
      by_cases hx : p x = true
      · rw [hx, h x hx]
        simp
        omega
      · have hx' : p x = false := by simpa using hx
        rw [hx']
        by_cases hy : q x = true
        · rw [hy]
          simp
          omega
        · have hy' : q x = false := by simpa using hy
          rw [hy']
          simpa using ih
theorem rk_lt {N : Nat} {d : Mx} {j i w : Nat} (hw : w < N) (h : d w j < d i j) : rk N d j w < rk N d j i :=
  countP_lt (a := w) (fun x hx => by
    simp at hx ⊢
    omega) (by simpa using h) (by simp) (List.mem_range.2 hw)
theorem rk_max {N : Nat} {d : Mx} {j i : Nat} (hi : i < N) : rk N d j i < N := by
  have : rk N d j i < (List.range N).countP (fun _ => true) := countP_lt (a := i) (fun _ _ => rfl) rfl (by simp) (List.mem_range.2 hi)
  simpa using this
abbrev Tb := Nat → Nat → Rt
/-- What a node's best is, over the first n. -/
theorem best_inv (c : Mx) (poison : Bool) (f : Tb) (i j : Nat) : ∀ n,
    (bestN c poison f i j n = (16, -1) ∧ ∀ w, w < n → c i w ≠ 0 → 16 ≤ c i w + heard poison i (f w j)) ∨
    (∃ w, w < n ∧ c i w ≠ 0 ∧ bestN c poison f i j n = (c i w + heard poison i (f w j), (w : Int)) ∧ c i w + heard poison i (f w j) < 16 ∧ (∀ u, u < n → c i u ≠ 0 → c i w + heard poison i (f w j) ≤ c i u + heard poison i (f u j)) ∧ ∀ u, u < w → c i u ≠ 0 → c i w + heard poison i (f w j) < c i u + heard poison i (f u j))
  | 0 => .inl ⟨rfl, fun w h => absurd h (Nat.not_lt_zero _)⟩
  | n + 1 => by
    have ih := best_inv c poison f i j n
    have hs : bestN c poison f i j (n + 1) = better (c i n) (heard poison i (f n j)) n (bestN c poison f i j n) := rfl
    rw [hs]
    unfold better
    by_cases h0 : c i n = 0
    · rw [if_pos h0]
      rcases ih with ⟨h1, h2⟩ | ⟨w, h1, h2, h3, h4, h5, h6⟩
      · refine .inl ⟨h1, fun w hw hc => ?_⟩
        by_cases e : w = n
        · subst e
          exact absurd h0 hc
        · exact h2 w (by omega) hc
      · refine .inr ⟨w, by omega, h2, h3, h4, fun u hu hc => ?_, h6⟩
        by_cases e : u = n
        · subst e
          exact absurd h0 hc
        · exact h5 u (by omega) hc
    · rw [if_neg h0]
      rcases ih with ⟨h1, h2⟩ | ⟨w, h1, h2, h3, h4, h5, h6⟩
      · rw [h1]
        by_cases hlt : c i n + heard poison i (f n j) < 16
        · rw [if_pos hlt]
          refine .inr ⟨n, by omega, h0, rfl, hlt, fun u hu hc => ?_, fun u hu hc => ?_⟩
          · by_cases e : u = n
            · subst e
              exact Int.le_refl _
            · have := h2 u (by omega) hc
              omega
          · have := h2 u hu hc
            omega
        · rw [if_neg hlt]
          refine .inl ⟨rfl, fun w hw hc => ?_⟩
          by_cases e : w = n
          · subst e
            omega
          · exact h2 w (by omega) hc
      · rw [h3]
        by_cases hlt : c i n + heard poison i (f n j) < c i w + heard poison i (f w j)
        · rw [if_pos hlt]
          refine .inr ⟨n, by omega, h0, rfl, by omega, fun u hu hc => ?_, fun u hu hc => ?_⟩
          · by_cases e : u = n
            · subst e
              exact Int.le_refl _
            · have := h5 u (by omega) hc
              omega
          · have := h5 u hu hc
            omega
        · rw [if_neg hlt]
          refine .inr ⟨w, by omega, h2, rfl, h4, fun u hu hc => ?_, h6⟩
          by_cases e : u = n
          · subst e
            omega
          · exact h5 u (by omega) hc
/-- What a route is in the end. -/
def Fin (N : Nat) (c d : Mx) (i j : Nat) (r : Rt) : Prop :=
  (d i j = 16 ∧ r = (16, -1)) ∨ (∃ w, w < N ∧ c i w ≠ 0 ∧ r = (d i j, (w : Int)) ∧ d i j < 16 ∧ c i w + d w j = d i j ∧ ∀ u, u < w → c i u ≠ 0 → ¬ c i u + d u j = d i j)
theorem Fin.eq {N : Nat} {c d : Mx} {i j : Nat} {r s : Rt} (h : Fin N c d i j r) (g : Fin N c d i j s) : r = s := by
  rcases h with ⟨h1, rfl⟩ | ⟨w, h1, h2, rfl, h4, h5, h6⟩
  · rcases g with ⟨_, rfl⟩ | ⟨u, _, _, _, g4, _⟩
    · rfl
    · omega
  · rcases g with ⟨g1, _⟩ | ⟨u, g1, g2, rfl, g4, g5, g6⟩
    · omega
    · have : w = u := by
        rcases Nat.lt_trichotomy w u with h | h | h
        · exact absurd h5 (g6 w h h2)
        · exact h
        · exact absurd g5 (h6 u h g2)
      rw [this]
theorem Fin.cost {N : Nat} {c d : Mx} {i j : Nat} {r : Rt} (h : Fin N c d i j r) : r.1 = d i j := by
  rcases h with ⟨h1, rfl⟩ | ⟨w, h1, h2, rfl, h4, h5, h6⟩
  · exact h1.symm
  · rfl
section
variable {N : Nat} {c d : Mx} (D : Dist N c d) (poison : Bool)
/-- Nothing is told below the least. -/
def Lb (N : Nat) (d : Mx) (f : Tb) : Prop := ∀ i j, i < N → j < N → d i j ≤ (f i j).1
def Dg (N : Nat) (f : Tb) : Prop := ∀ j, j < N → f j j = (0, (j : Int))
/-- What is right is heard. -/
def Ti (N : Nat) (c d : Mx) (poison : Bool) (f : Tb) : Prop := ∀ i w j, i < N → w < N → j < N → ¬ i = j → c i w ≠ 0 → c i w + d w j = d i j → d i j < 16 → (f w j).1 = d w j → heard poison i (f w j) = d w j
/-- Those of a rank are right. -/
def Up (N : Nat) (d : Mx) (f : Tb) (r : Nat) : Prop := ∀ i j, i < N → j < N → rk N d j i ≤ r → d i j < 16 → (f i j).1 = d i j
include D in
theorem heard_ge {f : Tb} (hl : Lb N d f) {i w j : Nat} (hw : w < N) (hj : j < N) : d w j ≤ heard poison i (f w j) := by
  unfold heard
  split
  · exact (D.bd w j).2
  · exact hl w j hw hj
include D in
theorem fin_of {f : Tb} (hl : Lb N d f) {i j : Nat} (hi : i < N) (hj : j < N) (hij : ¬ i = j) (ht : ∀ w, w < N → c i w ≠ 0 → c i w + d w j = d i j → d i j < 16 → heard poison i (f w j) = d w j) : Fin N c d i j (bestN c poison f i j N) := by
  have hb := D.bd i j
  rcases best_inv c poison f i j N with ⟨h1, h2⟩ | ⟨w, h1, h2, h3, h4, h5, h6⟩
  · by_cases hlt : d i j < 16
    · obtain ⟨w, g1, g2, g3⟩ := D.next i j hi hj hij hlt
      have g4 := ht w g1 g2 g3.symm hlt
      have g5 := h2 w g1 g2
      omega
    · exact .inl ⟨by omega, h1⟩
  · have k1 := heard_ge D poison hl (i := i) h1 hj
    have k2 := D.tri i w j hi h1 hj h2
    obtain ⟨w0, g1, g2, g3⟩ := D.next i j hi hj hij (by omega)
    have g4 := ht w0 g1 g2 g3.symm (by omega)
    have g5 := h5 w0 g1 g2
    have hv : c i w + heard poison i (f w j) = d i j := by omega
    refine .inr ⟨w, h1, h2, by rw [h3, hv], by omega, by omega, fun u hu hc he => ?_⟩
    have q1 := h6 u hu hc
    have q2 := ht u (by omega) hc he (by omega)
    omega
include D in
theorem lb_step {f : Tb} {m : Int} (hm : 0 ≤ m) (h : ∀ i j, i < N → j < N → min (d i j) m ≤ (f i j).1) : ∀ i j, i < N → j < N → min (d i j) (m + 1) ≤ (roundF N c poison f i j).1 := by
  intro i j hi hj
  unfold roundF
  by_cases e : j = i
  · subst e
    rw [if_pos rfl]
    have h1 := D.diag j hj
    have h2 := h j j hj hj
    omega
  · rw [if_neg e]
    have hb := D.bd i j
    have key : ∀ w, w < N → c i w ≠ 0 → min (d i j) (m + 1) ≤ c i w + heard poison i (f w j) := fun w hw hc => by
      have k1 := D.tri i w j hi hw hj hc
      have k2 := h w j hw hj
      have k3 := D.bd w j
      have k4 := D.cr i w
      unfold heard
      split <;> omega
    rcases best_inv c poison f i j N with ⟨h1, h2⟩ | ⟨w, h1, h2, h3, h4, h5, h6⟩
    · rw [h1]
      show min (d i j) (m + 1) ≤ 16
      omega
    · rw [h3]
      exact key w h1 h2
include D in
theorem lb_keep {f : Tb} (h : Lb N d f) : Lb N d (roundF N c poison f) := by
  intro i j hi hj
  have := lb_step D poison (f := f) (m := 16) (by omega) (fun a b ha hb => by
    have := h a b ha hb
    omega) i j hi hj
  have hb := D.bd i j
  omega
theorem dg_keep {f : Tb} (h : Dg N f) : Dg N (roundF N c poison f) := by
  intro j hj
  unfold roundF
  rw [if_pos rfl]
  exact h j hj
include D in
theorem ti_of {g : Tb} (hl : Lb N d g) (hg : Dg N g) : Ti N c d poison (roundF N c poison g) := by
  intro i w j hi hw hj hij hc he hlt hv
  have hne : ¬ (roundF N c poison g w j).2 = (i : Int) := by
    unfold roundF at hv ⊢
    by_cases e : j = w
    · subst e
      rw [if_pos rfl, hg j hj]
      intro h
      have h' : (j : Int) = i := h
      omega
    · rw [if_neg e] at hv ⊢
      intro h
      rcases best_inv c poison g w j N with ⟨h1, h2⟩ | ⟨u, h1, h2, h3, h4, h5, h6⟩
      · rw [h1] at h
        have h' : (-1 : Int) = i := h
        omega
      · rw [h3] at h hv
        have h' : (u : Int) = i := h
        obtain rfl : u = i := by omega
        have hv' : c w u + heard poison w (g u j) = d w j := hv
        have k1 := heard_ge D poison hl (i := w) hi hj
        have k2 := D.cr w u
        have k3 := D.cr u w
        omega
  unfold heard
  rw [if_neg ?_]
  · exact hv
  · cases poison
    · simp
    · intro h
      exact hne (by simpa using h)
include D in
theorem up_zero {f : Tb} (hg : Dg N f) : Up N d f 0 := by
  intro i j hi hj hr hlt
  by_cases e : i = j
  · subst e
    rw [hg i hi, D.diag i hi]
  · exfalso
    obtain ⟨w, g1, g2, g3⟩ := D.next i j hi hj e hlt
    have k1 := D.cr i w
    have k2 := D.bd w j
    have := rk_lt (N := N) (d := d) (j := j) (i := i) (w := j) hj (by rw [D.diag j hj]; omega)
    omega
include D in
theorem fin_step {f : Tb} {r : Nat} (hl : Lb N d f) (ht : Ti N c d poison f) (hu : Up N d f r) {i j : Nat} (hi : i < N) (hj : j < N) (hij : ¬ i = j) (hr : rk N d j i ≤ r + 1) : Fin N c d i j (roundF N c poison f i j) := by
  unfold roundF
  rw [if_neg fun h => hij h.symm]
  refine fin_of D poison hl hi hj hij fun w hw hc he hlt => ?_
  have k1 := D.cr i w
  have hlt2 : d w j < d i j := by omega
  have := rk_lt (N := N) (j := j) hw hlt2
  exact ht i w j hi hw hj hij hc he hlt (hu w j hw hj (by omega) (by omega))
include D in
theorem up_step {f : Tb} {r : Nat} (hl : Lb N d f) (hg : Dg N f) (ht : Ti N c d poison f) (hu : Up N d f r) : Up N d (roundF N c poison f) (r + 1) := by
  intro i j hi hj hr hlt
  by_cases e : i = j
  · subst e
    have := dg_keep (c := c) poison hg i hi
    rw [this, D.diag i hi]
  · exact (fin_step D poison hl ht hu hi hj e hr).cost
variable (f : Tb)
/-- From some round on: nothing too low, and what is right is heard. -/
structure From (N : Nat) (c d : Mx) (poison : Bool) (f : Tb) (t0 : Nat) : Prop where
  lb : ∀ t, t0 ≤ t → Lb N d (it N c poison f t)
  ti : ∀ t, t0 ≤ t → Ti N c d poison (it N c poison f t)
theorem dg_it (hg : Dg N f) : ∀ t, Dg N (it N c poison f t)
  | 0 => hg
  | t + 1 => dg_keep poison (dg_it hg t)
include D in
theorem up_it {t0 : Nat} (hg : Dg N f) (F : From N c d poison f t0) : ∀ r, Up N d (it N c poison f (t0 + r)) r
  | 0 => up_zero D (dg_it poison f hg _)
  | r + 1 => up_step D poison (F.lb (t0 + r) (by omega)) (dg_it poison f hg _) (F.ti (t0 + r) (by omega)) (up_it hg F r)
theorem up_mono {g : Tb} {r s : Nat} (h : r ≤ s) (hu : Up N d g s) : Up N d g r := fun i j hi hj hr hlt => hu i j hi hj (by omega) hlt
include D in
theorem fin_it {t0 : Nat} (hN : 2 ≤ N) (hg : Dg N f) (F : From N c d poison f t0) (s : Nat) (hs : N - 1 ≤ s) : ∀ i j, i < N → j < N → ¬ i = j → Fin N c d i j (it N c poison f (t0 + s) i j) := by
  intro i j hi hj hij
  obtain ⟨s, rfl⟩ : ∃ r, s = r + 1 := ⟨s - 1, by omega⟩
  have hu := up_it D poison f hg F s
  have hm := rk_max (N := N) (d := d) (j := j) hi
  exact fin_step D poison (F.lb _ (by omega)) (F.ti _ (by omega)) hu hi hj hij (by omega)
end
theorem eqT_of {N : Nat} {f g : Tb} (h : ∀ i j, i < N → j < N → f i j = g i j) : eqT N f g = true := allR_true fun i hi => allR_true fun j hj => by
  rw [h i j hi hj]
  exact eqR_self _
theorem of_eqT {N : Nat} {f g : Tb} (h : eqT N f g = true) {i j : Nat} (hi : i < N) (hj : j < N) : f i j = g i j := eqR_eq (allR_at (allR_at h hi) hj)
theorem round_congr {N : Nat} {c : Mx} {poison : Bool} {f g : Tb} (h : ∀ i j, i < N → j < N → f i j = g i j) : ∀ i j, i < N → j < N → roundF N c poison f i j = roundF N c poison g i j := by
  intro i j hi hj
  unfold roundF
  by_cases e : j = i
  · rw [if_pos e, if_pos e]
    exact h i j hi hj
  · rw [if_neg e, if_neg e]
    have : ∀ n, n ≤ N → bestN c poison f i j n = bestN c poison g i j n := fun n => by
      induction n with
      | zero => exact fun _ => rfl
      | succ n ih =>
        intro hn
        show better _ _ _ _ = better _ _ _ _
        rw [ih (by omega), h n j (by omega) hj]
    exact this N (Nat.le_refl _)
/-- Where it rests it stays. -/
theorem it_rest {N : Nat} {c : Mx} {poison : Bool} {f : Tb} {k : Nat} (h : eqT N (it N c poison f (k + 1)) (it N c poison f k) = true) : ∀ m i j, i < N → j < N → it N c poison f (k + m) i j = it N c poison f k i j
  | 0, _, _, _, _ => rfl
  | m + 1, i, j, hi, hj => by
    have ih := round_congr (N := N) (c := c) (poison := poison) (it_rest h m) i j hi hj
    have h2 := of_eqT h hi hj
    show roundF N c poison (it N c poison f (k + m)) i j = _
    rw [ih]
    exact h2
theorem stop_le {N : Nat} {c : Mx} {poison : Bool} {f : Tb} {most K : Nat} (hK : K < most) (h : eqT N (it N c poison f (K + 1)) (it N c poison f K) = true) : stop N c poison f most ≤ K ∧ eqT N (it N c poison f (stop N c poison f most + 1)) (it N c poison f (stop N c poison f most)) = true := by
  unfold stop
  cases e : (List.range most).find? (fun k => eqT N (it N c poison f (k + 1)) (it N c poison f k)) with
  | none =>
    have := List.find?_eq_none.1 e K (List.mem_range.2 hK)
    exact absurd h this
  | some k =>
    have h1 := List.find?_some e
    refine ⟨?_, h1⟩
    rw [List.find?_eq_some_iff_getElem] at e
    obtain ⟨_, i, hi, he, hp⟩ := e
    simp only [List.getElem_range] at he
    subst he
    refine Nat.le_of_not_lt fun hlt => ?_
    have := hp K hlt
    rw [List.getElem_range, h] at this
    cases this
/-- Tables that are least. -/
structure Least (N : Nat) (c d : Mx) (f : Tb) : Prop where
  dg : Dg N f
  fin : ∀ i j, i < N → j < N → ¬ i = j → Fin N c d i j (f i j)
theorem least_of {N : Nat} {c d : Mx} (D : Dist N c d) {poison : Bool} {f : Tb} {t0 most : Nat} (hN : 2 ≤ N) (hg : Dg N f) (F : From N c d poison f t0) (hm : t0 + (N - 1) < most) : stop N c poison f most ≤ t0 + (N - 1) ∧ Least N c d (it N c poison f (stop N c poison f most)) := by
  have h1 := fin_it D poison f hN hg F (N - 1) (Nat.le_refl _)
  have h2 := fin_it D poison f hN hg F (N - 1 + 1) (by omega)
  have he : eqT N (it N c poison f (t0 + (N - 1) + 1)) (it N c poison f (t0 + (N - 1))) = true := eqT_of fun i j hi hj => by
    by_cases e : i = j
    · subst e
      rw [dg_it poison f hg _ i hi, dg_it poison f hg _ i hi]
    · exact (h2 i j hi hj e).eq (h1 i j hi hj e)
  obtain ⟨h3, h4⟩ := stop_le hm he
  refine ⟨h3, dg_it poison f hg _, fun i j hi hj hij => ?_⟩
  have h5 := it_rest h4 (t0 + (N - 1) - stop N c poison f most) i j hi hj
  rw [show stop N c poison f most + (t0 + (N - 1) - stop N c poison f most) = t0 + (N - 1) by omega] at h5
  rw [← h5]
  exact h1 i j hi hj hij
theorem least_one {c d : Mx} {poison : Bool} {f : Tb} {most : Nat} (hg : Dg 1 f) (hm : 0 < most) : stop 1 c poison f most = 0 ∧ Least 1 c d (it 1 c poison f (stop 1 c poison f most)) := by
  have he : eqT 1 (it 1 c poison f (0 + 1)) (it 1 c poison f 0) = true := eqT_of fun i j hi hj => by
    obtain rfl : i = 0 := by omega
    obtain rfl : j = 0 := by omega
    rw [dg_it poison f hg _ 0 hi, dg_it poison f hg _ 0 hi]
  have h0 : stop 1 c poison f most = 0 := by
    have := (stop_le hm he).1
    omega
  refine ⟨h0, dg_it poison f hg _, fun i j hi hj hij => absurd (show i = j by omega) hij⟩
/-- From any tables. -/
theorem from_any {N : Nat} {c d : Mx} (D : Dist N c d) (poison : Bool) {f : Tb} (hg : Dg N f) (hf : ∀ i j, i < N → j < N → 0 ≤ (f i j).1) : From N c d poison f 17 := by
  have h1 : ∀ t : Nat, ∀ i j, i < N → j < N → min (d i j) (t : Int) ≤ (it N c poison f t i j).1 := fun t => by
    induction t with
    | zero =>
      intro i j hi hj
      have := hf i j hi hj
      show min (d i j) ((0 : Nat) : Int) ≤ (f i j).1
      omega
    | succ t ih =>
      intro i j hi hj
      have := lb_step D poison (m := (t : Int)) (by omega) ih i j hi hj
      show min (d i j) ((t + 1 : Nat) : Int) ≤ (roundF N c poison (it N c poison f t) i j).1
      omega
  have h2 : ∀ t, 16 ≤ t → Lb N d (it N c poison f t) := fun t ht i j hi hj => by
    have := h1 t i j hi hj
    have := D.bd i j
    omega
  refine ⟨fun t ht => h2 t (by omega), fun t ht => ?_⟩
  obtain ⟨s, rfl⟩ : ∃ s, t = s + 1 := ⟨t - 1, by omega⟩
  exact ti_of D poison (h2 s (by omega)) (dg_it poison f hg _)
/-- From the start. -/
theorem from_start {N : Nat} {c d : Mx} (D : Dist N c d) (poison : Bool) : From N c d poison firstF 0 := by
  have hg : Dg N firstF := fun j _ => if_pos rfl
  have h2 : ∀ t, Lb N d (it N c poison firstF t) := fun t => by
    induction t with
    | zero =>
      intro i j hi hj
      show d i j ≤ (firstF i j).1
      unfold firstF
      by_cases e : i = j
      · subst e
        rw [if_pos rfl, D.diag i hi]
        exact Int.le_refl _
      · rw [if_neg e]
        exact (D.bd i j).2
    | succ t ih => exact lb_keep D poison ih
  refine ⟨fun t _ => h2 t, fun t _ => ?_⟩
  match t with
  | 0 =>
    intro i w j hi hw hj hij hc he hlt hv
    show heard poison i (firstF w j) = d w j
    have hv' : (firstF w j).1 = d w j := hv
    have hne : ¬ (firstF w j).2 = (i : Int) := by
      unfold firstF
      by_cases e : w = j
      · rw [if_pos e]
        intro h
        have h' : (w : Int) = i := h
        omega
      · rw [if_neg e]
        intro h
        have h' : (-1 : Int) = i := h
        omega
    unfold heard
    rw [if_neg ?_]
    · exact hv'
    · cases poison
      · simp
      · intro h
        exact hne (by simpa using h)
  | t + 1 => exact ti_of D poison (h2 t) (dg_it poison firstF hg _)
theorem tabOk_matT {n : Nat} {ls : List Lk} {f : Tb} (hv : valid n ls = true) (g : ∀ i j, i < n → j < n → routeB n i j (f i j) = true) : tabOk n ls (matT n f) = true := by
  unfold tabOk
  have hl : (matT n f).length = n := by simp [matT]
  rw [hv, hl]
  have e1 : ((n : Int) != (n : Int)) = false := by simp
  rw [e1]
  simp only [Bool.not_false, Bool.true_and]
  refine allR_true fun i hi => ?_
  have e2 : (matT n f).getD i (0, []) = (0, (List.range n).map (f i)) := by simp [matT, List.getD_eq_getElem?_getD, hi]
  rw [e2]
  unfold rowOk
  have hl2 : ((List.range n).map (f i)).length = n := by simp
  show (!((((List.range n).map (f i)).length : Int) != (n : Int)) && _) = true
  rw [hl2, e1]
  simp only [Bool.not_false, Bool.true_and]
  refine allR_true fun j hj => ?_
  have e3 : ((List.range n).map (f i)).getD j (0, 0) = f i j := by simp [List.getD_eq_getElem?_getD, hj]
  rw [e3]
  exact g i j hi hj
theorem Fin.ok {N : Nat} {c d : Mx} (D : Dist N c d) {i j : Nat} (hij : ¬ i = j) (hi : i < N) {r : Rt} (h : Fin N c d i j r) : routeB N i j r = true := by
  unfold routeB
  rw [if_neg (by omega)]
  rcases h with ⟨h1, rfl⟩ | ⟨w, h1, h2, rfl, h4, h5, h6⟩
  · rfl
  · have h7 := D.bd w j
    have h8 := D.cr i w
    have hne : ¬ d i j = 16 := by omega
    dsimp only
    rw [if_neg hne]
    have hw : ¬ w = i := by
      rintro rfl
      exact h2 (D.cd w)
    have e1 : decide (d i j ≥ 1) = true := decide_eq_true (by omega)
    have e2 : decide (d i j < 16) = true := decide_eq_true h4
    have e3 : nodeB N (w : Int) = true := by
      unfold nodeB
      simp
      omega
    have e4 : ((w : Int) != (i : Int)) = true := bne_iff_ne.2 (by omega)
    rw [e1, e2, e3, e4]
    rfl
theorem Least.ok {N : Nat} {c d : Mx} (D : Dist N c d) {f : Tb} (L : Least N c d f) : ∀ i j, i < N → j < N → routeB N i j (f i j) = true := by
  intro i j hi hj
  by_cases e : i = j
  · subst e
    rw [L.dg i hi]
    unfold routeB
    rw [if_pos rfl]
    simp
  · exact (L.fin i j hi hj e).ok D e hi
theorem Least.good {N : Nat} {c d : Mx} (D : Dist N c d) {f : Tb} (L : Least N c d f) : GoodT N f :=
  ⟨fun i j hi hj => (routeB_facts (L.ok D i j hi hj)).1, fun i hi => L.dg i hi, L.ok D⟩
theorem Least.cost {N : Nat} {c d : Mx} (D : Dist N c d) {f : Tb} (L : Least N c d f) : ∀ i j, i < N → j < N → (f i j).1 = d i j := by
  intro i j hi hj
  by_cases e : i = j
  · subst e
    rw [L.dg i hi, D.diag i hi]
  · exact (L.fin i j hi hj e).cost
/-- The cost of a path's first steps. -/
def pc (c : Mx) (f : Tb) (to st : Nat) : Nat → Int
  | 0 => 0
  | k + 1 => pc c f to st k + c (nd f to st k) (nd f to st (k + 1))
theorem pc_range {c : Mx} (hc : ∀ i j, 0 ≤ c i j ∧ c i j ≤ 15) (f : Tb) (to st : Nat) : ∀ k : Nat, 0 ≤ pc c f to st k ∧ pc c f to st k ≤ 15 * k
  | 0 => ⟨Int.le_refl _, Int.le_refl _⟩
  | k + 1 => by
    have ih := pc_range hc f to st k
    have := hc (nd f to st k) (nd f to st (k + 1))
    show 0 ≤ pc c f to st k + _ ∧ pc c f to st k + _ ≤ 15 * ((k + 1 : Nat) : Int)
    omega
theorem Least.next {N : Nat} {c d : Mx} {f : Tb} (L : Least N c d f) {v j : Nat} (hv : v < N) (hj : j < N) (hvj : ¬ v = j) (hlt : d v j < 16) : ∃ w, w < N ∧ (f v j).2 = (w : Int) ∧ c v w ≠ 0 ∧ c v w + d w j = d v j := by
  rcases L.fin v j hv hj hvj with ⟨h1, _⟩ | ⟨w, h1, h2, h3, h4, h5, h6⟩
  · omega
  · exact ⟨w, h1, by rw [h3], h2, h5⟩
theorem path_inv {N : Nat} {c d : Mx} (D : Dist N c d) {f : Tb} (L : Least N c d f) {i j : Nat} (hi : i < N) (hj : j < N) (hlt : d i j < 16) : ∀ k, (∀ m, m < k → halt c f j i m = false) → nd f j i k < N ∧ d (nd f j i k) j < 16 ∧ pc c f j i k + d (nd f j i k) j = d i j ∧ rk N d j (nd f j i k) + k ≤ rk N d j i
  | 0, _ => ⟨hi, hlt, by show (0 : Int) + d i j = d i j; omega, Nat.le_refl _⟩
  | k + 1, hp => by
    obtain ⟨h1, h2, h3, h4⟩ := path_inv D L hi hj hlt k fun m hm => hp m (by omega)
    obtain ⟨g1, _, _⟩ := halt_no (hp k (by omega))
    obtain ⟨w, w1, w2, w3, w4⟩ := L.next h1 hj g1 h2
    have e : nd f j i (k + 1) = w := by
      show (f (nd f j i k) j).2.toNat = w
      rw [w2, Int.toNat_natCast]
    have k1 := D.cr (nd f j i k) w
    have k2 := D.bd w j
    have k3 := rk_lt (N := N) (d := d) (j := j) (i := nd f j i k) w1 (by omega)
    refine ⟨by rw [e]; exact w1, by rw [e]; omega, ?_, by rw [e]; omega⟩
    show pc c f j i k + c (nd f j i k) (nd f j i (k + 1)) + d (nd f j i (k + 1)) j = d i j
    rw [e]
    omega
theorem path_near {N : Nat} {c d : Mx} (D : Dist N c d) {f : Tb} (L : Least N c d f) {i j : Nat} (hi : i < N) (hj : j < N) (hlt : d i j < 16) : stopP N c f j i < N ∧ nd f j i (stopP N c f j i) = j ∧ pc c f j i (stopP N c f j i) = d i j := by
  unfold stopP
  cases e : (List.range N).find? (halt c f j i) with
  | none =>
    exfalso
    have hp : ∀ m, m < N → halt c f j i m = false := fun m hm => by
      have := List.find?_eq_none.1 e m (List.mem_range.2 hm)
      simpa using this
    obtain ⟨_, _, _, h4⟩ := path_inv D L hi hj hlt N hp
    have := rk_max (N := N) (d := d) (j := j) hi
    omega
  | some k =>
    have hh := List.find?_some e
    have hk : k < N := List.mem_range.1 (List.mem_of_find?_eq_some e)
    have hp : ∀ m, m < k → halt c f j i m = false := by
      rw [List.find?_eq_some_iff_getElem] at e
      obtain ⟨_, q, hq, he, hp⟩ := e
      simp only [List.getElem_range] at he
      subst he
      intro m hm
      have := hp m hm
      rw [List.getElem_range] at this
      simpa using this
    obtain ⟨h1, h2, h3, h4⟩ := path_inv D L hi hj hlt k hp
    have hend : nd f j i k = j := by
      refine Decidable.not_not.1 fun hne => ?_
      obtain ⟨w, w1, w2, w3, w4⟩ := L.next h1 hj hne h2
      have e2 : nd f j i (k + 1) = w := by
        show (f (nd f j i k) j).2.toNat = w
        rw [w2, Int.toNat_natCast]
      unfold halt at hh
      rw [e2, w2] at hh
      simp at hh
      rcases hh with h | h
      · exact hne h
      · exact w3 h
    refine ⟨hk, hend, ?_⟩
    rw [hend, D.diag j hj] at h3
    show pc c f j i k = d i j
    omega
theorem path_far {N : Nat} {c d : Mx} {f : Tb} (L : Least N c d f) {i j : Nat} (hi : i < N) (hj : j < N) (hij : ¬ i = j) (h : d i j = 16) : stopP N c f j i = 0 := by
  refine stopP_at (by omega) (fun m hm => absurd hm (Nat.not_lt_zero _)) ?_
  rcases L.fin i j hi hj hij with ⟨_, h2⟩ | ⟨w, h1, h2, h3, h4, h5, h6⟩
  · unfold halt
    show ((i == j) || (((f i j).2 == -1) || _)) = true
    rw [h2]
    simp
  · omega
theorem Least.no_goes {N : Nat} {c d : Mx} (D : Dist N c d) {f : Tb} (L : Least N c d f) {i j : Nat} (hi : i < N) (hj : j < N) : goes N c f i j = false := by
  unfold goes
  have hb := D.bd i j
  by_cases hlt : d i j < 16
  · rw [(path_near D L hi hj hlt).2.1]
    simp
  · have hij : ¬ i = j := fun e => by
      subst e
      rw [D.diag i hi] at hlt
      omega
    rw [path_far L hi hj hij (by omega)]
    simp
    omega
theorem cntAll_zero {N : Nat} {c d : Mx} (D : Dist N c d) {f : Tb} (L : Least N c d f) : cntAll N c f N = 0 := by
  have h1 : ∀ i, i < N → ∀ j, j ≤ N → cntRow N c f i j = 0 := fun i hi j => by
    induction j with
    | zero => exact fun _ => rfl
    | succ j ih =>
      intro hj
      rw [cntRow_f (L.no_goes D hi (by omega))]
      exact ih (by omega)
  have h2 : ∀ i, i ≤ N → cntAll N c f i = 0 := fun i => by
    induction i with
    | zero => exact fun _ => rfl
    | succ i ih =>
      intro hi
      rw [cntAll_succ, ih (by omega), h1 i (by omega) N (Nat.le_refl _)]
  exact h2 N (Nat.le_refl _)
end Go.Proofs.Ytfjkanjmggbofaa.D
