/- The least costs: what the program's and the document's Best come to, in plain terms. -/
import Derived.Test.YtfjkanjmggbofaaV12t
namespace Go.Proofs.Ytfjkanjmggbofaa.D

/-- A walk to j from a node and its cost; its inner nodes are below k. -/
inductive Wk (c : Mx) (k j : Nat) : Nat → Int → Prop
  | edge {i : Nat} : c i j ≠ 0 → Wk c k j i (c i j)
  | step {i w : Nat} {x : Int} : c i w ≠ 0 → w < k → Wk c k j w x → Wk c k j i (c i w + x)
theorem Wk.trans {c : Mx} {k m j i : Nat} {x y : Int} (hm : m < k) (h : Wk c k m i x) (g : Wk c k j m y) : Wk c k j i (x + y) := by
  induction h with
  | edge h => exact .step h hm g
  | step h1 h2 _ ih =>
    rw [Int.add_assoc]
    exact .step h1 h2 ih
theorem Wk.nonneg {c : Mx} (hc : ∀ i j, 0 ≤ c i j ∧ c i j ≤ 15) {k j i : Nat} {x : Int} (h : Wk c k j i x) : 0 ≤ x := by
  induction h with
  | edge h => exact (hc _ _).1
  | @step i w x h1 h2 _ ih =>
    have := (hc i w).1
    omega
theorem Wk.split {c : Mx} (hc : ∀ i j, 0 ≤ c i j ∧ c i j ≤ 15) {k j i : Nat} {x : Int} (h : Wk c (k + 1) j i x) : (∃ y, y ≤ x ∧ Wk c k j i y) ∨ (∃ y z, y + z ≤ x ∧ Wk c k k i y ∧ Wk c k j k z) := by
  induction h with
  | edge h => exact .inl ⟨_, Int.le_refl _, .edge h⟩
  | @step i w x h1 h2 _ ih =>
    by_cases hw : w = k
    · subst hw
      rcases ih with ⟨y, hy, g⟩ | ⟨y, z, hyz, g1, g2⟩
      · exact .inr ⟨c i w, y, by omega, .edge h1, g⟩
      · have := g1.nonneg hc
        exact .inr ⟨c i w, z, by omega, .edge h1, g2⟩
    · rcases ih with ⟨y, hy, g⟩ | ⟨y, z, hyz, g1, g2⟩
      · exact .inl ⟨c i w + y, by omega, .step h1 (by omega) g⟩
      · exact .inr ⟨c i w + y, z, by omega, .step h1 (by omega) g1, g2⟩
theorem relax_le (d : Mx) (k i j a b : Nat) : relax d k i j a b ≤ d a b := by
  unfold relax putC
  by_cases e : a = i ∧ b = j
  · obtain ⟨rfl, rfl⟩ := e
    rw [if_pos ⟨rfl, rfl⟩]
    exact Int.min_le_left _ _
  · rw [if_neg e]
    exact Int.le_refl _
theorem rrow_le (d : Mx) (k i a b : Nat) : ∀ m, rrow d k i m a b ≤ d a b
  | 0 => Int.le_refl _
  | m + 1 => Int.le_trans (relax_le _ _ _ _ _ _) (rrow_le d k i a b m)
theorem rmat_le (n : Nat) (d : Mx) (k a b : Nat) : ∀ m, rmat n d k m a b ≤ d a b
  | 0 => Int.le_refl _
  | m + 1 => Int.le_trans (rrow_le _ _ _ _ _ _) (rmat_le n d k a b m)
theorem rall_le0 (n : Nat) (d : Mx) (a b : Nat) : ∀ k, rall n d k a b ≤ d a b
  | 0 => Int.le_refl _
  | k + 1 => Int.le_trans (rmat_le _ _ _ _ _ _) (rall_le0 n d a b k)
theorem rrow_via (d : Mx) (k i j : Nat) : ∀ m, j < m → rrow d k i m i j ≤ d i k + d k j
  | 0, h => absurd h (Nat.not_lt_zero _)
  | m + 1, h => by
    by_cases e : j = m
    · subst e
      have h1 := rrow_le d k i i k j
      have h2 := rrow_le d k i k j j
      show relax (rrow d k i j) k i j i j ≤ _
      unfold relax putC
      rw [if_pos ⟨rfl, rfl⟩]
      have := Int.min_le_right (rrow d k i j i j) (rrow d k i j i k + rrow d k i j k j)
      omega
    · exact Int.le_trans (relax_le _ _ _ _ _ _) (rrow_via d k i j m (by omega))
theorem rmat_via (n : Nat) (d : Mx) (k i j : Nat) (hj : j < n) : ∀ m, i < m → rmat n d k m i j ≤ d i k + d k j
  | 0, h => absurd h (Nat.not_lt_zero _)
  | m + 1, h => by
    by_cases e : i = m
    · subst e
      have h1 := rmat_le n d k i k i
      have h2 := rmat_le n d k k j i
      have h3 := rrow_via (rmat n d k i) k i j n hj
      show rrow (rmat n d k i) k i n i j ≤ _
      omega
    · exact Int.le_trans (rrow_le _ _ _ _ _ _) (rmat_via n d k i j hj m (by omega))
/-- No cost is above a walk's. -/
theorem rall_le {N : Nat} {c : Mx} (hc : ∀ i j, 0 ≤ c i j ∧ c i j ≤ 15) : ∀ k, k ≤ N → ∀ (i j : Nat) (x : Int), i < N → j < N → Wk c k j i x → rall N (d0 c) k i j ≤ x
  | 0, _, i, j, x, _, _, h => by
    cases h with
    | edge h =>
      show d0 c i j ≤ c i j
      unfold d0
      rw [if_neg fun h1 => h h1.1]
      exact Int.le_refl _
    | step _ h2 _ => exact absurd h2 (Nat.not_lt_zero _)
  | k + 1, hk, i, j, x, hi, hj, h => by
    rcases h.split hc with ⟨y, hy, g⟩ | ⟨y, z, hyz, g1, g2⟩
    · have h1 := rall_le hc k (by omega) i j y hi hj g
      have h2 := rmat_le N (rall N (d0 c) k) k i j N
      show rmat N (rall N (d0 c) k) k N i j ≤ x
      omega
    · have h1 := rall_le hc k (by omega) i k y hi (by omega) g1
      have h2 := rall_le hc k (by omega) k j z (by omega) hj g2
      have h3 := rmat_via N (rall N (d0 c) k) k i j hj N hi
      show rmat N (rall N (d0 c) k) k N i j ≤ x
      omega
/-- Each cost is a walk's. -/
def snd (N : Nat) (c d : Mx) : Prop := ∀ i j, i < N → j < N → (i = j ∧ d i j = 0) ∨ 16 ≤ d i j ∨ Wk c N j i (d i j)
theorem snd_relax {N : Nat} {c d : Mx} (h : snd N c d) (hb : bnd d) {k i j : Nat} (hk : k < N) (hi : i < N) (hj : j < N) : snd N c (relax d k i j) := by
  intro a b ha hb2
  unfold relax putC
  by_cases e : a = i ∧ b = j
  · obtain ⟨rfl, rfl⟩ := e
    rw [if_pos ⟨rfl, rfl⟩]
    by_cases hm : d a b ≤ d a k + d k b
    · rw [Int.min_eq_left hm]
      exact h a b ha hb2
    · rw [Int.min_eq_right (by omega)]
      have p1 := hb a k
      have p2 := hb k b
      rcases h a k ha hk with ⟨e1, e2⟩ | h1 | h1
      · subst e1
        omega
      · exact .inr (.inl (by omega))
      · rcases h k b hk hb2 with ⟨e1, e2⟩ | h2 | h2
        · subst e1
          omega
        · exact .inr (.inl (by omega))
        · exact .inr (.inr (h1.trans hk h2))
  · rw [if_neg e]
    exact h a b ha hb2
theorem snd_rrow {N : Nat} {c d : Mx} (h : snd N c d) (hb : bnd d) {k i : Nat} (hk : k < N) (hi : i < N) : ∀ m, m ≤ N → snd N c (rrow d k i m)
  | 0, _ => h
  | m + 1, hm => snd_relax (snd_rrow h hb hk hi m (by omega)) (bnd_rrow hb k i m) hk hi (by omega)
theorem snd_rmat {N : Nat} {c d : Mx} (h : snd N c d) (hb : bnd d) {k : Nat} (hk : k < N) : ∀ m, m ≤ N → snd N c (rmat N d k m)
  | 0, _ => h
  | m + 1, hm => snd_rrow (snd_rmat h hb hk m (by omega)) (bnd_rmat hb k m) hk (by omega) N (Nat.le_refl _)
theorem snd_rall {N : Nat} {c d : Mx} (h : snd N c d) (hb : bnd d) : ∀ k, k ≤ N → snd N c (rall N d k)
  | 0, _ => h
  | k + 1, hk => snd_rmat (snd_rall h hb k (by omega)) (bnd_rall hb k) (by omega) N (Nat.le_refl _)
theorem snd_d0 {N : Nat} {c : Mx} (hcd : ∀ i, c i i = 0) : snd N c (d0 c) := fun i j _ _ => by
  by_cases e : i = j
  · subst e
    refine .inl ⟨rfl, ?_⟩
    unfold d0
    rw [if_neg (by simp)]
    exact hcd i
  · unfold d0
    by_cases h : c i j = 0
    · rw [if_pos ⟨h, e⟩]
      exact .inr (.inl (Int.le_refl _))
    · rw [if_neg fun h1 => h h1.1]
      exact .inr (.inr (.edge h))
/-- The least costs. -/
structure Dist (N : Nat) (c d : Mx) : Prop where
  cr : ∀ i j, 0 ≤ c i j ∧ c i j ≤ 15
  cd : ∀ i, c i i = 0
  bd : ∀ i j, 0 ≤ d i j ∧ d i j ≤ 16
  diag : ∀ i, i < N → d i i = 0
  tri : ∀ i w j, i < N → w < N → j < N → c i w ≠ 0 → d i j ≤ c i w + d w j
  next : ∀ i j, i < N → j < N → ¬ i = j → d i j < 16 → ∃ w, w < N ∧ c i w ≠ 0 ∧ d i j = c i w + d w j
theorem dist_of {N : Nat} {c : Mx} (hc : ∀ i j, 0 ≤ c i j ∧ c i j ≤ 15) (hcd : ∀ i, c i i = 0) : Dist N c (rall N (d0 c) N) := by
  have hb := bnd_rall (n := N) (bnd_d0 hc) N
  have hs := snd_rall (snd_d0 (N := N) hcd) (bnd_d0 hc) N (Nat.le_refl _)
  have hl := rall_le (N := N) hc N (Nat.le_refl _)
  have hd : ∀ i, rall N (d0 c) N i i = 0 := fun i => by
    have h1 := rall_le0 N (d0 c) i i N
    have h2 : d0 c i i = 0 := by
      unfold d0
      rw [if_neg (by simp)]
      exact hcd i
    have := (hb i i).1
    omega
  have tri : ∀ i w j, i < N → w < N → j < N → c i w ≠ 0 → rall N (d0 c) N i j ≤ c i w + rall N (d0 c) N w j := fun i w j hi hw hj h => by
    rcases hs w j hw hj with ⟨e1, e2⟩ | h1 | h1
    · subst e1
      have := hl i w _ hi hj (.edge h)
      omega
    · have := hb i j
      have := hc i w
      omega
    · exact hl i j _ hi hj (.step h hw h1)
  refine ⟨hc, hcd, hb, fun i _ => hd i, tri, fun i j hi hj hij hlt => ?_⟩
  rcases hs i j hi hj with ⟨e1, e2⟩ | h1 | h1
  · exact absurd e1 hij
  · omega
  · generalize hx : rall N (d0 c) N i j = x at h1
    cases h1 with
    | edge h =>
      refine ⟨j, hj, h, ?_⟩
      rw [hd j]
      omega
    | @step _ w x h2 h3 h4 =>
      refine ⟨w, h3, h2, ?_⟩
      have g1 := tri i w j hi h3 hj h2
      have g2 := hl w j _ h3 hj h4
      omega
/-! ## how many are nearer -/
def rk (N : Nat) (d : Mx) (j i : Nat) : Nat := (List.range N).countP fun v => decide (d v j < d i j)
theorem countP_lt {α : Type} {p q : α → Bool} (h : ∀ x, p x = true → q x = true) {a : α} (hq : q a = true) (hp : p a = false) : ∀ {l : List α}, a ∈ l → l.countP p < l.countP q
  | x :: l, hm => by
    have hle : l.countP p ≤ l.countP q := List.countP_mono_left fun y _ hy => h y hy
    rw [List.countP_cons, List.countP_cons]
    rcases List.mem_cons.1 hm with rfl | hm
    · rw [hq, hp]
      simp
      omega
    · have ih := countP_lt h hq hp hm
      by_cases hx : p x = true
      · rw [hx, h x hx]
        simp
        omega
      · have hx' : p x = false := by simpa using hx
        rw [hx']
        by_cases hy : q x = true
        · rw [hy]
          simp
          omega
        · have hy' : q x = false := by simpa using hy
          rw [hy']
          simpa using ih
theorem rk_lt {N : Nat} {d : Mx} {j i w : Nat} (hw : w < N) (h : d w j < d i j) : rk N d j w < rk N d j i :=
  countP_lt (a := w) (fun x hx => by
    simp at hx ⊢
    omega) (by simpa using h) (by simp) (List.mem_range.2 hw)
theorem rk_max {N : Nat} {d : Mx} {j i : Nat} (hi : i < N) : rk N d j i < N := by
  have : rk N d j i < (List.range N).countP (fun _ => true) := countP_lt (a := i) (fun _ _ => rfl) rfl (by simp) (List.mem_range.2 hi)
  simpa using this
end Go.Proofs.Ytfjkanjmggbofaa.D
