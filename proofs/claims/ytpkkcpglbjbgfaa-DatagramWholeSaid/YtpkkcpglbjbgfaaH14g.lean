/- Pieces that make up a datagram, plainly. -/
import Derived.Test.YtpkkcpglbjbgfaaH14b
import Derived.Test.YtpkkcpglbjbgfaaH14f
import Derived.Test.YtpkkcpglbjbgfaaH14p
namespace Go.Proofs.Ytpkkcpglbjbgfaa.D
open Go.Fw Go.RowKit

/-- A piece of a datagram, from a place on. -/
structure Pc (G : Gr) (a : Nat) (p : Gr) : Prop where
  at' : p.at' = a
  data : p.data = G.data.extract a (a + p.data.size)
  fits : a + p.data.size ≤ G.data.size
  fr : p.fr = G.fr
  to : p.to = G.to
  num : p.number = G.number
  life : p.life = G.life
  total : p.total = G.total
  report : p.report = G.report
  may : p.may = G.may
  wants : p.wants = G.wants
  okr : OkGr p
  okg : okG p = true
  pos : 0 < p.data.size ∨ G.data.size = 0
def Tile (G : Gr) : Nat → List Gr → Nat → Prop
  | a, [], b => a = b
  | a, p :: r, b => Pc G a p ∧ Tile G (a + p.data.size) r b
theorem Tile.app {G : Gr} : ∀ {a b c : Nat} {l m : List Gr}, Tile G a l b → Tile G b m c → Tile G a (l ++ m) c
  | _, _, _, [], _, h, h2 => by
    obtain rfl : _ = _ := h
    exact h2
  | _, _, _, _ :: _, _, ⟨h1, h⟩, h2 => ⟨h1, h.app h2⟩
theorem Tile.one {G : Gr} {a : Nat} {p : Gr} (h : Pc G a p) : Tile G a [p] (a + p.data.size) := ⟨h, rfl⟩
theorem okG_own (g : Gr) : okG (ownG g) = okG g := rfl
theorem Pc.own {G : Gr} {a : Nat} {p : Gr} (h : Pc G a p) : Pc G a (ownG p) := ⟨h.at', h.data, h.fits, h.fr, h.to, h.num, h.life, h.total, h.report, h.may, h.wants, ok_own h.okr, h.okg, h.pos⟩
theorem many_lt {p : Gr} {s k : Nat} (hs : 0 < s) (h : k < many p s) : k * s < p.data.size := by
  unfold many at h
  have h1 := Nat.div_mul_le_self (p.data.size + s - 1) s
  have h2 := Nat.mul_le_mul_right s (show k + 1 ≤ (p.data.size + s - 1) / s by omega)
  rw [Nat.succ_mul] at h2
  omega
theorem many_ge {p : Gr} {s : Nat} (hs : 0 < s) : p.data.size ≤ many p s * s := by
  unfold many
  have h1 := Nat.div_add_mod (p.data.size + s - 1) s
  have h2 := Nat.mod_lt (p.data.size + s - 1) hs
  rw [Nat.mul_comm] at h1
  omega
theorem pcs_tile {G p : Gr} {a s : Nat} (h : Pc G a p) (hs : 0 < s) (hs2 : s ≤ 4000) (hp : 0 < p.data.size) : ∀ k, k ≤ many p s → Tile G a (pcs p s k) (a + min (k * s) p.data.size)
  | 0, _ => by
    show a = _
    simp
  | k + 1, hk => by
    have ih := pcs_tile h hs hs2 hp k (by omega)
    have hlt := many_lt (p := p) hs (show k < many p s by omega)
    have hz := piece_size h.okg hs2 hlt
    have hd := piece_data h.okg hs2 hlt
    have hf := h.fits
    rw [pcs_succ]
    rw [Nat.min_eq_left (by omega)] at ih
    have e : a + min ((k + 1) * s) p.data.size = (a + k * s) + (piece p s k).data.size := by
      rw [hz, Nat.succ_mul]
      omega
    rw [e]
    refine ih.app (Tile.one ⟨?_, ?_, ?_, h.fr, h.to, h.num, h.life, h.total, h.report, h.may, h.wants, ok_piece h.okr s k, piece_ok h.okg hs2 hlt, .inl (by omega)⟩)
    · rw [piece_at h.okg hlt, h.at']
      omega
    · rw [hz, hd]
      refine (congrArg (fun b : ByteArray => b.extract (k * s) (min (k * s + s) p.data.size)) h.data).trans ?_
      show (G.data.extract a (a + p.data.size)).extract _ _ = _
      rw [ByteArray.extract_extract]
      congr 1
      omega
    · omega
theorem cut_tile {G p : Gr} {a : Nat} {s : Int} {l : List Gr} (h : Pc G a p) (hc : cutAll p s = some l) : Tile G a l (a + p.data.size) ∧ (p.data.size = 0 → l.length = 1) := by
  unfold cutAll at hc
  split at hc
  · rename_i h1
    have hi := h1.2
    simp only [inR, Bool.cond_false_right, Bool.and_eq_true, decide_eq_true_eq] at hi
    unfold cutL at hc
    split at hc
    · obtain rfl := Option.some.inj hc
      exact ⟨Tile.one h.own, fun _ => rfl⟩
    · rename_i hlen
      split at hc
      · rename_i hm
        obtain rfl := Option.some.inj hc
        have hs := Nat.pos_of_ne_zero hm.2
        have hs2 := (s8_eq s hi.1 hi.2).2
        have hp : 0 < p.data.size := by omega
        have ht := pcs_tile h hs hs2 hp _ (Nat.le_refl _)
        rw [Nat.min_eq_right (many_ge hs)] at ht
        exact ⟨ht, fun h0 => by omega⟩
      · cases hc
  · cases hc
theorem acc_tile {G : Gr} {less : Int} : ∀ {a b : Nat} {l : List Gr}, Tile G a l b → (∀ p ∈ l, (cutAll p less).isSome = true) → Tile G a (acc l less) b
  | _, _, [], h, _ => h
  | a, b, p :: r, ⟨h1, h⟩, hs => by
    have ih := acc_tile h fun q hq => hs q (List.mem_cons_of_mem _ hq)
    obtain ⟨q, hq⟩ := Option.isSome_iff_exists.1 (hs p (by simp))
    have h2 := (cut_tile h1 hq).1
    unfold acc at ih ⊢
    rw [List.map_cons, List.flatten_cons, hq]
    exact h2.app ih
/-- The pieces that a datagram comes to. -/
structure Pcs (G : Gr) (P : List Gr) : Prop where
  okr : OkGr G
  okg : okG G = true
  at' : G.at' = 0
  more : G.more = false
  total : G.total = G.data.size
  size : G.data.size ≤ 4000
  tile : Tile G 0 P G.data.size
  one : G.data.size = 0 → P.length = 1
theorem pcs_of {G : Gr} (ok : OkGr G) {size less : Int} {P : List Gr} (h : pcsOf G size less = some P) : Pcs G P := by
  unfold pcsOf at h
  cases hc : cutAll G size with
  | none =>
    rw [hc] at h
    cases h
  | some l =>
    rw [hc] at h
    have h' : (if (G.at' == 0) = true ∧ G.more = false then cut2 l less else none) = some P := h
    split at h'
    · rename_i h2
      have hg : okG G = true := by
        unfold cutAll at hc
        split at hc
        · rename_i h1
          exact h1.1
        · cases hc
      have ha : G.at' = 0 := by simpa using h2.1
      obtain ⟨b1, b2, b3, b4, b5⟩ := okG_parts hg
      have ht : G.total = G.data.size := by
        have hg2 := hg
        simp only [okG, Bool.and_eq_true] at hg2
        have h3 := hg2.2
        rw [h2.2] at h3
        have h4 : decide (IntKind.i64.wrap (G.at' + (G.data.size : Int)) < G.total) = false := by
          have := beq_iff_eq.1 h3
          exact this.symm
        rw [decide_eq_false_iff_not, wr _ (by omega) (by omega)] at h4
        omega
      have hG : Pc G 0 G := ⟨by rw [ha]; rfl, by rw [Nat.zero_add, ByteArray.extract_zero_size], by omega, rfl, rfl, rfl, rfl, rfl, rfl, rfl, rfl, ok, hg, by omega⟩
      obtain ⟨t1, o1⟩ := cut_tile hG hc
      rw [Nat.zero_add] at t1
      unfold cut2 at h'
      split at h'
      · rename_i h5
        obtain rfl := Option.some.inj h'
        refine ⟨ok, hg, ha, h2.2, ht, okG_size hg, acc_tile t1 (fun p hp => List.all_eq_true.1 h5 p hp), fun h0 => ?_⟩
        have hl := o1 h0
        match l, hl, t1, h5 with
        | [p], _, t1, h5 =>
          obtain ⟨q, hq⟩ := Option.isSome_iff_exists.1 (List.all_eq_true.1 h5 p (by simp))
          have h6 := (cut_tile t1.1 hq).2 (by have := t1.1.fits; omega)
          unfold acc
          rw [List.map_cons, List.map_nil, hq]
          simpa using h6
      · cases h'
    · cases h'
/-! ## where the pieces lie -/
def off (P : List Gr) (k : Nat) : Nat := ((P.take k).map fun p => p.data.size).sum
theorem off_zero (P : List Gr) : off P 0 = 0 := by simp [off]
theorem off_succ {P : List Gr} {k : Nat} {p : Gr} (h : P[k]? = some p) : off P (k + 1) = off P k + p.data.size := by
  unfold off
  rw [List.take_add_one, h]
  simp
theorem off_mono (P : List Gr) : ∀ {j k : Nat}, j ≤ k → off P j ≤ off P k := fun {j k} h => by
  induction k with
  | zero => rw [show j = 0 by omega]; exact Nat.le_refl _
  | succ k ih =>
    by_cases e : j = k + 1
    · rw [e]; exact Nat.le_refl _
    · have := ih (by omega)
      cases hp : P[k]? with
      | none =>
        have : off P (k + 1) = off P k := by
          unfold off
          rw [List.take_add_one, hp]
          simp
        omega
      | some p =>
        have := off_succ hp
        omega
theorem Tile.get {G : Gr} : ∀ {a b : Nat} {P : List Gr}, Tile G a P b → (∀ k p, P[k]? = some p → Pc G (a + off P k) p) ∧ b = a + off P P.length
  | a, b, [], h => ⟨fun k p hp => by simp at hp, by obtain rfl : a = b := h; simp [off]⟩
  | a, b, q :: r, ⟨h1, h⟩ => by
    obtain ⟨i1, i2⟩ := h.get
    have e : ∀ k, off (q :: r) (k + 1) = q.data.size + off r k := fun k => by simp [off]
    refine ⟨fun k p hp => ?_, ?_⟩
    · cases k with
      | zero =>
        obtain rfl := Option.some.inj hp
        rw [off_zero]
        exact h1
      | succ k =>
        have := i1 k p hp
        rw [e, ← Nat.add_assoc]
        exact this
    · rw [List.length_cons, e, i2]
      omega
theorem Pcs.piece {G : Gr} {P : List Gr} (h : Pcs G P) {k : Nat} {p : Gr} (hp : P[k]? = some p) : Pc G (off P k) p := by
  have := h.tile.get.1 k p hp
  rwa [Nat.zero_add] at this
theorem Pcs.all {G : Gr} {P : List Gr} (h : Pcs G P) : off P P.length = G.data.size := by
  have := h.tile.get.2
  omega
theorem Pcs.len {G : Gr} {P : List Gr} (h : Pcs G P) : 0 < P.length := by
  rcases Nat.eq_zero_or_pos P.length with h0 | h0
  · exfalso
    have h1 := h.all
    rw [h0, off_zero] at h1
    have := h.one h1.symm
    omega
  · exact h0
theorem Pcs.next {G : Gr} {P : List Gr} (h : Pcs G P) (h0 : 0 < G.data.size) {k : Nat} (hk : k < P.length) : off P k < off P (k + 1) := by
  have hp : P[k]? = some P[k] := List.getElem?_eq_getElem hk
  have h1 := off_succ hp
  have h2 := (h.piece hp).pos
  omega
/-- What is there when these pieces came. -/
def thO (P : List Gr) (c : Nat → Bool) (i : Nat) : Bool := (List.range P.length).any fun k => c k && (decide (off P k ≤ i) && decide (i < off P (k + 1)))
theorem thO_iff {P : List Gr} {c : Nat → Bool} {i : Nat} : thO P c i = true ↔ ∃ k, k < P.length ∧ c k = true ∧ off P k ≤ i ∧ i < off P (k + 1) := by
  unfold thO
  rw [List.any_eq_true]
  constructor
  · rintro ⟨k, hk, h⟩
    simp only [Bool.and_eq_true, decide_eq_true_eq] at h
    exact ⟨k, List.mem_range.1 hk, h.1, h.2.1, h.2.2⟩
  · rintro ⟨k, hk, h1, h2, h3⟩
    refine ⟨k, List.mem_range.2 hk, ?_⟩
    simp only [Bool.and_eq_true, decide_eq_true_eq]
    exact ⟨h1, h2, h3⟩
def up (c : Nat → Bool) (k : Nat) (i : Nat) : Bool := if i = k then true else c i
theorem up_self {c : Nat → Bool} {k : Nat} (h : c k = true) : up c k = c := by
  funext i
  unfold up
  split
  · rename_i e
    rw [e, h]
  · rfl
theorem thO_none (P : List Gr) : thO P (fun _ => false) = fun _ => false := by
  funext i
  cases h : thO P (fun _ => false) i with
  | false => rfl
  | true =>
    obtain ⟨_, _, h2, _⟩ := thO_iff.1 h
    cases h2
theorem thO_up {P : List Gr} {c : Nat → Bool} {k : Nat} {p : Gr} (hp : P[k]? = some p) : thN (thO P c) (off P k) p.data.size = thO P (up c k) := by
  have hk : k < P.length := (List.getElem?_eq_some_iff.1 hp).1
  have hs := off_succ hp
  funext i
  rw [Bool.eq_iff_iff, thO_iff]
  unfold thN
  rw [Bool.or_eq_true, thO_iff]
  constructor
  · rintro (⟨j, h1, h2, h3, h4⟩ | h)
    · refine ⟨j, h1, ?_, h3, h4⟩
      unfold up
      split
      · rfl
      · exact h2
    · simp only [Bool.and_eq_true, decide_eq_true_eq] at h
      exact ⟨k, hk, if_pos rfl, h.1, by omega⟩
  · rintro ⟨j, h1, h2, h3, h4⟩
    by_cases e : j = k
    · right
      subst e
      simp only [Bool.and_eq_true, decide_eq_true_eq]
      omega
    · left
      unfold up at h2
      rw [if_neg e] at h2
      exact ⟨j, h1, h2, h3, h4⟩
theorem cover (P : List Gr) (i : Nat) : ∀ n, i < off P n → ∃ k, k < n ∧ off P k ≤ i ∧ i < off P (k + 1)
  | 0, h => by rw [off_zero] at h; omega
  | n + 1, h => by
    by_cases h2 : i < off P n
    · obtain ⟨k, h3, h4⟩ := cover P i n h2
      exact ⟨k, by omega, h4⟩
    · exact ⟨n, by omega, by omega, h⟩
theorem Pcs.there {G : Gr} {P : List Gr} (h : Pcs G P) {c : Nat → Bool} (hc : ∀ k, k < P.length → c k = true) : ∀ i, i < G.data.size → thO P c i = true := fun i hi => by
  rw [← h.all] at hi
  obtain ⟨k, h1, h2, h3⟩ := cover P i _ hi
  exact thO_iff.2 ⟨k, h1, hc k h1, h2, h3⟩
theorem least_false {f : Nat → Bool} : ∀ m, f m = false → ∃ k, k ≤ m ∧ f k = false ∧ ∀ i, i < k → f i = true := fun m => by
  induction m using Nat.strongRecOn with
  | ind m ih =>
    intro h
    by_cases h2 : ∃ j, j < m ∧ f j = false
    · obtain ⟨j, h3, h4⟩ := h2
      obtain ⟨k, h5, h6⟩ := ih j h3 h4
      exact ⟨k, by omega, h6⟩
    · refine ⟨m, Nat.le_refl _, h, fun i hi => ?_⟩
      cases h3 : f i with
      | true => rfl
      | false => exact absurd ⟨i, hi, h3⟩ h2
theorem Pcs.missing {G : Gr} {P : List Gr} (h : Pcs G P) (h0 : 0 < G.data.size) {c : Nat → Bool} {j : Nat} (hj : j < P.length) (hc : c j = false) : ∃ m, m < G.data.size ∧ thO P c m = false ∧ ∀ i, i < m → thO P c i = true := by
  have h1 : thO P c (off P j) = false := by
    cases h2 : thO P c (off P j) with
    | false => rfl
    | true =>
      exfalso
      obtain ⟨k, h3, h4, h5, h6⟩ := thO_iff.1 h2
      rcases Nat.lt_trichotomy k j with h7 | rfl | h7
      · have := off_mono P (show k + 1 ≤ j by omega)
        omega
      · rw [hc] at h4
        cases h4
      · have h8 := off_mono P (show j + 1 ≤ k by omega)
        have h9 := h.next h0 hj
        omega
  obtain ⟨m, h2, h3, h4⟩ := least_false _ h1
  have h5 := h.next h0 hj
  have h6 := off_mono P (show j + 1 ≤ P.length by omega)
  have h7 := h.all
  exact ⟨m, by omega, h3, h4⟩
end Go.Proofs.Ytpkkcpglbjbgfaa.D
