/- A store of one whole, piece by piece. -/
import Derived.Test.YtpkkcpglbjbgfaaH14e
import Derived.Test.YtpkkcpglbjbgfaaH14g
namespace Go.Proofs.Ytpkkcpglbjbgfaa.D
open Go.Fw Go.RowKit

def blk0 : List Blk := [⟨66, true, [.int .i64 1, .int .i64 60, .slice none 0 0]⟩]
def blkN (D : ByteArray) (th : Nat → Bool) (k : Gr) : List Blk := [⟨66, true, [.int .i64 1, .int .i64 60, .slice (some ⟨1, 0, none⟩) 1 1]⟩, ⟨119, true, [.pointer (some ⟨2, 0, none⟩)]⟩, ⟨122, true, [.slice none 0 0, .slice none 0 0, .int .i64 0, .int .i64 0, .int .i64 0, .int .i64 0, .int .i64 0, .bool false, .bool false, .bool false, .string ByteArray.empty, .bool false, sl k.fx k.fr, sl k.tx k.to, .int .i64 k.number, .int .i64 k.life, .int .i64 k.at', .int .i64 k.total, .int .i64 k.report, .bool k.more, .bool k.may, .bool k.wants, .string k.data, .slice (some ⟨3, 0, none⟩) D.size D.size, .slice (some ⟨4, 0, none⟩) D.size D.size, .int .i64 60]⟩, ⟨5, true, dC D D.size th⟩, ⟨4, true, bC D.size th⟩]
def blkB (D : ByteArray) (th : Nat → Bool) (h k : Gr) : List Blk := [⟨66, true, [.int .i64 1, .int .i64 60, .slice (some ⟨1, 0, none⟩) 1 1]⟩, ⟨119, true, [.pointer (some ⟨2, 0, none⟩)]⟩, ⟨122, true, [sl h.fx h.fr, sl h.tx h.to, .int .i64 h.number, .int .i64 h.life, .int .i64 h.at', .int .i64 h.total, .int .i64 h.report, .bool h.more, .bool h.may, .bool h.wants, .string h.data, .bool true, sl k.fx k.fr, sl k.tx k.to, .int .i64 k.number, .int .i64 k.life, .int .i64 k.at', .int .i64 k.total, .int .i64 k.report, .bool k.more, .bool k.may, .bool k.wants, .string k.data, .slice (some ⟨3, 0, none⟩) D.size D.size, .slice (some ⟨4, 0, none⟩) D.size D.size, .int .i64 60]⟩, ⟨5, true, dC D D.size th⟩, ⟨4, true, bC D.size th⟩]
def blkD (D : ByteArray) (th : Nat → Bool) (h k : Gr) : List Blk := [⟨66, true, [.int .i64 1, .int .i64 60, .slice (some ⟨1, 0, none⟩) 0 1]⟩, ⟨119, true, [.pointer none]⟩, ⟨122, true, [sl h.fx h.fr, sl h.tx h.to, .int .i64 h.number, .int .i64 h.life, .int .i64 h.at', .int .i64 h.total, .int .i64 h.report, .bool h.more, .bool h.may, .bool h.wants, .string h.data, .bool true, sl k.fx k.fr, sl k.tx k.to, .int .i64 k.number, .int .i64 k.life, .int .i64 k.at', .int .i64 k.total, .int .i64 k.report, .bool k.more, .bool k.may, .bool k.wants, .string k.data, .slice (some ⟨3, 0, none⟩) D.size D.size, .slice (some ⟨4, 0, none⟩) D.size D.size, .int .i64 60]⟩, ⟨5, true, dC D D.size th⟩, ⟨4, true, bC D.size th⟩]
def zgV : Value := .agg #[.slice none 0 0, .slice none 0 0, .int .i64 0, .int .i64 0, .int .i64 0, .int .i64 0, .int .i64 0, .bool false, .bool false, .bool false, .string ByteArray.empty]
def incV : Value := .tuple #[zgV, .bool false, .int .i64 0]
def whole (D : ByteArray) (h : Gr) : Gr := { h with more := false, data := D }
def doneV (D : ByteArray) (h : Gr) : Value := .tuple #[gv (whole D h), .bool true, .int .i64 0]
structure KeyOk (G k : Gr) : Prop where
  fr : k.fr = G.fr
  to : k.to = G.to
  num : k.number = G.number
  total : k.total = G.total
/-- What a store holds when some pieces came, not all. -/
def Open (G p0 : Gr) (P : List Gr) (c : Nat → Bool) (A : List Blk) : Prop := ∃ k, KeyOk G k ∧ ((c 0 = false ∧ A = blkN G.data (thO P c) k) ∨ (c 0 = true ∧ A = blkB G.data (thO P c) (ownG p0) k))
def Done (G p0 : Gr) (P : List Gr) (A : List Blk) : Prop := ∃ th k, A = blkD G.data th (ownG p0) k
theorem Pc.key {G : Gr} {a : Nat} {p : Gr} (h : Pc G a p) : KeyOk G (ownG p) := ⟨h.fr, h.to, h.num, h.total⟩
theorem at_first {G : Gr} {P : List Gr} (hP : Pcs G P) {p : Gr} (hp : P[0]? = some p) : (p.at' == 0) = true := by
  have := (hP.piece hp).at'
  rw [off_zero] at this
  rw [this]
  rfl
theorem at_later {G : Gr} {P : List Gr} (hP : Pcs G P) {k : Nat} (h0 : k ≠ 0) {p : Gr} (hp : P[k]? = some p) : (p.at' == 0) = false := by
  have h1 := (hP.piece hp).at'
  have hk : k < P.length := (List.getElem?_eq_some_iff.1 hp).1
  have h2 : 0 < G.data.size := by
    rcases Nat.eq_zero_or_pos G.data.size with h | h
    · have := hP.one h
      omega
    · exact h
  have h3 := hP.next h2 (show 0 < P.length by omega)
  have h4 := off_mono P (show 0 + 1 ≤ k by omega)
  rw [off_zero] at h3
  rw [h1]
  exact beq_eq_false_iff_ne.2 (by omega)
theorem some_left {G : Gr} {P : List Gr} (hP : Pcs G P) {c : Nat → Bool} {k : Nat} (hk : k < P.length) (hc : c k = true) (h : ¬ ∀ j, j < P.length → c j = true) : ∃ m, m < G.data.size ∧ thO P c m = false ∧ ∀ i, i < m → thO P c i = true := by
  have h2 : ∃ j, j < P.length ∧ c j = false := by
    refine Classical.byContradiction fun hn => h fun j hj => ?_
    cases e : c j with
    | true => rfl
    | false => exact absurd ⟨j, hj, e⟩ hn
  obtain ⟨j, hj, hcj⟩ := h2
  have h3 : 0 < G.data.size := by
    rcases Nat.eq_zero_or_pos G.data.size with h | h
    · have := hP.one h
      have e1 : j = 0 := by omega
      have e2 : k = 0 := by omega
      rw [e1] at hcj
      rw [e2, hcj] at hc
      cases hc
    · exact h
  exact hP.missing h3 hj hcj
/-- A piece more. -/
theorem step_inc {G p0 : Gr} {P : List Gr} (hP : Pcs G P) (hp0 : P[0]? = some p0) {c : Nat → Bool} {A : List Blk} (hA : Open G p0 P c A) {k : Nat} {p : Gr} (hp : P[k]? = some p) (hn : ¬ ∀ j, j < P.length → up c k j = true) : ∃ A', Open G p0 P (up c k) A' ∧ Lent E 32 [.pointer (some ⟨0, 0, none⟩), gv p] A incV A' := by
  have hq := hP.piece hp
  have hk : k < P.length := (List.getElem?_eq_some_iff.1 hp).1
  have ht := thO_up (c := c) hp
  obtain ⟨m, m1, m2, m3⟩ := some_left hP hk (show up c k k = true from if_pos rfl) hn
  obtain ⟨key, hkey, hA⟩ := hA
  have hz := hP.size
  rcases hA with ⟨h0, rfl⟩ | ⟨h0, rfl⟩
  · by_cases e : k = 0
    · subst e
      rw [hp0] at hp
      obtain rfl := Option.some.inj hp
      refine ⟨blkB G.data (thO P (up c 0)) (ownG p0) key, ⟨key, hkey, .inr ⟨if_pos rfl, rfl⟩⟩, ?_⟩
      have := take_old_NB_inc G.data.size G.data (thO P c) key p0 hq.okr hq.okg _ hq.at' (at_first hP hp0) hq.data hq.fits rfl hz (hkey.fr.trans hq.fr.symm) (hkey.to.trans hq.to.symm) (hkey.num.trans hq.num.symm) (hkey.total.trans hq.total.symm) m m1 (by rw [ht]; exact m2) (by rw [ht]; exact m3)
      rw [ht] at this
      exact this
    · refine ⟨blkN G.data (thO P (up c k)) key, ⟨key, hkey, .inl ⟨?_, rfl⟩⟩, ?_⟩
      · unfold up
        rw [if_neg (fun h => e h.symm)]
        exact h0
      have := take_old_NN_inc G.data.size G.data (thO P c) key p hq.okr hq.okg _ hq.at' (at_later hP e hp) hq.data hq.fits rfl hz (hkey.fr.trans hq.fr.symm) (hkey.to.trans hq.to.symm) (hkey.num.trans hq.num.symm) (hkey.total.trans hq.total.symm)
      rw [ht] at this
      exact this
  · refine ⟨blkB G.data (thO P (up c k)) (ownG p0) key, ⟨key, hkey, .inr ⟨?_, rfl⟩⟩, ?_⟩
    · unfold up
      split
      · rfl
      · exact h0
    have := take_old_BB_inc G.data.size G.data (thO P c) (ownG p0) key p hq.okr hq.okg _ hq.at' hq.data hq.fits rfl hz (hkey.fr.trans hq.fr.symm) (hkey.to.trans hq.to.symm) (hkey.num.trans hq.num.symm) (hkey.total.trans hq.total.symm) m m1 (by rw [ht]; exact m2) (by rw [ht]; exact m3)
    rw [ht] at this
    exact this
/-- The last piece. -/
theorem step_done {G p0 : Gr} {P : List Gr} (hP : Pcs G P) (hp0 : P[0]? = some p0) {c : Nat → Bool} {A : List Blk} (hA : Open G p0 P c A) {k : Nat} {p : Gr} (hp : P[k]? = some p) (hn : ∀ j, j < P.length → up c k j = true) : ∃ A', Done G p0 P A' ∧ Lent E 32 [.pointer (some ⟨0, 0, none⟩), gv p] A (doneV G.data (ownG p0)) A' := by
  have hq := hP.piece hp
  have ht := thO_up (c := c) hp
  have hall := hP.there hn
  obtain ⟨key, hkey, hA⟩ := hA
  have hz := hP.size
  rcases hA with ⟨h0, rfl⟩ | ⟨h0, rfl⟩
  · by_cases e : k = 0
    · subst e
      rw [hp0] at hp
      obtain rfl := Option.some.inj hp
      refine ⟨blkD G.data (thO P (up c 0)) (ownG p0) key, ⟨_, key, rfl⟩, ?_⟩
      have := take_old_NB_done G.data.size G.data (thO P c) key p0 hq.okr hq.okg _ hq.at' (at_first hP hp0) hq.data hq.fits rfl hz (hkey.fr.trans hq.fr.symm) (hkey.to.trans hq.to.symm) (hkey.num.trans hq.num.symm) (hkey.total.trans hq.total.symm) (by rw [ht]; exact hall)
      rw [ht] at this
      exact this
    · exfalso
      have h1 := hn 0 hP.len
      unfold up at h1
      rw [if_neg (fun h => e h.symm), h0] at h1
      cases h1
  · refine ⟨blkD G.data (thO P (up c k)) (ownG p0) key, ⟨_, key, rfl⟩, ?_⟩
    have := take_old_BB_done G.data.size G.data (thO P c) (ownG p0) key p hq.okr hq.okg _ hq.at' hq.data hq.fits rfl hz (hkey.fr.trans hq.fr.symm) (hkey.to.trans hq.to.symm) (hkey.num.trans hq.num.symm) (hkey.total.trans hq.total.symm) (by rw [ht]; exact hall)
    rw [ht] at this
    exact this
/-- The first piece, of many. -/
theorem first_inc {G p0 : Gr} {P : List Gr} (hP : Pcs G P) (hp0 : P[0]? = some p0) {k : Nat} {p : Gr} (hp : P[k]? = some p) (hn : ¬ ∀ j, j < P.length → up (fun _ => false) k j = true) : ∃ A', Open G p0 P (up (fun _ => false) k) A' ∧ Lent E 32 [.pointer (some ⟨0, 0, none⟩), gv p] blk0 incV A' := by
  have hq := hP.piece hp
  have hk : k < P.length := (List.getElem?_eq_some_iff.1 hp).1
  have ht := thO_up (c := fun _ => false) hp
  rw [thO_none] at ht
  obtain ⟨m, m1, m2, m3⟩ := some_left hP hk (show up (fun _ => false) k k = true from if_pos rfl) hn
  have hz := hP.size
  have hpt : p.total = G.data.size := hq.total.trans hP.total
  by_cases e : k = 0
  · subst e
    rw [hp0] at hp
    obtain rfl := Option.some.inj hp
    refine ⟨blkB G.data (thO P (up (fun _ => false) 0)) (ownG p0) (ownG p0), ⟨_, hq.key, .inr ⟨if_pos rfl, rfl⟩⟩, ?_⟩
    have := take_new_NB_inc G.data.size G.data p0 hq.okr hq.okg _ hq.at' (at_first hP hp0) hq.data hq.fits rfl hz hpt m m1 (by rw [ht]; exact m2) (by rw [ht]; exact m3)
    rw [ht] at this
    exact this
  · refine ⟨blkN G.data (thO P (up (fun _ => false) k)) (ownG p), ⟨_, hq.key, .inl ⟨if_neg (fun h => e h.symm), rfl⟩⟩, ?_⟩
    have := take_new_NN_inc G.data.size G.data p hq.okr hq.okg _ hq.at' (at_later hP e hp) hq.data hq.fits rfl hz hpt
    rw [ht] at this
    exact this
/-- The only piece. -/
theorem first_done {G p0 : Gr} {P : List Gr} (hP : Pcs G P) (hp0 : P[0]? = some p0) {k : Nat} {p : Gr} (hp : P[k]? = some p) (hn : ∀ j, j < P.length → up (fun _ => false) k j = true) : ∃ A', Done G p0 P A' ∧ Lent E 32 [.pointer (some ⟨0, 0, none⟩), gv p] blk0 (doneV G.data (ownG p0)) A' := by
  have hq := hP.piece hp
  have ht := thO_up (c := fun _ => false) hp
  rw [thO_none] at ht
  have hall := hP.there hn
  have hz := hP.size
  have hpt : p.total = G.data.size := hq.total.trans hP.total
  have e : k = 0 := by
    refine Classical.byContradiction fun e => ?_
    have h1 := hn 0 hP.len
    unfold up at h1
    rw [if_neg (fun h => e h.symm)] at h1
    cases h1
  subst e
  rw [hp0] at hp
  obtain rfl := Option.some.inj hp
  refine ⟨blkD G.data (thO P (up (fun _ => false) 0)) (ownG p0) (ownG p0), ⟨_, _, rfl⟩, ?_⟩
  have := take_new_NB_done G.data.size G.data p0 hq.okr hq.okg _ hq.at' (at_first hP hp0) hq.data hq.fits rfl hz hpt (by rw [ht]; exact hall)
  rw [ht] at this
  exact this
end Go.Proofs.Ytpkkcpglbjbgfaa.D
