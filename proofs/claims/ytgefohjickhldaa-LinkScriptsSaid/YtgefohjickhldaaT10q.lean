/- The program's station and the specification's go on alike. -/
import Derived.Test.YtgefohjickhldaaT10p
namespace Go.Proofs.Ytgefohjickhldaa.D
open Go.Fw Go.RowKit
namespace St
/-- The same, but for how often it tried and what it told. -/
def mix (s : St) (t : Nat) (n : Bool) : St := { s with tried := t, ren := n }
/-- What the two may differ in. -/
def Rel (s : St) (t : Nat) (n : Bool) : Prop := (s.left = 0 ∨ t = s.tried) ∧ (s.state = 1 → n = s.ren)
/-- The two go on alike. -/
def Alike (a b : St) : Prop := ∃ t n, a = mix b t n ∧ Rel b t n
variable {s : St} {t : Nat} {n : Bool}
theorem Alike.mk (h : Rel s t n) : Alike (mix s t n) s := ⟨t, n, rfl, h⟩
theorem Alike.snd {a b : St} (h : Alike a b) (k i r : Nat) (d : ByteArray) : Alike (a.snd k i r d) (b.snd k i r d) := by
  obtain ⟨t, n, rfl, h⟩ := h
  exact ⟨t, n, rfl, h⟩
theorem Alike.tel {a b : St} (h : Alike a b) (k : Nat) (d : ByteArray) : Alike (a.tel k d) (b.tel k d) := by
  obtain ⟨t, n, rfl, h⟩ := h
  exact ⟨t, n, rfl, h⟩
theorem Alike.agn {a b : St} (h : Alike a b) : Alike a.agn b.agn := by
  obtain ⟨t, n, rfl, h⟩ := h
  exact ⟨t, n, rfl, h⟩
theorem Alike.cut {a b : St} (h : Alike a b) (l : List Evt) : Alike { a with ans := l } { b with ans := l } := by
  obtain ⟨t, n, rfl, h⟩ := h
  exact ⟨t, n, rfl, h⟩
theorem Alike.ask {a s : St} (h : Alike a s) : Alike a.ask s.ask := by
  obtain ⟨t, n, rfl, h⟩ := h
  unfold St.ask
  show Alike (if s.first = true then _ else _) _
  split
  · exact ⟨t, n, rfl, h⟩
  · exact ⟨t, n, rfl, h⟩
theorem Alike.sta {a b : St} (h : Alike a b) : Alike a.sta b.sta := by
  obtain ⟨t, n, rfl, h⟩ := h
  exact ⟨1, n, rfl, .inr rfl, h.2⟩
/-- A start: what was told is the same then. -/
theorem alike_beg {b : St} {t : Nat} {n : Bool} (hn : n = b.ren) : Alike (mix b t n).beg b.beg := by
  subst hn
  have h : Rel { b with gen := if b.first then (b.gen + 1) % 256 else b.gen, state := 1 } b.tried b.ren := ⟨.inr rfl, fun _ => rfl⟩
  have h1 : ({ b with gen := if b.first then (b.gen + 1) % 256 else b.gen, state := 1 } : St).ask.ren = b.ren := by
    unfold St.ask
    split <;> rfl
  refine ⟨1, b.ren, ?_, .inr rfl, fun _ => h1.symm⟩
  obtain ⟨first, win, wait, tries, state, gen, sent, acked, wanted, rej, ren, queue, out, left, tried, ans⟩ := b
  cases first <;> rfl
theorem Alike.rise {a b : St} (h : Alike a b) : Alike (a.rise true) (b.rise false) := by
  obtain ⟨t, n, rfl, h⟩ := h
  exact ⟨0, n, rfl, .inl rfl, fun h => by cases h⟩
theorem Alike.giv {a b : St} (h : Alike a b) : Alike (a.giv true) (b.giv false) := by
  obtain ⟨t, n, rfl, h⟩ := h
  exact ⟨0, n, by unfold St.giv; rfl, .inl rfl, fun h => by cases h⟩
theorem Alike.ack {a b : St} (h : Alike a b) (r : Nat) : Alike (a.ack r) (b.ack r) := by
  obtain ⟨t, n, rfl, h⟩ := h
  unfold St.ack
  show Alike (if (r + 8 - b.acked) % 8 = 0 ∨ (r + 8 - b.acked) % 8 > b.out.length then _ else _) _
  split
  · exact ⟨t, n, rfl, h⟩
  · exact ⟨0, n, rfl, .inr rfl, h.2⟩
theorem Alike.car {a b : St} (h : Alike a b) (k i r : Nat) (d : ByteArray) : Alike (a.car k i r d) (b.car k i r d) := by
  have h1 := h.ack r
  unfold St.car
  generalize a.ack r = a1 at *
  generalize b.ack r = b1 at *
  obtain ⟨t, n, rfl, h2⟩ := h1
  dsimp only
  split
  · exact ⟨t, n, rfl, h2⟩
  split
  · exact ⟨t, n, rfl, h2⟩
  show Alike (if i = b1.wanted then _ else _) _
  split
  · exact ⟨t, n, rfl, h2⟩
  show Alike (if b1.rej = true then _ else _) _
  split
  · exact ⟨t, n, rfl, h2⟩
  · exact ⟨t, n, rfl, h2⟩
theorem Alike.setf {a b : St} (h : Alike a b) (g : Nat) : Alike (a.setf true g) (b.setf false g) := by
  obtain ⟨t, n, rfl, h⟩ := h
  unfold St.setf
  show Alike (if b.first = true ∨ b.state = 3 then _ else if g = b.gen then (if b.state = 2 then _ else _) else _) _
  split
  · exact ⟨t, n, rfl, h⟩
  split
  · split
    · exact ⟨t, n, rfl, h⟩
    · exact ⟨t, n, rfl, h⟩
  · exact ⟨0, n, rfl, .inl rfl, fun h => by cases h⟩
theorem Alike.frm {a b : St} (h : Alike a b) (k g i r : Nat) (d : ByteArray) : Alike (a.frm true k g i r d) (b.frm false k g i r d) := by
  have hs := h.setf g
  have hc := h.car k i r d
  have hg := h.giv
  have hl := (h.snd 7 0 0 nob).giv
  obtain ⟨t, n, rfl, h⟩ := h
  unfold St.frm
  show Alike (if k ≠ 1 ∧ k ≠ 8 ∧ g ≠ b.gen then _ else if k = 1 then _ else if k = 8 then (if b.first = true ∧ (b.state = 0 ∨ b.state = 2) then (if b.state = 2 then _ else _) else _) else if k = 2 then (if b.state = 1 ∧ b.first = true then _ else _) else if k = 6 then (if b.state = 0 then _ else _) else if k = 7 then (if b.state = 3 then _ else _) else (if b.state = 2 then _ else _)) _
  split
  · exact ⟨t, n, rfl, h⟩
  split
  · exact hs
  split
  · split
    · split
      · exact alike_beg (b := ({ b with ren := true } : St).tel 4 nob) (t := t) (n := true) rfl
      · exact alike_beg (b := ({ b with ren := false } : St)) (t := t) (n := false) rfl
    · exact ⟨t, n, rfl, h⟩
  split
  · split
    · rename_i hc
      have hn : n = b.ren := h.2 hc.1
      subst hn
      show Alike (if b.ren = true then _ else _) _
      split
      · exact ⟨0, true, rfl, .inl rfl, fun h => by cases h⟩
      · exact ⟨0, false, rfl, .inl rfl, fun h => by cases h⟩
    · exact ⟨t, n, rfl, h⟩
  split
  · split
    · exact ⟨t, n, rfl, h⟩
    · exact hl
  split
  · split
    · exact hg
    · exact ⟨t, n, rfl, h⟩
  split
  · exact hc
  · exact ⟨t, n, rfl, h⟩
theorem Alike.frmB {a b : St} (h : Alike a b) (x : ByteArray) : Alike (a.frmB true x) (b.frmB false x) := by
  unfold St.frmB
  split
  · exact h.frm _ _ _ _ _
  · exact h
theorem Alike.tic {a b : St} (h : Alike a b) : Alike (a.tic true) (b.tic false) := by
  obtain ⟨t, n, rfl, h⟩ := h
  unfold St.tic
  show Alike (if b.left = 0 then _ else if b.left - 1 > 0 then _ else if t ≥ b.tries then _ else _) _
  split
  · exact ⟨t, n, rfl, h⟩
  rename_i h0
  obtain rfl : t = b.tried := h.1.resolve_left h0
  split
  · exact ⟨b.tried, n, rfl, .inr rfl, h.2⟩
  split
  · exact Alike.giv (a := mix { b with left := 0 } b.tried n) (b := { b with left := 0 }) ⟨b.tried, n, rfl, .inl rfl, h.2⟩
  · have h2 : Alike (mix { b with tried := b.tried + 1, left := b.wait } (b.tried + 1) n) { b with tried := b.tried + 1, left := b.wait } := ⟨_, n, rfl, .inr rfl, h.2⟩
    show Alike (if b.state = 1 then _ else if b.state = 3 then _ else if b.state = 2 then _ else _) _
    dsimp only
    split
    · exact h2.ask
    split
    · exact h2.snd _ _ _ _
    split
    · exact h2.agn
    · exact h2
theorem Alike.usr {a b : St} (h : Alike a b) (k : Int) (d : ByteArray) : (a.usr k d).1 = (b.usr k d).1 ∧ Alike (a.usr k d).2 (b.usr k d).2 := by
  obtain ⟨t, n, rfl, h⟩ := h
  have h0 : Alike (mix b t n) b := ⟨t, n, rfl, h⟩
  unfold St.usr
  show (if k = 1 then (if b.state ≠ 0 then _ else _) else if k = 2 then (if d.size > 1000 then _ else if b.state ≠ 2 then _ else if b.queue.length ≥ 20 then _ else _) else if k = 3 then (if b.state ≠ 2 ∧ b.state ≠ 1 then _ else _) else _ : Int × St).1 = _ ∧ Alike (if k = 1 then (if b.state ≠ 0 then _ else _) else if k = 2 then (if d.size > 1000 then _ else if b.state ≠ 2 then _ else if b.queue.length ≥ 20 then _ else _) else if k = 3 then (if b.state ≠ 2 ∧ b.state ≠ 1 then _ else _) else _ : Int × St).2 _
  split
  · split
    · exact ⟨rfl, h0⟩
    · exact ⟨rfl, alike_beg (b := ({ b with ren := false } : St)) (t := t) (n := false) rfl⟩
  split
  · split
    · exact ⟨rfl, h0⟩
    split
    · exact ⟨rfl, h0⟩
    split
    · exact ⟨rfl, h0⟩
    · exact ⟨rfl, t, n, rfl, h⟩
  split
  · split
    · exact ⟨rfl, h0⟩
    · exact ⟨rfl, 1, n, rfl, .inr rfl, fun h => by cases h⟩
  · exact ⟨rfl, h0⟩
theorem Alike.flo1 {a b : St} (h : Alike a b) : Alike a.flo1 b.flo1 := by
  obtain ⟨t, n, rfl, h⟩ := h
  unfold St.flo1
  show Alike (if b.left = 0 then _ else _) _
  dsimp only
  split
  · exact ⟨1, n, rfl, .inr rfl, h.2⟩
  · exact ⟨t, n, rfl, h⟩
theorem Alike.floN : ∀ (m : Nat) {a b : St}, Alike a b → Alike (floN m a) (floN m b)
  | 0, _, _, h => h
  | m + 1, a, b, h => by
    have hm : a.may ↔ b.may := by
      obtain ⟨t, n, rfl, _⟩ := h
      exact Iff.rfl
    unfold St.floN
    by_cases hb : b.may
    · rw [if_pos hb, if_pos (hm.2 hb)]
      exact Alike.floN m h.flo1
    · rw [if_neg hb, if_neg (fun h => hb (hm.1 h))]
      exact h
theorem Alike.flo {a b : St} (h : Alike a b) : Alike a.flo b.flo := by
  have hq : a.queue = b.queue := by
    obtain ⟨t, n, rfl, _⟩ := h
    rfl
  unfold St.flo
  rw [hq]
  exact Alike.floN _ h
theorem Alike.ons {a b : St} (h : Alike a b) (w k : Int) (d : ByteArray) : (a.ons true w k d).1 = (b.ons false w k d).1 ∧ Alike (a.ons true w k d).2 (b.ons false w k d).2 := by
  have h0 := h.cut []
  unfold St.ons
  split
  · obtain ⟨h1, h2⟩ := h0.usr k d
    rw [h1]
    split
    · exact ⟨rfl, h2.flo⟩
    · exact ⟨h1, h2⟩
  split
  · exact ⟨rfl, (h0.frmB d).flo⟩
  split
  · exact ⟨rfl, h0.tic.flo⟩
  · exact ⟨rfl, h0⟩
end St
end Go.Proofs.Ytgefohjickhldaa.D
