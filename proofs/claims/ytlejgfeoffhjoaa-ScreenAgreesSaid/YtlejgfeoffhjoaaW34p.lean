/- A world's two sides agree. -/
import Derived.Test.YtlejgfeoffhjoaaW34e
import Derived.Test.YtlejgfeoffhjoaaW34f
namespace Go.Proofs.Ytlejgfeoffhjoaa.D
open Go.Fw Go.RowKit

theorem good_ap {d : Dsp} {u : Up} (hg : d.good) (hf : d.fits u) : (d.ap u).good := ap_good ⟨hg, hf⟩
theorem aps_good {d : Dsp} {l : List Up} (hg : d.good) (hr : d.runs l) : (d.aps l).good := by
  have key : ∀ n, n ≤ l.length → (d.aps (l.take n)).good := by
    intro n
    induction n with
    | zero => exact fun _ => hg
    | succ n ih =>
      intro h
      obtain ⟨h1, h2⟩ := hr n (by omega)
      rw [aps_snoc d l (by omega)]
      exact good_ap h1 h2
  have := key l.length (Nat.le_refl _)
  rwa [List.take_length] at this
theorem runs_nil (d : Dsp) : d.runs [] := fun i h => absurd h (Nat.not_lt_zero _)
theorem runs_snoc {d : Dsp} {l : List Up} {u : Up} (h : d.runs l) (hg : (d.aps l).good) (hf : (d.aps l).fits u) : d.runs (l ++ [u]) := by
  intro i hi
  rw [List.length_append, List.length_singleton] at hi
  rcases Nat.lt_or_ge i l.length with h1 | h1
  · rw [List.take_append_of_le_length (by omega), List.getElem_append_left h1]
    exact h i h1
  · obtain rfl : i = l.length := by omega
    rw [List.take_left' rfl]
    simp only [List.getElem_concat_length]
    exact ⟨hg, hf⟩
theorem aps_app (d : Dsp) (l : List Up) (u : Up) : d.aps (l ++ [u]) = (d.aps l).ap u := by
  unfold Dsp.aps
  rw [List.foldl_append]
  rfl
/-- Each delivery makes of what is shown what was sent. -/
def Chain : Dsp → List Dl → Dsp → Prop
  | d, [], f => d = f
  | d, x :: r, f => d.runs x.l ∧ x.sent = d.aps x.l ∧ Chain x.sent r f
theorem Chain.snoc : ∀ {L : List Dl} {d f : Dsp} {x : Dl}, Chain d L f → f.runs x.l → x.sent = f.aps x.l → Chain d (L ++ [x]) x.sent
  | [], _, _, _, h, h1, h2 => by
    obtain rfl : _ = _ := h
    exact ⟨h1, h2, rfl⟩
  | y :: L, d, f, x, ⟨h1, h2, h3⟩, h4, h5 => ⟨h1, h2, Chain.snoc h3 h4 h5⟩
/-- What holds of a sender and a receiver, what is on the way between them, and what waits. -/
structure Pr (s r : Sd) (L : List Dl) (l : List Up) (dst : Int) (n : Nat) : Prop where
  gr : r.shown.good
  gs : s.shown.good
  kk : s.kept = r.kept
  gk : r.kept.good
  ch : ∃ f, Chain r.shown L f ∧ f.runs l ∧ f.aps l = s.shown
  ds : ∀ d ∈ L, d.dst = dst
  le : ∀ d ∈ L, d.l.length ≤ 100
  ll : l.length ≤ 100
  ln : L.length ≤ n
/-- A world, plainly. -/
structure Wd where
  t : Int
  a : Sd
  b : Sd
  l : List Up
  y : Wy
inductive Iv (n : Nat) (w : Wd) : Prop
  | zero : w.t = 0 → Pr w.a w.b w.y.l w.l 1 n → (∀ d ∈ w.y.l, d.give = false) → Iv n w
  | one : w.t = 1 → Pr w.b w.a w.y.l w.l 0 n → (∀ d ∈ w.y.l, d.give = false) → Iv n w
  | gave0 (L : List Dl) (x : Dl) : w.t = -1 → w.l = [] → w.y.l = L ++ [x] → x.give = true → (∀ d ∈ L, d.give = false) → Pr w.a w.b w.y.l [] 1 n → Iv n w
  | gave1 (L : List Dl) (x : Dl) : w.t = -1 → w.l = [] → w.y.l = L ++ [x] → x.give = true → (∀ d ∈ L, d.give = false) → Pr w.b w.a w.y.l [] 0 n → Iv n w
theorem Pr.mono {s r : Sd} {L : List Dl} {l : List Up} {k : Int} {n m : Nat} (h : Pr s r L l k n) (hm : n ≤ m) : Pr s r L l k m := ⟨h.gr, h.gs, h.kk, h.gk, h.ch, h.ds, h.le, h.ll, Nat.le_trans h.ln hm⟩
theorem Iv.mono {n m : Nat} {w : Wd} (h : Iv n w) (hm : n ≤ m) : Iv m w := by
  cases h with
  | zero h1 h2 h3 => exact .zero h1 (h2.mono hm) h3
  | one h1 h2 h3 => exact .one h1 (h2.mono hm) h3
  | gave0 L x h1 h2 h3 h4 h5 h6 => exact .gave0 L x h1 h2 h3 h4 h5 (h6.mono hm)
  | gave1 L x h1 h2 h3 h4 h5 h6 => exact .gave1 L x h1 h2 h3 h4 h5 (h6.mono hm)
theorem Iv.ga {n : Nat} {w : Wd} (h : Iv n w) : w.a.shown.good := by
  cases h with
  | zero _ h => exact h.gs
  | one _ h => exact h.gr
  | gave0 _ _ _ _ _ _ _ h => exact h.gs
  | gave1 _ _ _ _ _ _ _ h => exact h.gr
theorem Iv.gb {n : Nat} {w : Wd} (h : Iv n w) : w.b.shown.good := by
  cases h with
  | zero _ h => exact h.gr
  | one _ h => exact h.gs
  | gave0 _ _ _ _ _ _ _ h => exact h.gr
  | gave1 _ _ _ _ _ _ _ h => exact h.gs
theorem Iv.ln {n : Nat} {w : Wd} (h : Iv n w) : w.y.l.length ≤ n := by
  cases h with
  | zero _ h => exact h.ln
  | one _ h => exact h.ln
  | gave0 _ _ _ _ _ _ _ h => exact h.ln
  | gave1 _ _ _ _ _ _ _ h => exact h.ln
theorem Iv.ll {n : Nat} {w : Wd} (h : Iv n w) : w.l.length ≤ 100 := by
  cases h with
  | zero _ h => exact h.ll
  | one _ h => exact h.ll
  | gave0 _ _ _ h => rw [h]; exact Nat.zero_le _
  | gave1 _ _ _ h => rw [h]; exact Nat.zero_le _
/-- An update that fits is done. -/
theorem Pr.upd {s r : Sd} {L : List Dl} {l : List Up} {k : Int} {n : Nat} {u : Up} {m : Int} (h : Pr s r L l k n) (hf : s.shown.fits u) (hl : l.length < 100) : Pr ⟨s.shown.ap u, s.kept, m⟩ r L (l ++ [u]) k n := by
  obtain ⟨f, h1, h2, h3⟩ := h.ch
  refine ⟨h.gr, good_ap h.gs hf, h.kk, h.gk, ⟨f, h1, runs_snoc h2 (by rw [h3]; exact h.gs) (by rw [h3]; exact hf), ?_⟩, h.ds, h.le, ?_, h.ln⟩
  · rw [aps_app, h3]
  · rw [List.length_append, List.length_singleton]
    omega
/-- What waits is sent. -/
theorem Pr.send {s r : Sd} {L : List Dl} {l : List Up} {k : Int} {n : Nat} (g : Bool) (h : Pr s r L l k n) : Pr s r (L ++ [⟨k, l, g, s.shown⟩]) [] k (n + 1) := by
  obtain ⟨f, h1, h2, h3⟩ := h.ch
  refine ⟨h.gr, h.gs, h.kk, h.gk, ⟨s.shown, h1.snoc (x := ⟨k, l, g, s.shown⟩) h2 h3.symm, runs_nil _, rfl⟩, fun d hd => ?_, fun d hd => ?_, Nat.zero_le _, ?_⟩
  · rcases List.mem_append.1 hd with hd | hd
    · exact h.ds d hd
    · rw [List.mem_singleton.1 hd]
  · rcases List.mem_append.1 hd with hd | hd
    · exact h.le d hd
    · rw [List.mem_singleton.1 hd]
      exact h.ll
  · rw [List.length_append, List.length_singleton]
    exact Nat.succ_le_succ h.ln
/-- The next delivery comes. -/
theorem Pr.come {s r : Sd} {d : Dl} {L : List Dl} {l : List Up} {k : Int} {n : Nat} (h : Pr s r (d :: L) l k n) : Pr ⟨s.shown, d.sent, s.mark⟩ ⟨r.shown.aps d.l, r.shown.aps d.l, r.mark⟩ L l k n := by
  obtain ⟨f, ⟨h1, h2, h3⟩, h4, h5⟩ := h.ch
  have hg := aps_good h.gr h1
  exact ⟨hg, h.gs, h2, hg, ⟨f, by rw [← h2]; exact h3, h4, h5⟩, fun x hx => h.ds x (List.mem_cons_of_mem _ hx), fun x hx => h.le x (List.mem_cons_of_mem _ hx), h.ll, Nat.le_trans (Nat.le_succ _) h.ln⟩
theorem Pr.runs {s r : Sd} {d : Dl} {L : List Dl} {l : List Up} {k : Int} {n : Nat} (h : Pr s r (d :: L) l k n) : r.shown.runs d.l := by
  obtain ⟨f, ⟨h1, _, _⟩, _⟩ := h.ch
  exact h1
/-- The other one has the turn now. -/
theorem Pr.turn {s r : Sd} {k k' : Int} {n : Nat} (h : Pr s r [] [] k n) : Pr r s [] [] k' n := by
  obtain ⟨f, h1, _, h3⟩ := h.ch
  have e : r.shown = s.shown := Eq.trans (show r.shown = f from h1) h3
  refine ⟨h.gs, h.gr, h.kk.symm, by rw [h.kk]; exact h.gk, ⟨s.shown, rfl, runs_nil _, e.symm⟩, fun d hd => ?_, fun d hd => ?_, Nat.zero_le _, Nat.zero_le _⟩ <;> cases hd
theorem Pr.kept {s r : Sd} {L : List Dl} {l : List Up} {k k' : Int} {n : Nat} (h : Pr s r L l k n) : Pr ⟨s.kept, s.kept, 0⟩ ⟨r.kept, r.kept, 0⟩ [] [] k' n := by
  have e := h.kk
  refine ⟨h.gk, by rw [e]; exact h.gk, e, h.gk, ⟨r.kept, rfl, runs_nil _, e.symm⟩, fun d hd => ?_, fun d hd => ?_, Nat.zero_le _, Nat.zero_le _⟩ <;> cases hd
/-- Nothing waits, nothing is on the way: the same is shown. -/
theorem Iv.agree {n : Nat} {w : Wd} (h : Iv n w) (h1 : w.l = []) (h2 : w.y.l = []) : w.a.shown = w.b.shown := by
  cases h with
  | zero _ h =>
    rw [h1, h2] at h
    obtain ⟨f, e1, _, e3⟩ := h.ch
    exact (Eq.trans (show w.b.shown = f from e1) e3).symm
  | one _ h =>
    rw [h1, h2] at h
    obtain ⟨f, e1, _, e3⟩ := h.ch
    exact Eq.trans (show w.a.shown = f from e1) e3
  | gave0 L x _ _ h3 => rw [h2] at h3; exact absurd h3 (by simp)
  | gave1 L x _ _ h3 => rw [h2] at h3; exact absurd h3 (by simp)
end Go.Proofs.Ytlejgfeoffhjoaa.D
