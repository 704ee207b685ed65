/- A station's numbers stay what they may be. -/
import Derived.Test.YtgefohjickhldaaT10a
namespace Go.Proofs.Ytgefohjickhldaa.D
open Go.Fw Go.RowKit
namespace St
variable {s : St}
theorem Ok.snd (h : Ok s) {k n r : Nat} {d : ByteArray} : Ok (s.snd k n r d) := ⟨h.win, h.wait, h.tries, h.state, h.gen, h.sent, h.acked, h.wanted, h.left, h.tried, h.queue, h.out, h.down⟩
theorem Ok.tel (h : Ok s) {k : Nat} {d : ByteArray} : Ok (s.tel k d) := ⟨h.win, h.wait, h.tries, h.state, h.gen, h.sent, h.acked, h.wanted, h.left, h.tried, h.queue, h.out, h.down⟩
theorem Ok.ren (h : Ok s) {b : Bool} : Ok { s with ren := b } := ⟨h.win, h.wait, h.tries, h.state, h.gen, h.sent, h.acked, h.wanted, h.left, h.tried, h.queue, h.out, h.down⟩
theorem Ok.cut (h : Ok s) {l : List Evt} : Ok { s with ans := l } := ⟨h.win, h.wait, h.tries, h.state, h.gen, h.sent, h.acked, h.wanted, h.left, h.tried, h.queue, h.out, h.down⟩
theorem Ok.agn (h : Ok s) : Ok s.agn := ⟨h.win, h.wait, h.tries, h.state, h.gen, h.sent, h.acked, h.wanted, h.left, h.tried, h.queue, h.out, h.down⟩
theorem Ok.emp (h : Ok s) (z : Bool) : Ok (s.emp z) := by
  have ht : (if z = true then 0 else s.tried) ≤ s.tries := by
    have := h.tried
    split <;> omega
  exact ⟨h.win, h.wait, h.tries, h.state, h.gen, Nat.zero_le _, Nat.zero_le _, Nat.zero_le _, Nat.zero_le _, ht, Nat.zero_le _, Nat.zero_le _, fun _ => rfl⟩
theorem Ok.sta (h : Ok s) (hs : s.state ≠ 0) : Ok s.sta := ⟨h.win, h.wait, h.tries, h.state, h.gen, h.sent, h.acked, h.wanted, Nat.le_refl _, h.tries.1, h.queue, h.out, fun h0 => absurd h0 hs⟩
theorem Ok.ask (h : Ok s) : Ok s.ask := by
  unfold St.ask
  split
  · exact h.snd
  · exact h.snd
theorem ask_state : s.ask.state = s.state := by
  unfold St.ask
  split <;> rfl
theorem Ok.beg (h : Ok s) : Ok s.beg := by
  have hg : (if s.first = true then (s.gen + 1) % 256 else s.gen) ≤ 255 := by
    have := h.gen
    split <;> omega
  have h1 : Ok { s with gen := if s.first then (s.gen + 1) % 256 else s.gen, state := 1 } := ⟨h.win, h.wait, h.tries, (by decide : 1 ≤ 3), hg, h.sent, h.acked, h.wanted, h.left, h.tried, h.queue, h.out, fun h0 => by cases h0⟩
  exact h1.ask.sta (by rw [ask_state]; show (1 : Nat) ≠ 0; decide)
theorem Ok.rise (h : Ok s) (z : Bool) : Ok (s.rise z) := by
  have h1 := h.emp z
  exact ⟨h1.win, h1.wait, h1.tries, (by decide : 2 ≤ 3), h1.gen, h1.sent, h1.acked, h1.wanted, h1.left, h1.tried, h1.queue, h1.out, fun h0 => by cases h0⟩
theorem Ok.giv (h : Ok s) (z : Bool) : Ok (s.giv z) := by
  have h1 := h.emp z
  exact ⟨h1.win, h1.wait, h1.tries, (by decide : 0 ≤ 3), h1.gen, h1.sent, h1.acked, h1.wanted, h1.left, h1.tried, h1.queue, h1.out, fun _ => rfl⟩
theorem Ok.ack (h : Ok s) {r : Nat} (hr : r ≤ 7) (hs : s.state ≠ 0) : Ok (s.ack r) := by
  have h1 := h.out
  unfold St.ack
  split
  · exact h
  · have hl : (if s.out.drop ((r + 8 - s.acked) % 8) = [] then 0 else s.wait) ≤ s.wait := by split <;> omega
    exact ⟨h.win, h.wait, h.tries, h.state, h.gen, h.sent, hr, h.wanted, hl, Nat.zero_le _, h.queue, by dsimp only; rw [List.length_drop]; omega, fun h0 => absurd h0 hs⟩
theorem ack_state (r : Nat) : (s.ack r).state = s.state := by
  unfold St.ack
  split <;> rfl
theorem Ok.car (h : Ok s) {k n r : Nat} {d : ByteArray} (hr : r ≤ 7) (hs : s.state ≠ 0) : Ok (s.car k n r d) := by
  have h1 := h.ack hr hs
  unfold St.car
  generalize s.ack r = s1 at *
  dsimp only
  split
  · exact h1.agn
  split
  · exact h1
  split
  · have h2 : Ok { s1.tel 2 d with wanted := (s1.wanted + 1) % 8, rej := false } := ⟨h1.win, h1.wait, h1.tries, h1.state, h1.gen, h1.sent, h1.acked, by dsimp only; omega, h1.left, h1.tried, h1.queue, h1.out, h1.down⟩
    exact h2.snd
  split
  · exact h1.snd
  · have h2 : Ok { s1 with rej := true } := ⟨h1.win, h1.wait, h1.tries, h1.state, h1.gen, h1.sent, h1.acked, h1.wanted, h1.left, h1.tried, h1.queue, h1.out, h1.down⟩
    exact h2.snd
theorem Ok.setf (h : Ok s) (z : Bool) {g : Nat} (hg : g ≤ 255) : Ok (s.setf z g) := by
  unfold St.setf
  split
  · exact h
  split
  · split
    · exact h.snd
    · exact h
  · have h1 : Ok { s with gen := g } := ⟨h.win, h.wait, h.tries, h.state, hg, h.sent, h.acked, h.wanted, h.left, h.tried, h.queue, h.out, h.down⟩
    exact ((h1.snd).rise z).tel
theorem Ok.frm (h : Ok s) (z : Bool) {k g n r : Nat} {d : ByteArray} (hg : g ≤ 255) (hr : r ≤ 7) : Ok (s.frm z k g n r d) := by
  unfold St.frm
  split
  · exact h
  split
  · exact h.setf z hg
  split
  · split
    · split
      · exact (Ok.tel (Ok.ren h)).beg
      · exact (Ok.ren h).beg
    · exact h
  split
  · split
    · split
      · exact (h.rise z).ren
      · exact (Ok.tel (h.rise z)).ren
    · exact h
  split
  · split
    · exact h.snd
    · exact h.snd.giv z
  split
  · split
    · exact h.giv z
    · exact h
  split
  · rename_i hs
    exact h.car hr (by omega)
  · exact h
theorem Ok.frmB (h : Ok s) (z : Bool) (b : ByteArray) : Ok (s.frmB z b) := by
  unfold St.frmB
  split
  · refine h.frm z ?_ ?_
    · have := (byteAt b 1).toNat_lt
      omega
    · omega
  · exact h
theorem Ok.tic (h : Ok s) (z : Bool) : Ok (s.tic z) := by
  have h1 := h.left
  unfold St.tic
  split
  · exact h
  rename_i h0
  have hs : s.state ≠ 0 := fun e => h0 (h.down e)
  split
  · exact ⟨h.win, h.wait, h.tries, h.state, h.gen, h.sent, h.acked, h.wanted, by dsimp only; omega, h.tried, h.queue, h.out, fun e => absurd e hs⟩
  split
  · have h2 : Ok { s with left := 0 } := ⟨h.win, h.wait, h.tries, h.state, h.gen, h.sent, h.acked, h.wanted, Nat.zero_le _, h.tried, h.queue, h.out, fun _ => rfl⟩
    exact h2.giv z
  · have h2 : Ok { s with tried := s.tried + 1, left := s.wait } := ⟨h.win, h.wait, h.tries, h.state, h.gen, h.sent, h.acked, h.wanted, Nat.le_refl _, by dsimp only; omega, h.queue, h.out, fun e => absurd e hs⟩
    dsimp only
    split
    · exact h2.ask
    split
    · exact h2.snd
    split
    · exact h2.agn
    · exact h2
theorem Ok.usr (h : Ok s) (k : Int) (d : ByteArray) : Ok (s.usr k d).2 := by
  unfold St.usr
  split
  · split
    · exact h
    · exact (Ok.ren h).beg
  split
  · split
    · exact h
    split
    · exact h
    split
    · exact h
    · rename_i hq
      exact ⟨h.win, h.wait, h.tries, h.state, h.gen, h.sent, h.acked, h.wanted, h.left, h.tried, by dsimp only; rw [List.length_append]; show _ + 1 ≤ _; omega, h.out, h.down⟩
  split
  · split
    · exact h
    · have h2 : Ok { s with queue := [], state := 3 } := ⟨h.win, h.wait, h.tries, (by decide : 3 ≤ 3), h.gen, h.sent, h.acked, h.wanted, h.left, h.tried, Nat.zero_le _, h.out, fun e => by cases e⟩
      exact h2.snd.sta (by show (3 : Nat) ≠ 0; decide)
  · exact h
theorem Ok.flo1 (h : Ok s) (hm : s.may) : Ok s.flo1 := by
  obtain ⟨h1, h2, h3⟩ := hm
  obtain ⟨d, q, hq⟩ := List.exists_cons_of_ne_nil h3
  have hl := h.queue
  rw [hq] at hl
  have h4 : Ok { s.snd 3 s.sent s.wanted d with queue := q, out := s.out ++ [d], sent := (s.sent + 1) % 8 } := ⟨h.win, h.wait, h.tries, h.state, h.gen, by dsimp only; omega, h.acked, h.wanted, h.left, h.tried, by dsimp only; rw [List.length_cons] at hl; omega, by dsimp only; rw [List.length_append]; show _ + 1 ≤ _; exact h2, h.down⟩
  unfold St.flo1
  rw [hq]
  dsimp only
  split
  · exact h4.sta (by show s.state ≠ 0; omega)
  · exact h4
theorem Ok.floN : ∀ (n : Nat) {s : St}, Ok s → Ok (floN n s)
  | 0, _, h => h
  | n + 1, s, h => by
    unfold St.floN
    split
    · rename_i hm
      exact Ok.floN n (h.flo1 hm)
    · exact h
theorem Ok.ons (h : Ok s) (z : Bool) (w k : Int) (d : ByteArray) : Ok (s.ons z w k d).2 := by
  unfold St.ons
  have h0 : Ok { s with ans := [] } := h.cut
  split
  · split
    · exact Ok.floN _ (h0.usr k d)
    · exact h0.usr k d
  split
  · exact Ok.floN _ (h0.frmB z d)
  split
  · exact Ok.floN _ (h0.tic z)
  · exact h0
/-! how much is answered -/
theorem snd_n {k n r : Nat} {d : ByteArray} : (s.snd k n r d).ans.length = s.ans.length + 1 := by simp [St.snd]
theorem tel_n {k : Nat} {d : ByteArray} : (s.tel k d).ans.length = s.ans.length + 1 := by simp [St.tel]
theorem agn_n : s.agn.ans.length = s.ans.length + s.out.length := by simp [St.agn, St.agnN]
theorem ask_n : s.ask.ans.length = s.ans.length + 1 := by
  unfold St.ask
  split <;> exact snd_n
theorem beg_n : s.beg.ans.length = s.ans.length + 1 := ask_n (s := { s with gen := if s.first then (s.gen + 1) % 256 else s.gen, state := 1 })
theorem giv_n (z : Bool) : (s.giv z).ans.length = s.ans.length + 1 := tel_n (s := { s.emp z with state := 0, ren := z && s.ren })
theorem ack_n (r : Nat) : (s.ack r).ans.length = s.ans.length ∧ (s.ack r).out.length ≤ s.out.length := by
  unfold St.ack
  split
  · exact ⟨rfl, Nat.le_refl _⟩
  · exact ⟨rfl, by dsimp only; rw [List.length_drop]; omega⟩
theorem car_n {k n r : Nat} {d : ByteArray} : (s.car k n r d).ans.length ≤ s.ans.length + s.out.length + 2 := by
  obtain ⟨h1, h2⟩ := ack_n (s := s) r
  unfold St.car
  generalize s.ack r = s1 at *
  dsimp only
  split
  · rw [agn_n]; omega
  split
  · omega
  split
  · rw [snd_n]; show (s1.tel 2 d).ans.length + 1 ≤ _; rw [tel_n]; omega
  split
  · rw [snd_n]; omega
  · rw [snd_n]; show s1.ans.length + 1 ≤ _; omega
theorem setf_n (z : Bool) {g : Nat} : (s.setf z g).ans.length ≤ s.ans.length + 2 := by
  unfold St.setf
  split
  · omega
  split
  · split
    · rw [snd_n]; omega
    · omega
  · rw [tel_n]
    show (({ s with gen := g } : St).snd 2 0 0 nob).ans.length + 1 ≤ _
    rw [snd_n]
    show s.ans.length + 1 + 1 ≤ _
    omega
theorem frm_n (z : Bool) {k g n r : Nat} {d : ByteArray} : (s.frm z k g n r d).ans.length ≤ s.ans.length + s.out.length + 2 := by
  unfold St.frm
  split
  · omega
  split
  · have := setf_n (s := s) z (g := g); omega
  split
  · split
    · split
      · rw [beg_n, tel_n]; show s.ans.length + 1 + 1 ≤ _; omega
      · rw [beg_n]; show s.ans.length + 1 ≤ _; omega
    · omega
  split
  · split
    · split
      · show s.ans.length ≤ _; omega
      · show ((s.rise z).tel 1 nob).ans.length ≤ _; rw [tel_n]; show s.ans.length + 1 ≤ _; omega
    · omega
  split
  · split
    · rw [snd_n]; omega
    · rw [giv_n, snd_n]; omega
  split
  · split
    · rw [giv_n]; omega
    · omega
  split
  · exact car_n
  · omega
theorem frmB_n (z : Bool) (b : ByteArray) : (s.frmB z b).ans.length ≤ s.ans.length + s.out.length + 2 := by
  unfold St.frmB
  split
  · exact frm_n z
  · omega
theorem tic_n (z : Bool) : (s.tic z).ans.length ≤ s.ans.length + s.out.length + 1 := by
  unfold St.tic
  split
  · omega
  split
  · show s.ans.length ≤ _; omega
  split
  · rw [giv_n]; show s.ans.length + 1 ≤ _; omega
  dsimp only
  split
  · rw [ask_n]; show s.ans.length + 1 ≤ _; omega
  split
  · rw [snd_n]; show s.ans.length + 1 ≤ _; omega
  split
  · rw [agn_n]; show s.ans.length + s.out.length ≤ _; omega
  · show s.ans.length ≤ _; omega
theorem usr_n (k : Int) (d : ByteArray) : (s.usr k d).2.ans.length ≤ s.ans.length + 1 := by
  unfold St.usr
  split
  · split
    · dsimp only; omega
    · dsimp only; rw [beg_n]; show s.ans.length + 1 ≤ _; omega
  split
  · split
    · dsimp only; omega
    split
    · dsimp only; omega
    split
    · dsimp only; omega
    · dsimp only; omega
  split
  · split
    · dsimp only; omega
    · show (({ s with queue := [], state := 3 } : St).snd 6 0 0 nob).ans.length ≤ _
      rw [snd_n]
      show s.ans.length + 1 ≤ _
      omega
  · dsimp only; omega
theorem usr_err (k : Int) (d : ByteArray) (h : (s.usr k d).1 ≠ 0) : (s.usr k d).2 = s := by
  unfold St.usr at h ⊢
  split
  · rename_i h1
    rw [if_pos h1] at h
    split
    · rfl
    · rename_i h2
      rw [if_neg h2] at h
      exact absurd rfl h
  rename_i h1
  rw [if_neg h1] at h
  split
  · rename_i h2
    rw [if_pos h2] at h
    split
    · rfl
    rename_i h3
    rw [if_neg h3] at h
    split
    · rfl
    rename_i h4
    rw [if_neg h4] at h
    split
    · rfl
    · rename_i h5
      rw [if_neg h5] at h
      exact absurd rfl h
  rename_i h2
  rw [if_neg h2] at h
  split
  · rename_i h3
    rw [if_pos h3] at h
    split
    · rfl
    · rename_i h4
      rw [if_neg h4] at h
      exact absurd rfl h
  · rfl
end St
end Go.Proofs.Ytgefohjickhldaa.D
