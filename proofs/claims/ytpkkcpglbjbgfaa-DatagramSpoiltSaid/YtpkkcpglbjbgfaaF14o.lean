/- What Read comes to. -/
import Derived.Test.YtpkkcpglbjbgfaaFwLem
import Derived.Test.YtpkkcpglbjbgfaaF14n
namespace Go.Proofs.Ytpkkcpglbjbgfaa.D
open Go.Fw Go.RowKit

def xn (n : Nat) : Nat := if n = 0 then 2 else 0
/-- A reader behind an address. -/
def After (b : ByteArray) (e p x : Nat) (l : List Int) (s : ByteArray) (bad : Bool) : Option Nat → Prop
  | some n => x = xn n ∧ l = row b e (p + 2) n ∧ s = b.extract (p + 2 + 2 * n) e ∧ bad = false
  | none => bad = true ∧ ∃ q, s = b.extract q e ∧ e < q + 2
theorem row_nil (b : ByteArray) (e p : Nat) : row b e p 0 = [] := rfl
theorem addrA (b : ByteArray) (p e : Nat) (h : p + 2 ≤ e) (he : e ≤ b.size) : ∃ x l s bad, Lent E 57 [.pointer (some ⟨0, 0, none⟩)] [rd (b.extract p e) false] (sl x l) [rd s bad] ∧ l.length ≤ 70000 ∧ After b e p x l s bad (adrO b e p) := by
  obtain ⟨n0, n1⟩ := num_lt b p
  obtain ⟨n, hn⟩ : ∃ n : Nat, num b p = (n : Int) := ⟨(num b p).toNat, by omega⟩
  have hnT : (num b p).toNat = n := by omega
  rcases Nat.eq_zero_or_pos n with h0 | h0
  · subst h0
    have e1 : adrO b e p = some 0 := by unfold adrO; rw [hnT, if_pos (by omega)]
    rw [e1]
    exact ⟨2, [], _, false, addr0 b p e h he (by omega), Nat.zero_le _, rfl, rfl, rfl, rfl⟩
  · have c := addr1 b p e n h he hn h0 (by omega)
    by_cases h2 : p + 2 + 2 * n ≤ e
    · have e1 : adrO b e p = some n := by unfold adrO; rw [hnT, if_pos (by omega)]
      have e2 : reads e (p + 2) n = n := if_pos h2
      rw [e1]
      rw [e2] at c
      have e3 : rdS b e (p + 2) n = b.extract (p + 2 + 2 * n) e := if_pos h2
      have e4 : rdB e (p + 2) n = false := decide_eq_false (by omega)
      exact ⟨0, _, _, _, c, by rw [row_len]; omega, (if_neg (by omega)).symm, rfl, e3, e4⟩
    · have e1 : adrO b e p = none := by unfold adrO; rw [hnT, if_neg (by omega)]
      have e2 : reads e (p + 2) n = (e - (p + 2)) / 2 + 1 := if_neg h2
      rw [e1]
      rw [e2] at c
      have e3 : rdS b e (p + 2) ((e - (p + 2)) / 2 + 1) = b.extract (p + 2 + 2 * ((e - (p + 2)) / 2 + 1 - 1)) e := if_neg (by omega)
      have e4 : rdB e (p + 2) ((e - (p + 2)) / 2 + 1) = true := decide_eq_true (by omega)
      exact ⟨0, _, _, _, c, by rw [row_len]; omega, e4, _, e3, by omega⟩
/-- What is read of a string of which the sum is right. -/
def gAt (b : ByteArray) (n1 n2 : Nat) : Gr := gR b (xn n1) (xn n2) (row b (b.size - 2) 15 n1) (row b (b.size - 2) (17 + 2 * n1) n2) (b.extract (17 + 2 * n1 + 2 * n2) (b.size - 2))
def parse (b : ByteArray) : Option Gr := match adrO b (b.size - 2) 13 with
  | none => none
  | some n1 => match adrO b (b.size - 2) (15 + 2 * n1) with
    | none => none
    | some n2 => if acc b false (gAt b n1 n2) = true then some (gAt b n1 n2) else none
theorem acc_bad (b : ByteArray) (g : Gr) : acc b true g = false := by
  unfold acc
  simp
theorem read24_ok (b : ByteArray) (h : 23 ≤ b.size) (hb : b.size ≤ 140737488351232) (hs : sumOk b = true) : Fun E 24 [.string b] (resV (parse b)) := by
  obtain ⟨x1, l1, s1, b1, c1, k1, a1⟩ := addrA b 13 (b.size - 2) (by omega) (by omega)
  unfold parse
  cases hq : adrO b (b.size - 2) 13 with
  | none =>
    rw [hq] at a1
    obtain ⟨rfl, q, rfl, hq2⟩ := a1
    have c2 := addrNo b q (b.size - 2) true hq2 (by omega)
    have := read24_walk b h hb hs x1 2 l1 [] _ _ true true k1 (Nat.zero_le _) c1 c2
    rw [acc_bad] at this
    exact this
  | some n1 =>
    rw [hq] at a1
    obtain ⟨rfl, rfl, rfl, rfl⟩ := a1
    dsimp only
    have ep : 13 + 2 + 2 * n1 = 15 + 2 * n1 := by omega
    rw [ep] at c1
    by_cases hp2 : 15 + 2 * n1 + 2 ≤ b.size - 2
    · obtain ⟨x2, l2, s2, b2, c2, k2, a2⟩ := addrA b (15 + 2 * n1) (b.size - 2) hp2 (by omega)
      have := read24_walk b h hb hs _ x2 _ l2 _ s2 false b2 k1 k2 c1 c2
      cases hr : adrO b (b.size - 2) (15 + 2 * n1) with
      | none =>
        rw [hr] at a2
        obtain ⟨rfl, _⟩ := a2
        rw [acc_bad] at this
        exact this
      | some n2 =>
        rw [hr] at a2
        obtain ⟨rfl, rfl, rfl, rfl⟩ := a2
        have ep2 : 15 + 2 * n1 + 2 = 17 + 2 * n1 := by omega
        rw [ep2] at this
        exact this
    · have c2 := addrNo b (15 + 2 * n1) (b.size - 2) false (by omega) (by omega)
      have := read24_walk b h hb hs _ 2 _ [] _ _ false true k1 (Nat.zero_le _) c1 c2
      rw [acc_bad] at this
      have hr : adrO b (b.size - 2) (15 + 2 * n1) = none := by unfold adrO; rw [if_neg (by omega)]
      rw [hr]
      exact this
/-- The error, 0 if there is none; what is read. -/
def rErr (b : ByteArray) : Int := if b.size < 23 then 10 else if sumOk b = false then 11 else match parse b with
  | some _ => 0
  | none => 4
def rGr (b : ByteArray) : Gr := if b.size < 23 then zeroG else if sumOk b = false then zeroG else (parse b).getD zeroG
theorem read24 (b : ByteArray) (hb : b.size ≤ 140737488351232) : Fun E 24 [.string b] (.tuple #[gv (rGr b), .int .i64 (rErr b)]) := by
  unfold rGr rErr
  by_cases h : b.size < 23
  · rw [if_pos h, if_pos h]
    exact read24_short b h
  · rw [if_neg h, if_neg h]
    cases hs : sumOk b with
    | false => exact read24_sum b (by omega) hb hs
    | true =>
      have := read24_ok b (by omega) hb hs
      rw [if_neg (by decide), if_neg (by decide)]
      cases hp : parse b with
      | none => rw [hp] at this; exact this
      | some g => rw [hp] at this; exact this
end Go.Proofs.Ytpkkcpglbjbgfaa.D
