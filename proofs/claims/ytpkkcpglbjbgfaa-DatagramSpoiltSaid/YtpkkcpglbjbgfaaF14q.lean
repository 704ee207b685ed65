/- What the document's Read comes to is what Read comes to. -/
import Derived.Test.YtpkkcpglbjbgfaaFwLem
import Derived.Test.YtpkkcpglbjbgfaaF14p
namespace Go.Proofs.Ytpkkcpglbjbgfaa.D
open Go.Fw Go.RowKit

theorem flags_eq (f : Int) (h0 : 0 ≤ f) (h7 : f ≤ 7) : fl1 f = flag f 1 ∧ fl2 f = flag f 2 ∧ fl4 f = flag f 4 := by
  obtain rfl | rfl | rfl | rfl | rfl | rfl | rfl | rfl : f = 0 ∨ f = 1 ∨ f = 2 ∨ f = 3 ∨ f = 4 ∨ f = 5 ∨ f = 6 ∨ f = 7 := by omega
  all_goals exact ⟨by decide +kernel, by decide +kernel, by decide +kernel⟩
section
variable (b : ByteArray) (e : Nat)
theorem num_cut (p : Nat) (h : p + 2 ≤ e) : num (b.extract 0 e) p = num b p := by
  unfold num
  rw [byteAt_extract b 0 e p (by omega), byteAt_extract b 0 e (p + 1) (by omega), Nat.zero_add, Nat.zero_add]
theorem row_cut (p i : Nat) : row (b.extract 0 e) e p i = row b e p i := by
  unfold row
  refine List.map_congr_left fun j _ => ?_
  unfold numO
  split
  · exact num_cut b e _ (by omega)
  · rfl
theorem adrO_cut (p : Nat) : adrO (b.extract 0 e) e p = adrO b e p := by
  unfold adrO
  by_cases h : p + 2 ≤ e
  · rw [num_cut b e p h]
  · rw [if_neg (by omega), if_neg (by omega)]
end
theorem adrO_le {b : ByteArray} {e p n : Nat} (h : adrO b e p = some n) : p + 2 + 2 * n ≤ e := by
  unfold adrO at h
  split at h
  · rename_i hc
    obtain rfl := Option.some.inj h
    omega
  · cases h
theorem list_cut (b : ByteArray) (e p : Nat) (he : e ≤ b.size) (hb : b.size ≤ 140737488351232) (hp : p ≤ 140737488390000) : Fun E 59 [.string (b.extract 0 e), .int .i64 (p : Int)] (match adrO b e p with
    | some n => .tuple #[sl (xn n) (row b e (p + 2) n), .int .i64 ((p + 2 + 2 * n : Nat) : Int)]
    | none => .tuple #[sl 2 [], .int .i64 ((e + 1 : Nat) : Int)]) := by
  have hz : (b.extract 0 e).size = e := by rw [ByteArray.size_extract]; omega
  have c := list59 (b.extract 0 e) p (by omega) hp
  rw [hz] at c
  unfold adrV at c
  rw [adrO_cut] at c
  cases ha : adrO b e p with
  | none => rw [ha] at c; exact c
  | some n =>
    rw [ha] at c
    dsimp only at c ⊢
    unfold lAt at c
    rw [row_cut] at c
    exact c

theorem gS_eq (b : ByteArray) (n1 n2 : Nat) (h : 23 ≤ b.size) (h2 : 17 + 2 * n1 + 2 * n2 ≤ b.size - 2) (h7 : num b 11 ≤ 7) : gS (b.extract 0 (b.size - 2)) (xn n1) (xn n2) (row b (b.size - 2) 15 n1) (row b (b.size - 2) (17 + 2 * n1) n2) ((b.extract 0 (b.size - 2)).extract (17 + 2 * n1 + 2 * n2) (b.extract 0 (b.size - 2)).size) = gAt b n1 n2 := by
  obtain ⟨e1, e2, e3⟩ := flags_eq (num b 11) (num_lt b 11).1 h7
  unfold gS gAt gR
  rw [num_cut b _ 1 (by omega), num_cut b _ 3 (by omega), num_cut b _ 5 (by omega), num_cut b _ 7 (by omega), num_cut b _ 9 (by omega), num_cut b _ 11 (by omega), ext_ext b 0 _ _ (by omega), Nat.zero_add, e1, e2, e3]
theorem pre_cut (b : ByteArray) (p2 : Nat) (h : 23 ≤ b.size) : pre (b.extract 0 (b.size - 2)) p2 = ((byteAt b 0).toNat == 71 && decide (p2 ≤ b.size - 2) && decide (num b 11 ≤ 7)) := by
  have hz : (b.extract 0 (b.size - 2)).size = b.size - 2 := by rw [ByteArray.size_extract]; omega
  unfold pre
  rw [num_cut b _ 11 (by omega), byteAt_extract b 0 _ 0 (by omega), hz, Nat.zero_add]
  congr 2
  exact decide_eq_decide.2 (by omega)
theorem read26_ok (b : ByteArray) (h : 23 ≤ b.size) (hb : b.size ≤ 140737488351232) (hs : sumOk b = true) : Fun E 26 [.string b] (resV (parse b)) := by
  have c1 := list_cut b (b.size - 2) 13 (by omega) hb (by omega)
  unfold parse
  have bad : ∀ (x1 x2 : Nat) (l1 l2 : List Int) (p1 : Int), Fun E 59 [.string (b.extract 0 (b.size - 2)), .int .i64 13] (.tuple #[sl x1 l1, .int .i64 p1]) → Fun E 59 [.string (b.extract 0 (b.size - 2)), .int .i64 p1] (.tuple #[sl x2 l2, .int .i64 ((b.size - 2 + 1 : Nat) : Int)]) → Fun E 26 [.string b] (resV none) := fun x1 x2 l1 l2 p1 k1 k2 => by
    have := read26_walk b h hb hs x1 x2 l1 l2 p1 (b.size - 2 + 1) k1 k2
    rw [if_neg (by
      rw [pre_cut b _ h, decide_eq_false (show ¬ (b.size - 2 + 1 ≤ b.size - 2) by omega)]
      simp)] at this
    exact this
  cases hq : adrO b (b.size - 2) 13 with
  | none =>
    rw [hq] at c1
    dsimp only at c1 ⊢
    have c2 := list_cut b (b.size - 2) (b.size - 2 + 1) (by omega) hb (by omega)
    rw [show adrO b (b.size - 2) (b.size - 2 + 1) = none by unfold adrO; rw [if_neg (by omega)]] at c2
    exact bad _ _ _ _ _ c1 c2
  | some n1 =>
    rw [hq] at c1
    have l1 := adrO_le hq
    dsimp only at c1 ⊢
    have ep : 13 + 2 + 2 * n1 = 15 + 2 * n1 := by omega
    rw [ep] at c1
    have c2 := list_cut b (b.size - 2) (15 + 2 * n1) (by omega) hb (by omega)
    cases hr : adrO b (b.size - 2) (15 + 2 * n1) with
    | none =>
      rw [hr] at c2
      exact bad _ _ _ _ _ c1 c2
    | some n2 =>
      rw [hr] at c2
      have l2 := adrO_le hr
      dsimp only at c2 ⊢
      have ep2 : 15 + 2 * n1 + 2 = 17 + 2 * n1 := by omega
      rw [ep2] at c2
      have := read26_walk b h hb hs _ _ _ _ _ _ c1 c2
      rw [pre_cut b _ h, decide_eq_true (show 17 + 2 * n1 + 2 * n2 ≤ b.size - 2 by omega)] at this
      by_cases h7 : num b 11 ≤ 7
      · rw [gS_eq b n1 n2 h (by omega) h7] at this
        have hi : ((((byteAt b 0).toNat == 71 && true && decide (num b 11 ≤ 7)) = true ∧ okG (gAt b n1 n2) = true)) ↔ acc b false (gAt b n1 n2) = true := by
          unfold acc
          simp only [Bool.and_true, Bool.not_false, Bool.and_eq_true]
        simp only [hi] at this
        exact this
      · rw [if_neg (by rw [decide_eq_false h7]; simp)] at this
        rw [if_neg (by unfold acc; rw [decide_eq_false h7]; simp)]
        exact this
theorem read26 (b : ByteArray) (hb : b.size ≤ 140737488351232) : Fun E 26 [.string b] (.tuple #[gv (rGr b), .int .i64 (rErr b)]) := by
  unfold rGr rErr
  by_cases h : b.size < 23
  · rw [if_pos h, if_pos h]
    exact read26_short b h
  · rw [if_neg h, if_neg h]
    cases hs : sumOk b with
    | false => exact read26_sum b (by omega) hb hs
    | true =>
      have := read26_ok b (by omega) hb hs
      rw [if_neg (by decide), if_neg (by decide)]
      cases hp : parse b with
      | none => rw [hp] at this; exact this
      | some g => rw [hp] at this; exact this
end Go.Proofs.Ytpkkcpglbjbgfaa.D
