/- The law ScreenDiffers, whole. -/
import Derived.Test.YtlejgfeoffhjoaaF34z
import Derived.Test.YtlejgfeoffhjoaaG34a
namespace Go.Proofs.Ytlejgfeoffhjoaa.D
open Go.Fw Go.RowKit

theorem law5 (x y x' y' : Nat) (r m r' m' : List ByteArray) (i j i' j' : Int) (hx : x = 2 → r = []) (hy : y = 2 → m = []) (hr : ∀ k, (rowAt r k).size ≤ 140737488351232) (hm : ∀ k, (rowAt m k).size ≤ 140737488351232) (lr : r.length ≤ 8796093022208) (lm : m.length ≤ 8796093022208)
    (hr' : ∀ k, (rowAt r' k).size ≤ 140737488351232) (hm' : ∀ k, (rowAt m' k).size ≤ 140737488351232) (lr' : r'.length ≤ 8796093022208) (lm' : m'.length ≤ 8796093022208) :
    Fun E 5 [dv x y r m i j, dv x' y' r' m' i' j'] (.bool true) := by
  have cV := valid15 x y r m i j hr hm
  have cV0 := valid16 0 0 r m i j hr
  have cW := valid15 x' y' r' m' i' j' hr' hm'
  have cW0 := valid16 0 0 r' m' i' j' hr'
  by_cases h1 : Good r m i j
  · rw [decide_eq_true h1] at cV cV0
    by_cases h2 : Good r' m' i' j'
    · rw [decide_eq_true h2] at cW cW0
      by_cases h3 : r.length = r'.length
      · by_cases h4 : (rowAt r 0).size = (rowAt r' 0).size
        · have q1 := cells_of h1
          have q2 := cells_of h2
          obtain ⟨e1, e2⟩ := good_mk h1
          obtain ⟨e3, e4⟩ := good_mk h2
          obtain ⟨⟨g1, g2, g3, g4, g5⟩, _⟩ := h1
          obtain ⟨⟨_, k2, _, k4, k5⟩, _⟩ := h2
          rw [← h3, ← h4] at q2 e3 e4
          rw [← h3] at k4
          rw [← h4] at k5
          have hx2 : x ≠ 2 := fun e => by rw [hx e] at g1; exact absurd g1.1 (by decide)
          have hy2 : y ≠ 2 := fun e => by
            have := hy e
            rw [this] at g2
            have : r.length = 0 := g2.symm
            omega
          obtain ⟨R, hR⟩ : ∃ R, R = r.length := ⟨_, rfl⟩
          obtain ⟨C, hC⟩ : ∃ C, C = (rowAt r 0).size := ⟨_, rfl⟩
          rw [← hR, ← hC] at q1 q2 e1 e2 e3 e4
          rw [← hR] at g1 g4 k4
          rw [← hC] at g3 g5 k5
          generalize cellF r = f at e1 q1
          generalize cellF m = g at e2 q1
          generalize cellF r' = f' at e3 q2
          generalize cellF m' = g' at e4 q2
          rw [e1, e2] at cV cV0
          rw [e3, e4] at cW cW0
          rw [e1, e2, e3, e4]
          obtain ⟨a, rfl⟩ : ∃ a : Nat, i = a := ⟨i.toNat, by omega⟩
          obtain ⟨b, rfl⟩ : ∃ b : Nat, j = b := ⟨j.toNat, by omega⟩
          obtain ⟨a', rfl⟩ : ∃ a : Nat, i' = a := ⟨i'.toNat, by omega⟩
          obtain ⟨b', rfl⟩ : ∃ b : Nat, j' = b := ⟨j'.toNat, by omega⟩
          exact law5_ok x y x' y' R C f g f' g' a b a' b' hx2 hy2 g1.1 g1.2 g3.1 g3.2 q1 q2 (by omega) (by omega) (by omega) (by omega) cV cW cV0 cW0
        · exact law5_e4 x y x' y' r m r' m' i j i' j' lr lm lr' lm' cV cV0 cW cW0 h3 h1.1.1.1 h4
      · exact law5_e3 x y x' y' r m r' m' i j i' j' lr lm lr' lm' cV cV0 cW cW0 h3
    · rw [decide_eq_false h2] at cW cW0
      exact law5_e2 x y x' y' r m r' m' i j i' j' lr lm lr' lm' cV cV0 cW cW0
  · rw [decide_eq_false h1] at cV cV0
    exact law5_e1 x y x' y' r m r' m' i j i' j' lr lm cV cV0
end Go.Proofs.Ytlejgfeoffhjoaa.D
