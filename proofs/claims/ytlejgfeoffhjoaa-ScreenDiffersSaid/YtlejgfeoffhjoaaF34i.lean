/- Displays: what an update makes is a display; how many cells it changes. -/
import Derived.Test.YtlejgfeoffhjoaaFwLem
import Derived.Test.YtlejgfeoffhjoaaF34h
namespace Go.Proofs.Ytlejgfeoffhjoaa.D
open Go.Fw Go.RowKit

/-- Cells that may be shown. -/
def CellsIn (R C : Nat) (f g : Nat → Nat → UInt8) : Prop := ∀ a c, a < R → c < C → byIn 32 126 (f a c) = true ∧ byIn 48 55 (g a c) = true
theorem byIn_ofNat (lo hi n : Nat) (h : lo ≤ n ∧ n ≤ hi) (hh : hi < 256) : byIn lo hi (UInt8.ofNat n) = true := by
  unfold byIn
  rw [UInt8.toNat_ofNat', Nat.mod_eq_of_lt (by omega)]
  exact decide_eq_true h
section
variable {R C : Nat} {f g : Nat → Nat → UInt8} {i j row col n : Nat} {op : Int} {t : ByteArray}
theorem apF_in (hc : CellsIn R C f g) (hi : i < R) (hj : j < C) (hf : Fits R C op row col n t) :
    CellsIn R C (apF R C f g i j op row col n t).f (apF R C f g i j op row col n t).g ∧ (apF R C f g i j op row col n t).i < R ∧ (apF R C f g i j op row col n t).j < C := by
  unfold Fits at hf
  unfold apF
  by_cases h0 : op = 0
  · rw [if_pos h0]
    exact ⟨hc, by dsimp only; omega, by dsimp only; omega⟩
  rw [if_neg h0]
  by_cases h1 : op = 1
  · rw [if_pos h1]
    have hF : (1 ≤ t.size ∧ t.size ≤ 200) ∧ allB t 32 126 = true ∧ (0 ≤ (n : Int) ∧ (n : Int) ≤ 7) := by
      rcases hf with h | h | h
      · omega
      · exact h.2
      · omega
    obtain ⟨hF1, hF2, hF3⟩ := hF
    have hlt := cell_lt hi hj
    refine ⟨fun a c ha hcc => ?_, ?_, ?_⟩
    · have h := hc a c ha hcc
      dsimp only
      unfold tF
      rw [fillS_size]
      by_cases q : i * C + j ≤ a * C + c ∧ a * C + c < i * C + j + t.size
      · rw [if_pos q, if_pos q, fillS_at _ (by omega)]
        exact ⟨(allB_iff t 32 126).1 hF2 _ (by omega), byIn_ofNat 48 55 _ (by omega) (by omega)⟩
      · rw [if_neg q, if_neg q]
        exact h
    · dsimp only
      rw [Nat.div_lt_iff_lt_mul (by omega)]
      omega
    · dsimp only
      exact Nat.mod_lt _ (by omega)
  rw [if_neg h1]
  by_cases h2 : op = 2
  · rw [if_pos h2]
    refine ⟨fun a c ha hcc => ?_, hi, hj⟩
    have h := hc a c ha hcc
    dsimp only
    unfold putF
    rw [fillS_size, fillS_size]
    by_cases q : a = i ∧ j ≤ c ∧ c < j + (C - j)
    · rw [if_pos q, if_pos q, fillS_at _ (by omega), fillS_at _ (by omega)]
      exact ⟨rfl, rfl⟩
    · rw [if_neg q, if_neg q]
      exact h
  rw [if_neg h2]
  by_cases h3 : op = 3
  · rw [if_pos h3]
    exact ⟨fun a c _ _ => ⟨rfl, rfl⟩, by dsimp only; omega, by dsimp only; omega⟩
  rw [if_neg h3]
  by_cases h5 : op = 5
  · rw [if_pos h5]
    refine ⟨fun a c ha hcc => ?_, hi, hj⟩
    dsimp only
    unfold upF
    by_cases q : a + 1 < R
    · rw [if_pos q, if_pos q]
      exact hc _ c q hcc
    · rw [if_neg q, if_neg q]
      exact ⟨rfl, rfl⟩
  rw [if_neg h5]
  by_cases h6 : op = 6
  · rw [if_pos h6]
    refine ⟨fun a c ha hcc => ?_, hi, hj⟩
    have h := hc a c ha hcc
    dsimp only
    unfold fiF
    by_cases q : (i ≤ a ∧ a < i + row) ∧ j ≤ c ∧ c < j + col
    · rw [if_pos q, if_pos q]
      exact ⟨byIn_ofNat 32 126 _ (by omega) (by omega), rfl⟩
    · rw [if_neg q, if_neg q]
      exact h
  rw [if_neg h6]
  exact ⟨hc, hi, hj⟩
theorem good_of (hR : 1 ≤ R ∧ R ≤ 40) (hC : 1 ≤ C ∧ C ≤ 80) (hi : i < R) (hj : j < C) (hc : CellsIn R C f g) : Good (mkR R C f) (mkR R C g) i j := by
  have e0 : (rowAt (mkR R C f) 0).size = C := mkR_size (by omega)
  refine ⟨⟨by rw [mkR_len]; exact hR, by rw [mkR_len, mkR_len], by rw [e0]; exact hC, by rw [mkR_len]; omega, by rw [e0]; omega⟩, fun k hk => ?_⟩
  rw [mkR_len] at hk
  refine ⟨by rw [mkR_size hk, e0], by rw [mkR_size hk, e0], (allB_iff _ _ _).2 fun c hcc => ?_, (allB_iff _ _ _).2 fun c hcc => ?_⟩
  · rw [mkR_size hk] at hcc
    rw [mkR_at hk hcc]
    exact (hc k c hk hcc).1
  · rw [mkR_size hk] at hcc
    rw [mkR_at hk hcc]
    exact (hc k c hk hcc).2
end
theorem cells_of {r m : List ByteArray} {i j : Int} (h : Good r m i j) : CellsIn r.length (rowAt r 0).size (cellF r) (cellF m) := fun a c ha hc => by
  obtain ⟨h1, h2, h3, h4⟩ := h.2 a ha
  exact ⟨(allB_iff _ _ _).1 h3 c (by omega), (allB_iff _ _ _).1 h4 c (by omega)⟩
theorem fits_nat {R C : Nat} {op row col n : Int} {t : ByteArray} (h : Fits R C op row col n t) : Fits R C op row.toNat col.toNat n.toNat t := by
  unfold Fits at *
  rcases h with h | h | h | h | h
  · left; omega
  · right; left; exact ⟨h.1, h.2.1, h.2.2.1, by omega⟩
  · right; right; left; omega
  · right; right; right; left; omega
  · right; right; right; right; exact h
theorem ap_in {r m : List ByteArray} {i j op row col n : Int} {t : ByteArray} (h : ApOk r m i j op row col n t) :
    CellsIn r.length (rowAt r 0).size (apD r m i j op row col n t).f (apD r m i j op row col n t).g ∧ (apD r m i j op row col n t).i < r.length ∧ (apD r m i j op row col n t).j < (rowAt r 0).size := by
  obtain ⟨hg, hf⟩ := h
  have h4 := hg.1.2.2.2
  exact apF_in (cells_of hg) (by omega) (by omega) (fits_nat hf)
theorem ap_good {r m : List ByteArray} {i j op row col n : Int} {t : ByteArray} (h : ApOk r m i j op row col n t) :
    Good (mkR r.length (rowAt r 0).size (apD r m i j op row col n t).f) (mkR r.length (rowAt r 0).size (apD r m i j op row col n t).g) (apD r m i j op row col n t).i (apD r m i j op row col n t).j := by
  obtain ⟨h1, h2, h3⟩ := ap_in h
  obtain ⟨⟨g1, g2, g3, _⟩, _⟩ := h.1
  exact good_of g1 g3 h2 h3 h1

/-! ## how many cells -/
def cntC (h : Nat → Nat → Bool) (i : Nat) : Nat → Nat
  | 0 => 0
  | k + 1 => cntC h i k + (if h i k = true then 1 else 0)
def cnt (h : Nat → Nat → Bool) (C : Nat) : Nat → Nat
  | 0 => 0
  | k + 1 => cnt h C k + cntC h k C
theorem cnt_lin {h : Nat → Nat → Bool} {R C p0 len : Nat} (hh : ∀ a c, a < R → c < C → h a c = true → p0 ≤ a * C + c ∧ a * C + c < p0 + len) : ∀ k, k ≤ R → cnt h C k ≤ min (k * C - p0) len
  | 0, _ => by simp [cnt]
  | k + 1, hk => by
    have ih := cnt_lin hh k (by omega)
    have key : ∀ j, j ≤ C → cnt h C k + cntC h k j ≤ min (k * C + j - p0) len := fun j => by
      induction j with
      | zero => intro _; simpa [cntC] using ih
      | succ j ihj =>
        intro hj
        have h1 := ihj (by omega)
        rw [cntC]
        split
        · rename_i q
          have := hh k j (by omega) (by omega) q
          omega
        · omega
    have := key C (Nat.le_refl _)
    rw [cnt, Nat.succ_mul]
    exact this
theorem cnt_rect {h : Nat → Nat → Bool} {R C i0 j0 row col : Nat} (hh : ∀ a c, a < R → c < C → h a c = true → (i0 ≤ a ∧ a < i0 + row) ∧ j0 ≤ c ∧ c < j0 + col) : ∀ k, k ≤ R → cnt h C k ≤ min (k - i0) row * col
  | 0, _ => by simp [cnt]
  | k + 1, hk => by
    have ih := cnt_rect hh k (by omega)
    have key : ∀ j, j ≤ C → cntC h k j ≤ min (j - j0) col ∧ (¬ (i0 ≤ k ∧ k < i0 + row) → cntC h k j = 0) := fun j => by
      induction j with
      | zero => intro _; simp [cntC]
      | succ j ihj =>
        intro hj
        have h1 := ihj (by omega)
        rw [cntC]
        split
        · rename_i q
          have := hh k j (by omega) (by omega) q
          exact ⟨by omega, fun hn => absurd this.1 hn⟩
        · exact ⟨by omega, fun hn => by rw [h1.2 hn]⟩
    have h2 := key C (Nat.le_refl _)
    rw [cnt]
    by_cases q : i0 ≤ k ∧ k < i0 + row
    · have e : min (k + 1 - i0) row = min (k - i0) row + 1 := by omega
      rw [e, Nat.succ_mul]
      omega
    · have e : min (k + 1 - i0) row = min (k - i0) row := by omega
      rw [e, h2.2 q]
      exact ih
/-- Is a cell another one? -/
def chg (f g f' g' : Nat → Nat → UInt8) (a c : Nat) : Bool := cond (f' a c != f a c) true (g' a c != g a c)
end Go.Proofs.Ytlejgfeoffhjoaa.D
