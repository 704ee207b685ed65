/- What a spoilt byte does to the sum. -/
import Derived.Test.YthhlfddpacmhfaaFwSpoilt
namespace Go.Proofs.Ythhlfddpacmhfaa.Fw1
open Go.Fw Go.RowKit

theorem place_ok (b : ByteArray) (a : Int) (h0 : 0 < b.size) (hs : b.size ≤ 5000) : 0 ≤ place b a ∧ place b a < b.size := by
  have h1 := Int.tmod_lt_of_pos a (b := b.size) (by omega)
  have h2 := Int.lt_tmod_of_pos a (b := b.size) (by omega)
  unfold place
  rw [wrap_i64 _ (by omega) (by omega)]
  exact ⟨Int.tmod_nonneg _ (by omega), Int.tmod_lt_of_pos _ (by omega)⟩

def nb (x : UInt8) : UInt8 := UInt8.ofNat (IntKind.u8.wrap ((x.toNat : Int).tmod 255 + 1)).toNat
def nbOk (n : Nat) : Bool := (nb (UInt8.ofNat n)).toNat % 255 != n % 255
theorem nb_all : (List.range 256).all nbOk = true := by decide +kernel
theorem nb_ne (x : UInt8) : (nb x).toNat % 255 ≠ x.toNat % 255 := by
  have h := List.all_eq_true.1 nb_all x.toNat (by simpa using x.toNat_lt)
  simpa [nbOk] using h

def tot : List UInt8 → Nat
  | [] => 0
  | x :: r => x.toNat + tot r
theorem tot_append (l m : List UInt8) : tot (l ++ m) = tot l + tot m := by
  induction l with
  | nil => simp [tot]
  | cons x r ih => simp only [List.cons_append, tot, ih]; omega
theorem tot_set (l : List UInt8) (j : Nat) (y : UInt8) (hj : j < l.length) : tot (l.set j y) + (l.getD j 0).toNat = tot l + y.toNat := by
  induction l generalizing j with
  | nil => simp at hj
  | cons x r ih =>
    cases j with
    | zero => simp [tot]; omega
    | succ j =>
      have := ih j (by simpa using hj)
      simp only [List.set_cons_succ, tot, List.getD_cons_succ]
      omega

def u8Ok (n : Nat) : Bool := IntKind.u8.wrap (n : Int) == (n : Int)
theorem u8_list : (List.range 256).all u8Ok = true := by decide +kernel
theorem u8_all (n : Nat) (h : n < 256) : IntKind.u8.wrap (n : Int) = (n : Int) := by
  have := List.all_eq_true.1 u8_list n (by simpa using h)
  simpa [u8Ok] using this

theorem sumAt_tot (b : ByteArray) : ∀ i, i ≤ b.size → (sumAt b i).1 = ((tot (b.data.toList.take i) % 255 : Nat) : Int)
  | 0, _ => rfl
  | i + 1, hi => by
    have ih := sumAt_tot b i (by omega)
    have hl : i < b.data.toList.length := by rw [Array.length_toList]; exact hi
    have hx : (byteAt b i).toNat < 256 := (byteAt b i).toNat_lt
    simp only [sumAt]
    have hw : IntKind.i64.wrap ((byteAt b i).toNat : Int) = ((byteAt b i).toNat : Int) := wrap_i64 _ (by omega) (by omega)
    rw [ih, hw, wrap_i64 _ (by omega) (by omega), Int.tmod_eq_emod_of_nonneg (by omega)]
    have ht : b.data.toList.take (i + 1) = b.data.toList.take i ++ [byteAt b i] := by
      rw [List.take_add_one, byteAt, List.getD_eq_getElem?_getD, List.getElem?_eq_getElem hl]
      rfl
    rw [ht, tot_append]
    simp only [tot]
    omega

theorem sum_first (b : ByteArray) : (sumS b).data.toList = [UInt8.ofNat (tot b.data.toList % 255), UInt8.ofNat (IntKind.u8.wrap (sumAt b b.size).2).toNat] := by
  have h := sumAt_tot b b.size (Nat.le_refl _)
  have hl : b.data.toList.take b.size = b.data.toList := List.take_of_length_le (by rw [Array.length_toList]; exact Nat.le_refl _)
  rw [hl] at h
  have hw : IntKind.u8.wrap (sumAt b b.size).1 = (sumAt b b.size).1 := by
    rw [h]
    have hb : tot b.data.toList % 255 < 256 := by omega
    have := u8_all (tot b.data.toList % 255) hb
    exact this
  simp only [sumS]
  rw [hw, h]
  rfl

/-- Sums of one and the same first byte: the totals agree mod 255. -/
theorem sum_tot {b c : ByteArray} (h : (sumS b).data.toList = (sumS c).data.toList) : tot b.data.toList % 255 = tot c.data.toList % 255 := by
  rw [sum_first, sum_first] at h
  injection h with h1 _
  have := congrArg UInt8.toNat h1
  simp only [UInt8.toNat_ofNat'] at this
  omega
end Go.Proofs.Ythhlfddpacmhfaa.Fw1
