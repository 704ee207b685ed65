/- Bytes of strings, their sums, and spoilt ones. -/
import Derived.Test.YtlejgfeoffhjoaaFwLem
import Derived.Laws.Strings
namespace Go.Fw
open Go.RowKit
theorem wr (z : Int) (h0 : 0 ≤ z) (h1 : z ≤ 9223372036854775807) : IntKind.i64.wrap z = z := wrap_i64 z h0 h1
def byteAt (b : ByteArray) (i : Nat) : UInt8 := b.data.toList.getD i 0
def sumAt (b : ByteArray) : Nat → Int × Int
  | 0 => (0, 0)
  | i + 1 => (((IntKind.i64.wrap ((sumAt b i).1 + IntKind.i64.wrap ((byteAt b i).toNat : Int))).tmod 255), (IntKind.i64.wrap ((sumAt b i).2 + ((IntKind.i64.wrap ((sumAt b i).1 + IntKind.i64.wrap ((byteAt b i).toNat : Int))).tmod 255))).tmod 255)
def sumS (b : ByteArray) : ByteArray := ⟨#[UInt8.ofNat (IntKind.u8.wrap (sumAt b b.size).1).toNat, UInt8.ofNat (IntKind.u8.wrap (sumAt b b.size).2).toNat]⟩
theorem byteCells_flat (b : ByteArray) : (byteCells b).all flat = true := by
  rw [List.all_eq_true]
  intro v hv
  obtain ⟨x, _, rfl⟩ := List.mem_map.1 hv
  rfl
theorem byteAt_get (b : ByteArray) (i : Nat) (hi : i < b.size) : b.data.toList[i]? = some (byteAt b i) := by
  have : i < b.data.toList.length := by rw [Array.length_toList]; exact hi
  rw [byteAt, List.getD_eq_getElem?_getD, List.getElem?_eq_getElem this]
  rfl
theorem byteCells_at (b : ByteArray) (i : Nat) (hi : i < b.size) : (byteCells b)[0 + ((i : Int)).toNat * 1]? = some (.int .u8 ((byteAt b i).toNat : Int)) := by
  rw [Int.toNat_natCast, Nat.mul_one, Nat.zero_add, byteCells, List.getElem?_map, byteAt_get b i hi]
  rfl
theorem byte_get (b : ByteArray) (i : Nat) (hi : i < b.size) : b[(i : Int).toNat]? = some (byteAt b i) := by
  have e : (i : Int).toNat = i := by omega
  rw [e, ← byteAt_get b i hi, Array.getElem?_toList]
  rfl
def nb (x : UInt8) : UInt8 := UInt8.ofNat (IntKind.u8.wrap ((x.toNat : Int).tmod 255 + 1)).toNat
def nbOk (n : Nat) : Bool := (nb (UInt8.ofNat n)).toNat % 255 != n % 255
theorem nb_all : (List.range 256).all nbOk = true := by decide +kernel
theorem nb_ne (x : UInt8) : (nb x).toNat % 255 ≠ x.toNat % 255 := by
  have h := List.all_eq_true.1 nb_all x.toNat (by simpa using x.toNat_lt)
  simpa [nbOk] using h
def tot : List UInt8 → Nat
  | [] => 0
  | x :: r => x.toNat + tot r
theorem tot_append (l m : List UInt8) : tot (l ++ m) = tot l + tot m := by
  induction l with
  | nil => simp [tot]
  | cons x r ih => simp only [List.cons_append, tot, ih]; omega
theorem tot_set (l : List UInt8) (j : Nat) (y : UInt8) (hj : j < l.length) : tot (l.set j y) + (l.getD j 0).toNat = tot l + y.toNat := by
  induction l generalizing j with
  | nil => simp at hj
  | cons x r ih =>
    cases j with
    | zero => simp [tot]; omega
    | succ j =>
      have := ih j (by simpa using hj)
      simp only [List.set_cons_succ, tot, List.getD_cons_succ]
      omega
def u8Ok (n : Nat) : Bool := IntKind.u8.wrap (n : Int) == (n : Int)
theorem u8_list : (List.range 256).all u8Ok = true := by decide +kernel
theorem u8_all (n : Nat) (h : n < 256) : IntKind.u8.wrap (n : Int) = (n : Int) := by
  have := List.all_eq_true.1 u8_list n (by simpa using h)
  simpa [u8Ok] using this
theorem sumAt_tot (b : ByteArray) : ∀ i, i ≤ b.size → (sumAt b i).1 = ((tot (b.data.toList.take i) % 255 : Nat) : Int)
  | 0, _ => rfl
  | i + 1, hi => by
    have ih := sumAt_tot b i (by omega)
    have hl : i < b.data.toList.length := by rw [Array.length_toList]; exact hi
    have hx : (byteAt b i).toNat < 256 := (byteAt b i).toNat_lt
    simp only [sumAt]
    have hw : IntKind.i64.wrap ((byteAt b i).toNat : Int) = ((byteAt b i).toNat : Int) := wrap_i64 _ (by omega) (by omega)
    rw [ih, hw, wrap_i64 _ (by omega) (by omega), Int.tmod_eq_emod_of_nonneg (by omega)]
    have ht : b.data.toList.take (i + 1) = b.data.toList.take i ++ [byteAt b i] := by
      rw [List.take_add_one, byteAt, List.getD_eq_getElem?_getD, List.getElem?_eq_getElem hl]
      rfl
    rw [ht, tot_append]
    simp only [tot]
    omega
theorem sum_first (b : ByteArray) : (sumS b).data.toList = [UInt8.ofNat (tot b.data.toList % 255), UInt8.ofNat (IntKind.u8.wrap (sumAt b b.size).2).toNat] := by
  have h := sumAt_tot b b.size (Nat.le_refl _)
  have hl : b.data.toList.take b.size = b.data.toList := List.take_of_length_le (by rw [Array.length_toList]; exact Nat.le_refl _)
  rw [hl] at h
  have hw : IntKind.u8.wrap (sumAt b b.size).1 = (sumAt b b.size).1 := by
    rw [h]
    have hb : tot b.data.toList % 255 < 256 := by omega
    have := u8_all (tot b.data.toList % 255) hb
    exact this
  simp only [sumS]
  rw [hw, h]
  rfl
theorem sum_tot {b c : ByteArray} (h : (sumS b).data.toList = (sumS c).data.toList) : tot b.data.toList % 255 = tot c.data.toList % 255 := by
  rw [sum_first, sum_first] at h
  injection h with h1 _
  have := congrArg UInt8.toNat h1
  simp only [UInt8.toNat_ofNat'] at this
  omega
theorem set_tot (l : List UInt8) (j : Nat) (hj : j < l.length) : tot (l.set j (nb (l.getD j 0))) % 255 ≠ tot l % 255 := by
  have h1 := tot_set l j (nb (l.getD j 0)) hj
  have h2 := nb_ne (l.getD j 0)
  omega
def spo (b : ByteArray) (j : Nat) : ByteArray := (b.extract 0 j ++ ⟨#[nb (byteAt b j)]⟩) ++ b.extract (j + 1) b.size
theorem spo_list (b : ByteArray) (j : Nat) (hj : j < b.size) : (spo b j).data.toList = b.data.toList.set j (nb (b.data.toList.getD j 0)) := by
  have hl : b.data.toList.length = b.size := Array.length_toList
  unfold spo
  rw [ByteArray.data_append, ByteArray.data_append, Array.toList_append, Array.toList_append, ByteArray.data_extract, ByteArray.data_extract, Array.toList_extract, Array.toList_extract, List.extract_eq_take_drop, List.extract_eq_take_drop, List.set_eq_take_append_cons_drop, if_pos (by omega), Nat.sub_zero, List.drop_zero, List.append_assoc]
  congr 1
  show nb (byteAt b j) :: List.take _ _ = _
  congr 1
  exact List.take_of_length_le (by rw [List.length_drop, hl]; exact Nat.le_refl _)
theorem spo_size (b : ByteArray) (j : Nat) (hj : j < b.size) : (spo b j).size = b.size := by
  have h := congrArg List.length (spo_list b j hj)
  rw [List.length_set, Array.length_toList, Array.length_toList] at h
  exact h
def modN (x : Int) (n : Nat) : Int := if x.tmod n < 0 then x.tmod n + n else x.tmod n
theorem modN_in (x : Int) (n : Nat) (hn : 0 < n) : 0 ≤ modN x n ∧ modN x n < n := by
  have h1 := Int.tmod_lt_of_pos x (b := n) (by omega)
  have h2 := Int.lt_tmod_of_pos x (b := n) (by omega)
  unfold modN
  split <;> omega
theorem cells_whole (cs : List Value) (n : Nat) (h : cs.length = n) : cellsAt cs 0 n = some cs := by
  subst h
  simp only [cellsAt, Nat.zero_add, Nat.le_refl, if_true, List.drop_zero, List.take_length]
theorem ints_flat (l : List Int) : (l.map fun n => Value.int .i64 n).all flat = true := by
  rw [List.all_eq_true]
  intro v hv
  obtain ⟨n, _, rfl⟩ := List.mem_map.1 hv
  rfl
theorem cellBytes_byte (b : ByteArray) : cellBytes (byteCells b) = some b.data.toList := by
  have : ∀ l : List UInt8, cellBytes (l.map fun b => Value.int .u8 b.toNat) = some l := by
    intro l
    induction l with
    | nil => rfl
    | cons x r ih =>
      simp only [List.map_cons, cellBytes, ih, cellByte, Int.toNat_natCast, UInt8.ofNat_toNat]
  exact this _
theorem u8c (n : Int) (k : Nat) (h0 : 0 ≤ n) (h : n.toNat % 256 = k % 256) : IntKind.u8.wrap n = (UInt8.ofNat k).toNat := by
  obtain ⟨m, rfl⟩ : ∃ m : Nat, n = m := ⟨n.toNat, by omega⟩
  rw [UInt8.toNat_ofNat']
  show (((BitVec.ofInt 8 (m : Int)).toNat : Nat) : Int) = _
  rw [BitVec.ofInt_natCast, BitVec.toNat_ofNat]
  omega
def summed (b : ByteArray) : ByteArray := b ++ sumS b
theorem summed_size (b : ByteArray) : (summed b).size = b.size + 2 := by
  rw [summed, ByteArray.size_append]
  rfl
theorem ext_left (x y : ByteArray) : (x ++ y).extract 0 x.size = x := by
  apply ByteArray.ext
  rw [ByteArray.data_extract, ByteArray.data_append]
  exact Array.extract_append_left.trans Array.extract_size
theorem ext_right (x y : ByteArray) : (x ++ y).extract x.size (x.size + y.size) = y := by
  apply ByteArray.ext
  rw [ByteArray.data_extract, ByteArray.data_append]
  exact Array.extract_append_right.trans Array.extract_size
def sumOk (b : ByteArray) : Bool := (sumS (b.extract 0 (b.size - 2))).toList == (b.extract (b.size - 2) b.size).toList
theorem str_eq {a b : ByteArray} (h : (a.toList == b.toList) = true) : a = b := by
  have := eq_of_beq h
  rw [ByteArray.toList_eq, ByteArray.toList_eq] at this
  exact ByteArray.ext (Array.toList_inj.1 this)
theorem str_ne {a b : ByteArray} (h : a ≠ b) : (a.toList == b.toList) = false := by
  cases hk : (a.toList == b.toList) with
  | false => rfl
  | true => exact absurd (str_eq hk) h
theorem str_beq (a b : ByteArray) : (a.toList == b.toList) = decide (a = b) := by
  by_cases h : a = b
  · subst h; simp
  · rw [str_ne h, decide_eq_false h]
theorem summed_ok (b : ByteArray) : sumOk (summed b) = true := by
  have h : (summed b).size - 2 = b.size := by rw [summed_size]; omega
  have h2 : (summed b).size = b.size + (sumS b).size := summed_size b
  rw [sumOk, h, h2, summed, ext_left, ext_right]
  exact beq_self_eq_true _
theorem join_ext (b : ByteArray) (n : Nat) (h : n ≤ b.size) : b.extract 0 n ++ b.extract n b.size = b := by
  apply ByteArray.ext
  rw [ByteArray.data_append, ByteArray.data_extract, ByteArray.data_extract, Array.extract_append_extract]
  have e3 : min 0 n = 0 := by omega
  have e4 : max n b.size = b.size := by omega
  rw [e3, e4]
  exact Array.extract_size
theorem summed_of {b : ByteArray} (h : sumOk b = true) : summed (b.extract 0 (b.size - 2)) = b := by
  unfold sumOk at h
  rw [summed, str_eq h]
  exact join_ext b _ (by omega)
theorem spoilt_sum (c : ByteArray) (j : Nat) (hj : j < (summed c).size) : sumOk (spo (summed c) j) = false := by
  have hz := spo_size (summed c) j hj
  have hw := summed_size c
  cases hk : sumOk (spo (summed c) j) with
  | false => rfl
  | true =>
    exfalso
    unfold sumOk at hk
    have hk := eq_of_beq hk
    rw [ByteArray.toList_eq, ByteArray.toList_eq, hz] at hk
    have hl : (summed c).data.toList = c.data.toList ++ (sumS c).data.toList := by rw [summed, ByteArray.data_append, Array.toList_append]
    have hbl : c.data.toList.length = (summed c).size - 2 := by
      rw [Array.length_toList]
      show c.size = _
      omega
    have e2 : ((spo (summed c) j).extract ((summed c).size - 2) (summed c).size).data.toList = ((summed c).data.toList.set j (nb ((summed c).data.toList.getD j 0))).drop ((summed c).size - 2) := by
      rw [ByteArray.data_extract, Array.toList_extract, List.extract_eq_take_drop, spo_list _ _ hj]
      exact List.take_of_length_le (by rw [List.length_drop, List.length_set, Array.length_toList]; exact Nat.le_refl _)
    have e1 : ((spo (summed c) j).extract 0 ((summed c).size - 2)).data.toList = ((summed c).data.toList.set j (nb ((summed c).data.toList.getD j 0))).take ((summed c).size - 2) := by
      rw [ByteArray.data_extract, Array.toList_extract, List.extract_eq_take_drop, spo_list _ _ hj, List.drop_zero, Nat.sub_zero]
    rw [e2] at hk
    by_cases h : j < (summed c).size - 2
    · have g1 : (summed c).data.toList.getD j 0 = c.data.toList.getD j 0 := by
        rw [hl, List.getD_eq_getElem?_getD, List.getElem?_append_left (by omega), ← List.getD_eq_getElem?_getD]
      have g2 : (summed c).data.toList.set j (nb ((summed c).data.toList.getD j 0)) = c.data.toList.set j (nb (c.data.toList.getD j 0)) ++ (sumS c).data.toList := by
        rw [g1, hl, List.set_append, if_pos (by omega)]
      rw [g2, List.take_left' (by rw [List.length_set]; exact hbl)] at e1
      rw [g2, List.drop_left' (by rw [List.length_set]; exact hbl)] at hk
      have := sum_tot hk
      rw [e1] at this
      exact set_tot _ j (by omega) this
    · have g2 : ((summed c).data.toList.set j (nb ((summed c).data.toList.getD j 0))).take ((summed c).size - 2) = c.data.toList := by
        rw [List.take_set_of_le (by omega), hl, List.take_left' hbl]
      rw [g2] at e1
      have e3 : (spo (summed c) j).extract 0 ((summed c).size - 2) = c := ByteArray.ext (Array.toList_inj.1 e1)
      rw [e3] at hk
      have hd : (summed c).data.toList.drop ((summed c).size - 2) = (sumS c).data.toList := by rw [hl, List.drop_left' hbl]
      rw [← hd] at hk
      have := congrArg (fun l => l[j - ((summed c).size - 2)]?) hk
      simp only [List.getElem?_drop] at this
      have hlen : (summed c).data.toList.length = (summed c).size := Array.length_toList
      have ej : (summed c).size - 2 + (j - ((summed c).size - 2)) = j := by omega
      rw [ej, List.getElem?_set_self (by omega), List.getElem?_eq_getElem (by omega)] at this
      have h1 := Option.some.inj this
      have h2 := nb_ne ((summed c).data.toList.getD j 0)
      rw [← h1, List.getD_eq_getElem?_getD, List.getElem?_eq_getElem (by omega)] at h2
      exact h2 rfl
end Go.Fw
