/- The law BitsSpoilt, for every string and int. -/
import Derived.Test.YthhlfddpacmhfaaFwFacts
import Derived.WideShapes
namespace Go.Proofs.Ythhlfddpacmhfaa.Fw1
open Go.Fw Go.RowKit

theorem spoilt_list (b : ByteArray) (a : Int) : (spoilt b a).data.toList = b.data.toList.set (place b a).toNat (nb (b.data.toList.getD (place b a).toNat 0)) := rfl
theorem spoilt_size (b : ByteArray) (a : Int) : (spoilt b a).size = b.size := by
  show (List.set _ _ _).toArray.size = b.data.size
  simp
theorem set_tot (l : List UInt8) (j : Nat) (hj : j < l.length) : tot (l.set j (nb (l.getD j 0))) % 255 ≠ tot l % 255 := by
  have h1 := tot_set l j (nb (l.getD j 0)) hj
  have h2 := nb_ne (l.getD j 0)
  omega

theorem eq_of {a b : ByteArray} (h : (a.toList == b.toList) = true) : a.data.toList = b.data.toList := by
  rw [ByteArray.toList_eq, ByteArray.toList_eq] at h
  simpa using h

theorem differ {x y : ByteArray} (h : x.data.toList ≠ y.data.toList) : (x.toList == y.toList) = false := by
  cases hb : (x.toList == y.toList) with
  | false => rfl
  | true => exact absurd (eq_of hb) h

theorem rest_ne (b : ByteArray) (a : Int) (h0 : 0 < b.size) (hs : b.size ≤ 4000) :
    (sumS ((spoilt (b ++ sumS b) a).extract 0 b.size)).data.toList ≠ ((spoilt (b ++ sumS b) a).extract b.size (spoilt (b ++ sumS b) a).size).data.toList := by
  intro h
  have hsz : (b ++ sumS b).size = b.size + 2 := by rw [ByteArray.size_append]; rfl
  obtain ⟨p0, p1⟩ := place_ok (b ++ sumS b) a (by omega) (by omega)
  have hl : b.data.toList.length = b.size := Array.length_toList
  have hS : (sumS b).data.toList.length = 2 := rfl
  have hws : (spoilt (b ++ sumS b) a).size = b.size + 2 := by rw [spoilt_size, hsz]
  have hw := spoilt_list (b ++ sumS b) a
  have happ : (b ++ sumS b).data.toList = b.data.toList ++ (sumS b).data.toList := by simp
  rw [happ] at hw
  generalize hJ : (place (b ++ sumS b) a).toNat = J at hw
  have hJ2 : J < b.size + 2 := by omega
  have e1 : ((spoilt (b ++ sumS b) a).extract 0 b.size).data.toList = (spoilt (b ++ sumS b) a).data.toList.take b.size := by
    simp [ByteArray.data_extract]
  have e2 : ((spoilt (b ++ sumS b) a).extract b.size (spoilt (b ++ sumS b) a).size).data.toList = (spoilt (b ++ sumS b) a).data.toList.drop b.size := by
    rw [hws, ByteArray.data_extract, Array.toList_extract]
    simp only [List.extract]
    rw [List.take_of_length_le]
    rw [List.length_drop, hw, List.length_set, List.length_append, hl, hS]
    omega
  rw [e2] at h
  by_cases hj : J < b.size
  · have hset : (b.data.toList ++ (sumS b).data.toList).set J (nb ((b.data.toList ++ (sumS b).data.toList).getD J 0)) = b.data.toList.set J (nb (b.data.toList.getD J 0)) ++ (sumS b).data.toList := by
      rw [List.set_append_left _ _ (by omega)]
      congr 3
      rw [List.getD_eq_getElem?_getD, List.getD_eq_getElem?_getD, List.getElem?_append_left (by omega)]
    rw [hset] at hw
    have hd : (spoilt (b ++ sumS b) a).data.toList.drop b.size = (sumS b).data.toList := by
      rw [hw, List.drop_append_of_le_length (by rw [List.length_set]; omega), List.drop_of_length_le (by rw [List.length_set]; omega), List.nil_append]
    have ht : (spoilt (b ++ sumS b) a).data.toList.take b.size = b.data.toList.set J (nb (b.data.toList.getD J 0)) := by
      rw [hw, List.take_append_of_le_length (by rw [List.length_set]; omega), List.take_of_length_le (by rw [List.length_set]; omega)]
    rw [hd] at h
    have := sum_tot h
    rw [e1, ht] at this
    exact set_tot _ J (by omega) this
  · have hset : (b.data.toList ++ (sumS b).data.toList).set J (nb ((b.data.toList ++ (sumS b).data.toList).getD J 0)) = b.data.toList ++ (sumS b).data.toList.set (J - b.size) (nb ((sumS b).data.toList.getD (J - b.size) 0)) := by
      rw [List.set_append_right _ _ (by omega), hl]
      congr 3
      rw [List.getD_eq_getElem?_getD, List.getD_eq_getElem?_getD, List.getElem?_append_right (by omega), hl]
    rw [hset] at hw
    have hd : (spoilt (b ++ sumS b) a).data.toList.drop b.size = (sumS b).data.toList.set (J - b.size) (nb ((sumS b).data.toList.getD (J - b.size) 0)) := by
      rw [hw, List.drop_append_of_le_length (by omega), List.drop_of_length_le (by omega), List.nil_append]
    have ht : (spoilt (b ++ sumS b) a).data.toList.take b.size = b.data.toList := by
      rw [hw, List.take_append_of_le_length (by omega), List.take_of_length_le (by omega)]
    have hb : (spoilt (b ++ sumS b) a).extract 0 b.size = b := Go.WideShapes.bytes_inj (e1.trans ht)
    rw [hd, hb] at h
    have h1 := set_tot (sumS b).data.toList (J - b.size) (by omega)
    rw [← h] at h1
    exact h1 rfl

theorem law (b : ByteArray) (a : Int) : WpCall E 4 [.string b, .int .i64 a] Heap.none fun v _ => v = .bool true := by
  cases hb : (ByteArray.toList b == ByteArray.toList (ByteArray.mk #[])) with
  | true => exact law_none b a hb
  | false =>
    cases hl : decide ((b.size : Int) > 4000) with
    | true => exact law_long b a hb hl
    | false =>
      have hs : b.size ≤ 4000 := by
        have := of_decide_eq_false hl
        omega
      have h0 : 0 < b.size := by
        rcases Nat.eq_zero_or_pos b.size with h | h
        · exfalso
          have : b = ByteArray.mk #[] := Go.WideShapes.bytes_inj (by
            have : b.data.toList.length = 0 := by rw [Array.length_toList]; exact h
            rw [List.eq_nil_of_length_eq_zero this])
          rw [this] at hb
          simp at hb
        · exact h
      have hsz : (b ++ sumS b).size = b.size + 2 := by rw [ByteArray.size_append]; rfl
      obtain ⟨p0, p1⟩ := place_ok b a h0 (by omega)
      obtain ⟨q0, q1⟩ := place_ok (b ++ sumS b) a (by omega) (by omega)
      have hl1 : (place b a).toNat < b.data.toList.length := by
        have : b.data.toList.length = b.size := Array.length_toList
        omega
      have ht := set_tot b.data.toList (place b a).toNat hl1
      have hws : (spoilt (b ++ sumS b) a).size = b.size + 2 := by rw [spoilt_size, hsz]
      have hne2 : ((b ++ sumS b).toList == ByteArray.toList (ByteArray.mk #[])) = false := differ (by
        intro h
        have h2 : (b ++ sumS b).data.toList.length = 0 := by rw [h]; rfl
        rw [Array.length_toList] at h2
        have e : (b ++ sumS b).data.size = (b ++ sumS b).size := rfl
        omega)
      refine law_in b a hb hl (spoilt b a) (spoilt (b ++ sumS b) a) (sum b hs) (spoil b a hb p0 p1) (by rw [spoilt_size]; simp) ?_ (sum _ (by rw [spoilt_size]; exact hs)) ?_ ?_ (spoil _ a hne2 q0 q1) ?_ ?_ (sum _ ?_) ?_
      · exact differ fun h => ht (by rw [← spoilt_list, h])
      · exact differ fun h => ht (by rw [← spoilt_list]; exact sum_tot h)
      · have : (sumS b).size = 2 := rfl
        rw [this]
        omega
      · rw [hws, wrap_i64 _ (by omega) (by omega)]
        simp
      · omega
      · rw [ByteArray.size_extract, show (b.size : Int).toNat = b.size by omega]
        exact Nat.le_trans (Nat.sub_le _ _) (Nat.le_trans (Nat.min_le_left _ _) hs)
      · have := rest_ne b a h0 hs
        rw [show (b.size : Int).toNat = b.size by omega, differ this]
        rfl

/-- The walk of the law. -/
theorem walk (a0 : ByteArray) (a1 : Int) (w : World) : Calls Try.prog 4 #[.string a0, .int .i64 a1] w fun e w' => e = .returned (.bool true) ∧ Below w.heap.size w w' := by
  have := (law a0 a1).calls okE (μ := fun _ => (0, 0)) (base := w.heap.size) (w := w) (args' := #[.string a0, .int .i64 a1]) (Rel.none _ _) (Nat.le_refl _) (.cons (.string _) (.cons (.int _ _) .nil))
  refine this.mono fun e w' hh => ?_
  obtain ⟨v, h', v', μ', rfl, rfl, _, _, hb, hv⟩ := hh
  exact ⟨by rw [hv.inv_bool], hb⟩
end Go.Proofs.Ythhlfddpacmhfaa.Fw1
