/- The law DatagramSpoilt. -/
import Derived.Test.YtpkkcpglbjbgfaaFwLem
import Derived.Test.YtpkkcpglbjbgfaaF14u
namespace Go.Proofs.Ytpkkcpglbjbgfaa.D
open Go.Fw Go.RowKit

/-! ## the sum of a spoilt string -/
def nb (x : UInt8) : UInt8 := UInt8.ofNat (IntKind.u8.wrap ((x.toNat : Int).tmod 255 + 1)).toNat
def nbOk (n : Nat) : Bool := (nb (UInt8.ofNat n)).toNat % 255 != n % 255
theorem nb_all : (List.range 256).all nbOk = true := by decide +kernel
theorem nb_ne (x : UInt8) : (nb x).toNat % 255 ≠ x.toNat % 255 := by
  have h := List.all_eq_true.1 nb_all x.toNat (by simpa using x.toNat_lt)
  simpa [nbOk] using h
def tot : List UInt8 → Nat
  | [] => 0
  | x :: r => x.toNat + tot r
theorem tot_append (l m : List UInt8) : tot (l ++ m) = tot l + tot m := by
  induction l with
  | nil => simp [tot]
  | cons x r ih => simp only [List.cons_append, tot, ih]; omega
theorem tot_set (l : List UInt8) (j : Nat) (y : UInt8) (hj : j < l.length) : tot (l.set j y) + (l.getD j 0).toNat = tot l + y.toNat := by
  induction l generalizing j with
  | nil => simp at hj
  | cons x r ih =>
    cases j with
    | zero => simp [tot]; omega
    | succ j =>
      have := ih j (by simpa using hj)
      simp only [List.set_cons_succ, tot, List.getD_cons_succ]
      omega
def u8Ok (n : Nat) : Bool := IntKind.u8.wrap (n : Int) == (n : Int)
theorem u8_list : (List.range 256).all u8Ok = true := by decide +kernel
theorem u8_all (n : Nat) (h : n < 256) : IntKind.u8.wrap (n : Int) = (n : Int) := by
  have := List.all_eq_true.1 u8_list n (by simpa using h)
  simpa [u8Ok] using this
theorem sumAt_tot (b : ByteArray) : ∀ i, i ≤ b.size → (sumAt b i).1 = ((tot (b.data.toList.take i) % 255 : Nat) : Int)
  | 0, _ => rfl
  | i + 1, hi => by
    have ih := sumAt_tot b i (by omega)
    have hl : i < b.data.toList.length := by rw [Array.length_toList]; exact hi
    have hx : (byteAt b i).toNat < 256 := (byteAt b i).toNat_lt
    simp only [sumAt]
    have hw : IntKind.i64.wrap ((byteAt b i).toNat : Int) = ((byteAt b i).toNat : Int) := wrap_i64 _ (by omega) (by omega)
    rw [ih, hw, wrap_i64 _ (by omega) (by omega), Int.tmod_eq_emod_of_nonneg (by omega)]
    have ht : b.data.toList.take (i + 1) = b.data.toList.take i ++ [byteAt b i] := by
      rw [List.take_add_one, byteAt, List.getD_eq_getElem?_getD, List.getElem?_eq_getElem hl]
      rfl
    rw [ht, tot_append]
    simp only [tot]
    omega
theorem sum_first (b : ByteArray) : (sumS b).data.toList = [UInt8.ofNat (tot b.data.toList % 255), UInt8.ofNat (IntKind.u8.wrap (sumAt b b.size).2).toNat] := by
  have h := sumAt_tot b b.size (Nat.le_refl _)
  have hl : b.data.toList.take b.size = b.data.toList := List.take_of_length_le (by rw [Array.length_toList]; exact Nat.le_refl _)
  rw [hl] at h
  have hw : IntKind.u8.wrap (sumAt b b.size).1 = (sumAt b b.size).1 := by
    rw [h]
    have hb : tot b.data.toList % 255 < 256 := by omega
    have := u8_all (tot b.data.toList % 255) hb
    exact this
  simp only [sumS]
  rw [hw, h]
  rfl
theorem sum_tot {b c : ByteArray} (h : (sumS b).data.toList = (sumS c).data.toList) : tot b.data.toList % 255 = tot c.data.toList % 255 := by
  rw [sum_first, sum_first] at h
  injection h with h1 _
  have := congrArg UInt8.toNat h1
  simp only [UInt8.toNat_ofNat'] at this
  omega
theorem set_tot (l : List UInt8) (j : Nat) (hj : j < l.length) : tot (l.set j (nb (l.getD j 0))) % 255 ≠ tot l % 255 := by
  have h1 := tot_set l j (nb (l.getD j 0)) hj
  have h2 := nb_ne (l.getD j 0)
  omega
/-- A string with a spoilt byte. -/
def spo (b : ByteArray) (j : Nat) : ByteArray := (b.extract 0 j ++ ⟨#[nb (byteAt b j)]⟩) ++ b.extract (j + 1) b.size
theorem spo_list (b : ByteArray) (j : Nat) (hj : j < b.size) : (spo b j).data.toList = b.data.toList.set j (nb (b.data.toList.getD j 0)) := by
  have hl : b.data.toList.length = b.size := Array.length_toList
  unfold spo
  rw [ByteArray.data_append, ByteArray.data_append, Array.toList_append, Array.toList_append, ByteArray.data_extract, ByteArray.data_extract, Array.toList_extract, Array.toList_extract, List.extract_eq_take_drop, List.extract_eq_take_drop, List.set_eq_take_append_cons_drop, if_pos (by omega), Nat.sub_zero, List.drop_zero, List.append_assoc]
  congr 1
  show nb (byteAt b j) :: List.take _ _ = _
  congr 1
  exact List.take_of_length_le (by rw [List.length_drop, hl]; exact Nat.le_refl _)
theorem spo_size (b : ByteArray) (j : Nat) (hj : j < b.size) : (spo b j).size = b.size := by
  have h := congrArg List.length (spo_list b j hj)
  rw [List.length_set, Array.length_toList, Array.length_toList] at h
  exact h
theorem spoilt_sum (g : Gr) (j : Nat) (hj : j < (wrt g).size) : sumOk (spo (wrt g) j) = false := by
  have hz := spo_size (wrt g) j hj
  have hs := body_size g
  have hw := wrt_size g
  cases hk : sumOk (spo (wrt g) j) with
  | false => rfl
  | true =>
    exfalso
    unfold sumOk at hk
    have hk := eq_of_beq hk
    rw [ByteArray.toList_eq, ByteArray.toList_eq, hz] at hk
    have hl : (wrt g).data.toList = (body g).data.toList ++ (sumS (body g)).data.toList := by rw [wrt, ByteArray.data_append, Array.toList_append]
    have hbl : (body g).data.toList.length = (wrt g).size - 2 := by
      rw [Array.length_toList]
      show (body g).size = _
      omega
    have e2 : ((spo (wrt g) j).extract ((wrt g).size - 2) (wrt g).size).data.toList = ((wrt g).data.toList.set j (nb ((wrt g).data.toList.getD j 0))).drop ((wrt g).size - 2) := by
      rw [ByteArray.data_extract, Array.toList_extract, List.extract_eq_take_drop, spo_list _ _ hj]
      exact List.take_of_length_le (by rw [List.length_drop, List.length_set, Array.length_toList]; exact Nat.le_refl _)
    have e1 : ((spo (wrt g) j).extract 0 ((wrt g).size - 2)).data.toList = ((wrt g).data.toList.set j (nb ((wrt g).data.toList.getD j 0))).take ((wrt g).size - 2) := by
      rw [ByteArray.data_extract, Array.toList_extract, List.extract_eq_take_drop, spo_list _ _ hj, List.drop_zero, Nat.sub_zero]
    rw [e2] at hk
    by_cases h : j < (wrt g).size - 2
    · have g1 : (wrt g).data.toList.getD j 0 = (body g).data.toList.getD j 0 := by
        rw [hl, List.getD_eq_getElem?_getD, List.getElem?_append_left (by omega), ← List.getD_eq_getElem?_getD]
      have g2 : (wrt g).data.toList.set j (nb ((wrt g).data.toList.getD j 0)) = (body g).data.toList.set j (nb ((body g).data.toList.getD j 0)) ++ (sumS (body g)).data.toList := by
        rw [g1, hl, List.set_append, if_pos (by omega)]
      rw [g2, List.take_left' (by rw [List.length_set]; exact hbl)] at e1
      rw [g2, List.drop_left' (by rw [List.length_set]; exact hbl)] at hk
      have := sum_tot hk
      rw [e1] at this
      exact set_tot _ j (by omega) this
    · have g2 : ((wrt g).data.toList.set j (nb ((wrt g).data.toList.getD j 0))).take ((wrt g).size - 2) = (body g).data.toList := by
        rw [List.take_set_of_le (by omega), hl, List.take_left' hbl]
      rw [g2] at e1
      have e3 : (spo (wrt g) j).extract 0 ((wrt g).size - 2) = body g := ByteArray.ext (Array.toList_inj.1 e1)
      rw [e3] at hk
      have hd : (wrt g).data.toList.drop ((wrt g).size - 2) = (sumS (body g)).data.toList := by rw [hl, List.drop_left' hbl]
      rw [← hd] at hk
      have := congrArg (fun l => l[j - ((wrt g).size - 2)]?) hk
      simp only [List.getElem?_drop] at this
      have hlen : (wrt g).data.toList.length = (wrt g).size := Array.length_toList
      have ej : (wrt g).size - 2 + (j - ((wrt g).size - 2)) = j := by omega
      rw [ej, List.getElem?_set_self (by omega), List.getElem?_eq_getElem (by omega)] at this
      have h1 := Option.some.inj this
      have h2 := nb_ne ((wrt g).data.toList.getD j 0)
      rw [← h1, List.getD_eq_getElem?_getD, List.getElem?_eq_getElem (by omega)] at h2
      exact h2 rfl
theorem read_spo {g : Gr} (h : okG g = true) (j : Nat) (hj : j < (wrt g).size) : Fun E 24 [.string (spo (wrt g) j)] (.tuple #[gv zeroG, .int .i64 11]) := by
  obtain ⟨h1, h2⟩ := wrt_le h
  have hz := spo_size (wrt g) j hj
  exact read24_sum _ (by omega) (by omega) (spoilt_sum g j hj)

/-! ## the functions -/
theorem f28 : E.funcs 28 = some Try.f28 := by kernel_rfl
def modN (x : Int) (n : Nat) : Int := if x.tmod n < 0 then x.tmod n + n else x.tmod n
theorem modN_in (x : Int) (n : Nat) (hn : 0 < n) : 0 ≤ modN x n ∧ modN x n < n := by
  have h1 := Int.tmod_lt_of_pos x (b := n) (by omega)
  have h2 := Int.lt_tmod_of_pos x (b := n) (by omega)
  unfold modN
  split <;> omega
theorem mod28 (x : Int) (n : Nat) (hn : 0 < n) (h : n ≤ 5000) : Fun E 28 [.int .i64 x, .int .i64 n] (.int .i64 (modN x n)) := by
  refine Fun.of f28 rfl (of_decide_eq_true (by kernel_rfl)) rfl ?_
  have c0 : decide ((n : Int) < 1) = false := decide_eq_false (by omega)
  have n0 : (n : Int) ≠ 0 := by omega
  have h1 := Int.tmod_lt_of_pos x (b := n) (by omega)
  have h2 := Int.lt_tmod_of_pos x (b := n) (by omega)
  refine Wp.seq ?_
  refine Wp.text ?_
  refine WpOps.keep 4 (Value.int IntKind.i64 0) (by kernel_rfl) (by kernel_rfl) (by kernel_rfl) ?_ (fun cf => (by kernel_rfl))
  refine WpOps.nil ?_
  refine thenK_at ?_
  refine Wp.seq ?_
  refine Wp.seq ?_
  refine Wp.text ?_
  refine WpOps.keep 6 (Value.int IntKind.i64 (↑n : Int)) (by kernel_rfl) (by kernel_rfl) (by kernel_rfl) ?_ (fun cf => (by kernel_rfl))
  refine WpOps.keep 7 (Value.bool false) (by kernel_rfl) (by kernel_rfl) (by kernel_rfl) ?_ (fun cf => by_fact c0 ((by kernel_rfl)))
  refine WpOps.nil ?_
  refine thenK_at ?_
  refine Wp.off (by kernel_rfl) ?_
  refine Wp.skip ?_
  refine thenK_at ?_
  refine Wp.seq ?_
  refine Wp.text ?_
  refine WpOps.keep 8 (Value.int IntKind.i64 x) (by kernel_rfl) (by kernel_rfl) (by kernel_rfl) ?_ (fun cf => (by kernel_rfl))
  refine WpOps.keep 9 (Value.int IntKind.i64 (↑n : Int)) (by kernel_rfl) (by kernel_rfl) (by kernel_rfl) ?_ (fun cf => (by kernel_rfl))
  refine WpOps.keep 10 (Value.int IntKind.i64 (Int.tmod x (↑n : Int))) (by kernel_rfl) (by kernel_rfl) (by kernel_rfl) ?_ (fun cf => o_rem n0 (by kernel_rfl) (by kernel_rfl))
  refine WpOps.keep 5 (Value.int IntKind.i64 (Int.tmod x (↑n : Int))) (by kernel_rfl) (by kernel_rfl) (by kernel_rfl) ?_ (fun cf => (by kernel_rfl))
  refine WpOps.nil ?_
  refine thenK_at ?_
  refine Wp.seq ?_
  refine Wp.seq ?_
  refine Wp.text ?_
  refine WpOps.keep 11 (Value.int IntKind.i64 (Int.tmod x (↑n : Int))) (by kernel_rfl) (by kernel_rfl) (by kernel_rfl) ?_ (fun cf => (by kernel_rfl))
  refine WpOps.keep 12 (Value.bool (decide (Int.tmod x (↑n : Int) < 0))) (by kernel_rfl) (by kernel_rfl) (by kernel_rfl) ?_ (fun cf => (by kernel_rfl))
  refine WpOps.nil ?_
  refine thenK_at ?_
  refine Wp.split (decide (Int.tmod x (↑n : Int) < 0)) (by kernel_rfl) (fun hc => ?_) (fun hc => ?_)
  · have hm : modN x n = x.tmod n + n := if_pos (of_decide_eq_true hc)
    have hw : IntKind.i64.wrap (x.tmod n + n) = modN x n := by rw [hm, wr _ (by omega) (by omega)]
    refine Wp.text ?_
    refine WpOps.keep 13 (Value.int IntKind.i64 (Int.tmod x (↑n : Int))) (by kernel_rfl) (by kernel_rfl) (by kernel_rfl) ?_ (fun cf => (by kernel_rfl))
    refine WpOps.keep 14 (Value.int IntKind.i64 (↑n : Int)) (by kernel_rfl) (by kernel_rfl) (by kernel_rfl) ?_ (fun cf => (by kernel_rfl))
    refine WpOps.keep 15 (Value.int IntKind.i64 (IntKind.wrap IntKind.i64 (Int.tmod x (↑n : Int) + (↑n : Int)))) (by kernel_rfl) (by kernel_rfl) (by kernel_rfl) ?_ (fun cf => (by kernel_rfl))
    refine WpOps.keep 5 (Value.int IntKind.i64 (IntKind.wrap IntKind.i64 (Int.tmod x (↑n : Int) + (↑n : Int)))) (by kernel_rfl) (by kernel_rfl) (by kernel_rfl) ?_ (fun cf => (by kernel_rfl))
    refine WpOps.nil ?_
    refine thenK_at ?_
    refine Wp.seq ?_
    refine Wp.text ?_
    refine WpOps.keep 16 (Value.int IntKind.i64 (IntKind.wrap IntKind.i64 (Int.tmod x (↑n : Int) + (↑n : Int)))) (by kernel_rfl) (by kernel_rfl) (by kernel_rfl) ?_ (fun cf => (by kernel_rfl))
    refine WpOps.keep 4 (Value.int IntKind.i64 (IntKind.wrap IntKind.i64 (Int.tmod x (↑n : Int) + (↑n : Int)))) (by kernel_rfl) (by kernel_rfl) (by kernel_rfl) ?_ (fun cf => (by kernel_rfl))
    refine WpOps.nil ?_
    refine thenK_at ?_
    refine Wp.ret ?_
    refine endK_retn [Value.int IntKind.i64 (IntKind.wrap IntKind.i64 (Int.tmod x (↑n : Int) + (↑n : Int)))] (Value.int IntKind.i64 (IntKind.wrap IntKind.i64 (Int.tmod x (↑n : Int) + (↑n : Int)))) (by kernel_rfl) (by kernel_rfl) ?_
    rw [hw]
    rfl
  · have hm : modN x n = x.tmod n := if_neg (of_decide_eq_false hc)
    refine Wp.skip ?_
    refine thenK_at ?_
    refine Wp.seq ?_
    refine Wp.text ?_
    refine WpOps.keep 16 (Value.int IntKind.i64 (Int.tmod x (↑n : Int))) (by kernel_rfl) (by kernel_rfl) (by kernel_rfl) ?_ (fun cf => (by kernel_rfl))
    refine WpOps.keep 4 (Value.int IntKind.i64 (Int.tmod x (↑n : Int))) (by kernel_rfl) (by kernel_rfl) (by kernel_rfl) ?_ (fun cf => (by kernel_rfl))
    refine WpOps.nil ?_
    refine thenK_at ?_
    refine Wp.ret ?_
    refine endK_retn [Value.int IntKind.i64 (Int.tmod x (↑n : Int))] (Value.int IntKind.i64 (Int.tmod x (↑n : Int))) (by kernel_rfl) (by kernel_rfl) ?_
    rw [hm]
    rfl
theorem f27 : E.funcs 27 = some Try.f27 := by kernel_rfl
theorem spoil27 (b : ByteArray) (j : Nat) (hj : j < b.size) (hb : b.size ≤ 5000) : Fun E 27 [.string b, .int .i64 j] (.tuple #[.string (spo b j), .int .i64 0]) := by
  refine Fun.of f27 rfl (of_decide_eq_true (by kernel_rfl)) rfl ?_
  have c0 : (b.toList == ByteArray.toList (ByteArray.mk #[])) = false := by
    cases hk : (b.toList == ByteArray.toList (ByteArray.mk #[])) with
    | false => rfl
    | true =>
      exfalso
      rw [ByteArray.toList_eq, ByteArray.toList_eq] at hk
      have := congrArg List.length (eq_of_beq hk)
      rw [Array.length_toList] at this
      have h0 : b.size = 0 := this
      omega
  have c1 := mod28 (j : Int) b.size (by omega) hb
  have e1 : modN (j : Int) b.size = j := by
    unfold modN
    rw [Int.tmod_eq_of_lt (by omega) (by omega), if_neg (by omega)]
  rw [e1] at c1
  have h0 : 0 ≤ (j : Int) ∧ (j : Int) < b.size := by omega
  have h1 : 0 ≤ (j : Int) ∧ (j : Int) ≤ b.size := by omega
  have hv := byte_get b j hj
  have w1 : IntKind.i64.wrap ((j : Int) + 1) = ((j + 1 : Nat) : Int) := by rw [wr _ (by omega) (by omega)]; rfl
  have s1 : (((b.extract 0 (j : Int).toNat).size + (⟨#[UInt8.ofNat (IntKind.u8.wrap (((byteAt b j).toNat : Int).tmod 255 + 1)).toNat]⟩ : ByteArray).size : Nat) : Int) ≤ 9223372036854775807 := by
    rw [ByteArray.size_extract]
    show ((_ + 1 : Nat) : Int) ≤ _
    omega
  have s2 : 0 ≤ IntKind.i64.wrap ((j : Int) + 1) ∧ IntKind.i64.wrap ((j : Int) + 1) ≤ b.size := by rw [w1]; omega
  have s3 : (((b.extract 0 (j : Int).toNat ++ (⟨#[UInt8.ofNat (IntKind.u8.wrap (((byteAt b j).toNat : Int).tmod 255 + 1)).toNat]⟩ : ByteArray)).size + (b.extract (IntKind.i64.wrap ((j : Int) + 1)).toNat b.size).size : Nat) : Int) ≤ 9223372036854775807 := by
    rw [ByteArray.size_append, ByteArray.size_extract, ByteArray.size_extract]
    show (((_ + 1) + _ : Nat) : Int) ≤ _
    omega
  refine Wp.seq ?_
  refine Wp.text ?_
  refine WpOps.keep 4 (Value.string (ByteArray.mk #[])) (by kernel_rfl) (by kernel_rfl) (by kernel_rfl) ?_ (fun cf => (by kernel_rfl))
  refine WpOps.keep 5 (Value.int IntKind.i64 0) (by kernel_rfl) (by kernel_rfl) (by kernel_rfl) ?_ (fun cf => (by kernel_rfl))
  refine WpOps.nil ?_
  refine thenK_at ?_
  refine Wp.seq ?_
  refine Wp.seq ?_
  refine Wp.text ?_
  refine WpOps.keep 7 (Value.string b) (by kernel_rfl) (by kernel_rfl) (by kernel_rfl) ?_ (fun cf => (by kernel_rfl))
  refine WpOps.keep 8 (Value.bool false) (by kernel_rfl) (by kernel_rfl) (by kernel_rfl) ?_ (fun cf => by_fact c0 ((by kernel_rfl)))
  refine WpOps.nil ?_
  refine thenK_at ?_
  refine Wp.off (by kernel_rfl) ?_
  refine Wp.skip ?_
  refine thenK_at ?_
  refine Wp.seq ?_
  refine Wp.text ?_
  refine WpOps.keep 9 (Value.int IntKind.i64 (↑j : Int)) (by kernel_rfl) (by kernel_rfl) (by kernel_rfl) ?_ (fun cf => (by kernel_rfl))
  refine WpOps.keep 10 (Value.string b) (by kernel_rfl) (by kernel_rfl) (by kernel_rfl) ?_ (fun cf => (by kernel_rfl))
  refine WpOps.keep 11 (Value.int IntKind.i64 (↑(ByteArray.size b) : Int)) (by kernel_rfl) (by kernel_rfl) (by kernel_rfl) ?_ (fun cf => (by kernel_rfl))
  refine WpOps.framed 12 28 [Value.int IntKind.i64 (↑j : Int), Value.int IntKind.i64 (↑(ByteArray.size b) : Int)] (by kernel_rfl) (by kernel_rfl) (by kernel_rfl) (by kernel_rfl) (by kernel_rfl) (fun cf => (by kernel_rfl)) ?_
  refine WpFun.of (c1) ?_
  refine WpOps.keep 6 (Value.int IntKind.i64 (↑j : Int)) (by kernel_rfl) (by kernel_rfl) (by kernel_rfl) ?_ (fun cf => (by kernel_rfl))
  refine WpOps.nil ?_
  refine thenK_at ?_
  refine Wp.seq ?_
  refine Wp.region (by kernel_rfl) ?_
  refine WpOps.keep 13 (Value.string b) (by kernel_rfl) (by kernel_rfl) (by kernel_rfl) ?_ (fun cf => (by kernel_rfl))
  refine WpOps.keep 14 (Value.int IntKind.i64 (↑j : Int)) (by kernel_rfl) (by kernel_rfl) (by kernel_rfl) ?_ (fun cf => (by kernel_rfl))
  refine WpOps.keep 15 (Value.string (ByteArray.extract b 0 (Int.toNat (↑j : Int)))) (by kernel_rfl) (by kernel_rfl) (by kernel_rfl) ?_ (fun cf => o_cut_hi h1 (by kernel_rfl) (by kernel_rfl) (by kernel_rfl))
  refine WpOps.keep 16 (Value.string b) (by kernel_rfl) (by kernel_rfl) (by kernel_rfl) ?_ (fun cf => (by kernel_rfl))
  refine WpOps.keep 17 (Value.int IntKind.i64 (↑j : Int)) (by kernel_rfl) (by kernel_rfl) (by kernel_rfl) ?_ (fun cf => (by kernel_rfl))
  refine WpOps.keep 18 (Value.int IntKind.u8 (↑(UInt8.toNat (byteAt b j)) : Int)) (by kernel_rfl) (by kernel_rfl) (by kernel_rfl) ?_ (fun cf => o_indexStr (of_decide_eq_true (by kernel_rfl)) hv (by kernel_rfl) (by kernel_rfl) (by kernel_rfl))
  refine WpOps.keep 19 (Value.int IntKind.u8 (Int.tmod (↑(UInt8.toNat (byteAt b j)) : Int) 255)) (by kernel_rfl) (by kernel_rfl) (by kernel_rfl) ?_ (fun cf => (by kernel_rfl))
  refine WpOps.keep 20 (Value.int IntKind.u8 (IntKind.wrap IntKind.u8 (Int.tmod (↑(UInt8.toNat (byteAt b j)) : Int) 255 + 1))) (by kernel_rfl) (by kernel_rfl) (by kernel_rfl) ?_ (fun cf => (by kernel_rfl))
  refine WpOps.made 21 (Value.slice (some (Addr.mk 0 0 none)) 1 1) (Blk.mk 5 true [Value.int IntKind.u8 (IntKind.wrap IntKind.u8 (Int.tmod (↑(UInt8.toNat (byteAt b j)) : Int) 255 + 1))]) (by kernel_rfl) (by kernel_rfl) (by kernel_rfl) ?_ (fun cf => (by kernel_rfl))
  refine WpOps.keep 22 (Value.string (ByteArray.mk #[UInt8.ofNat (Int.toNat (IntKind.wrap IntKind.u8 (Int.tmod (↑(UInt8.toNat (byteAt b j)) : Int) 255 + 1)))])) (by kernel_rfl) (by kernel_rfl) (by kernel_rfl) ?_ (fun cf => (by kernel_rfl))
  refine WpOps.keep 23 (Value.string (ByteArray.extract b 0 (Int.toNat (↑j : Int)) ++ ByteArray.mk #[UInt8.ofNat (Int.toNat (IntKind.wrap IntKind.u8 (Int.tmod (↑(UInt8.toNat (byteAt b j)) : Int) 255 + 1)))])) (by kernel_rfl) (by kernel_rfl) (by kernel_rfl) ?_ (fun cf => o_add s1 (by kernel_rfl) (by kernel_rfl))
  refine WpOps.keep 24 (Value.string b) (by kernel_rfl) (by kernel_rfl) (by kernel_rfl) ?_ (fun cf => (by kernel_rfl))
  refine WpOps.keep 25 (Value.int IntKind.i64 (↑j : Int)) (by kernel_rfl) (by kernel_rfl) (by kernel_rfl) ?_ (fun cf => (by kernel_rfl))
  refine WpOps.keep 26 (Value.int IntKind.i64 (IntKind.wrap IntKind.i64 ((↑j : Int) + 1))) (by kernel_rfl) (by kernel_rfl) (by kernel_rfl) ?_ (fun cf => (by kernel_rfl))
  refine WpOps.keep 27 (Value.string (ByteArray.extract b (Int.toNat (IntKind.wrap IntKind.i64 ((↑j : Int) + 1))) (ByteArray.size b))) (by kernel_rfl) (by kernel_rfl) (by kernel_rfl) ?_ (fun cf => o_cut_lo s2 (by kernel_rfl) (by kernel_rfl) (by kernel_rfl))
  refine WpOps.keep 28 (Value.string (ByteArray.extract b 0 (Int.toNat (↑j : Int)) ++ ByteArray.mk #[UInt8.ofNat (Int.toNat (IntKind.wrap IntKind.u8 (Int.tmod (↑(UInt8.toNat (byteAt b j)) : Int) 255 + 1)))] ++ ByteArray.extract b (Int.toNat (IntKind.wrap IntKind.i64 ((↑j : Int) + 1))) (ByteArray.size b))) (by kernel_rfl) (by kernel_rfl) (by kernel_rfl) ?_ (fun cf => o_add s3 (by kernel_rfl) (by kernel_rfl))
  refine WpOps.keep 4 (Value.string (ByteArray.extract b 0 (Int.toNat (↑j : Int)) ++ ByteArray.mk #[UInt8.ofNat (Int.toNat (IntKind.wrap IntKind.u8 (Int.tmod (↑(UInt8.toNat (byteAt b j)) : Int) 255 + 1)))] ++ ByteArray.extract b (Int.toNat (IntKind.wrap IntKind.i64 ((↑j : Int) + 1))) (ByteArray.size b))) (by kernel_rfl) (by kernel_rfl) (by kernel_rfl) ?_ (fun cf => (by kernel_rfl))
  refine WpOps.keep 5 (Value.int IntKind.i64 0) (by kernel_rfl) (by kernel_rfl) (by kernel_rfl) ?_ (fun cf => (by kernel_rfl))
  refine WpOps.nil ?_
  refine thenK_at ?_
  refine Wp.ret ?_
  refine endK_retn [Value.string (ByteArray.extract b 0 (Int.toNat (↑j : Int)) ++ ByteArray.mk #[UInt8.ofNat (Int.toNat (IntKind.wrap IntKind.u8 (Int.tmod (↑(UInt8.toNat (byteAt b j)) : Int) 255 + 1)))] ++ ByteArray.extract b (Int.toNat (IntKind.wrap IntKind.i64 ((↑j : Int) + 1))) (ByteArray.size b)), Value.int IntKind.i64 0] (Value.tuple #[Value.string (ByteArray.extract b 0 (Int.toNat (↑j : Int)) ++ ByteArray.mk #[UInt8.ofNat (Int.toNat (IntKind.wrap IntKind.u8 (Int.tmod (↑(UInt8.toNat (byteAt b j)) : Int) 255 + 1)))] ++ ByteArray.extract b (Int.toNat (IntKind.wrap IntKind.i64 ((↑j : Int) + 1))) (ByteArray.size b)), Value.int IntKind.i64 0]) (by kernel_rfl) (by kernel_rfl) ?_
  rw [w1]
  rfl

theorem f7 : E.funcs 7 = some Try.f7 := by kernel_rfl
theorem law7_bad (g : Gr) (ok : OkGr g) (x : Int) (h : okG g = false) : Fun E 7 [gv g, .int .i64 x] (.bool true) := by
  refine Fun.of f7 rfl (of_decide_eq_true (by kernel_rfl)) rfl ?_
  have c1 := write21_bad g ok h
  have c6 := sane19
  refine Wp.seq ?_
  refine Wp.text ?_
  refine WpOps.made 2 (Value.pointer (some (Addr.mk 0 0 none))) (Blk.mk 24 true [Value.iface 3 (Value.iface (List.length (Gr.fr g)) (Value.iface (Gr.fx g) (Value.agg (List.toArray (List.map (fun n => Value.int IntKind.i64 n) (Gr.fr g)))))), Value.iface 3 (Value.iface (List.length (Gr.to g)) (Value.iface (Gr.tx g) (Value.agg (List.toArray (List.map (fun n => Value.int IntKind.i64 n) (Gr.to g)))))), Value.int IntKind.i64 (Gr.number g), Value.int IntKind.i64 (Gr.life g), Value.int IntKind.i64 (Gr.at' g), Value.int IntKind.i64 (Gr.total g), Value.int IntKind.i64 (Gr.report g), Value.bool (Gr.more g), Value.bool (Gr.may g), Value.bool (Gr.wants g), Value.string (Gr.data g)]) (by kernel_rfl) (by kernel_rfl) (by kernel_rfl) ?_ (fun cf => (by kernel_rfl))
  refine WpOps.keep 4 (Value.bool false) (by kernel_rfl) (by kernel_rfl) (by kernel_rfl) ?_ (fun cf => (by kernel_rfl))
  refine WpOps.nil ?_
  refine thenK_at ?_
  refine Wp.seq ?_
  refine Wp.text ?_
  refine WpOps.keep 10 (Value.agg #[Value.iface 3 (Value.iface (List.length (Gr.fr g)) (Value.iface (Gr.fx g) (Value.agg (List.toArray (List.map (fun n => Value.int IntKind.i64 n) (Gr.fr g)))))), Value.iface 3 (Value.iface (List.length (Gr.to g)) (Value.iface (Gr.tx g) (Value.agg (List.toArray (List.map (fun n => Value.int IntKind.i64 n) (Gr.to g)))))), Value.int IntKind.i64 (Gr.number g), Value.int IntKind.i64 (Gr.life g), Value.int IntKind.i64 (Gr.at' g), Value.int IntKind.i64 (Gr.total g), Value.int IntKind.i64 (Gr.report g), Value.bool (Gr.more g), Value.bool (Gr.may g), Value.bool (Gr.wants g), Value.string (Gr.data g)]) (by kernel_rfl) (by kernel_rfl) (by kernel_rfl) ?_ (fun cf => (by kernel_rfl))
  refine WpOps.framed 11 21 [Value.agg #[Value.iface 3 (Value.iface (List.length (Gr.fr g)) (Value.iface (Gr.fx g) (Value.agg (List.toArray (List.map (fun n => Value.int IntKind.i64 n) (Gr.fr g)))))), Value.iface 3 (Value.iface (List.length (Gr.to g)) (Value.iface (Gr.tx g) (Value.agg (List.toArray (List.map (fun n => Value.int IntKind.i64 n) (Gr.to g)))))), Value.int IntKind.i64 (Gr.number g), Value.int IntKind.i64 (Gr.life g), Value.int IntKind.i64 (Gr.at' g), Value.int IntKind.i64 (Gr.total g), Value.int IntKind.i64 (Gr.report g), Value.bool (Gr.more g), Value.bool (Gr.may g), Value.bool (Gr.wants g), Value.string (Gr.data g)]] (by kernel_rfl) (by kernel_rfl) (by kernel_rfl) (by kernel_rfl) (by kernel_rfl) (fun cf => (by kernel_rfl)) ?_
  refine WpFun.of (c1) ?_
  refine WpOps.keep 9 (Value.tuple #[Value.string ByteArray.empty, Value.int IntKind.i64 1]) (by kernel_rfl) (by kernel_rfl) (by kernel_rfl) ?_ (fun cf => (by kernel_rfl))
  refine WpOps.keep 12 (Value.string ByteArray.empty) (by kernel_rfl) (by kernel_rfl) (by kernel_rfl) ?_ (fun cf => (by kernel_rfl))
  refine WpOps.keep 13 (Value.int IntKind.i64 1) (by kernel_rfl) (by kernel_rfl) (by kernel_rfl) ?_ (fun cf => (by kernel_rfl))
  refine WpOps.keep 5 (Value.string ByteArray.empty) (by kernel_rfl) (by kernel_rfl) (by kernel_rfl) ?_ (fun cf => (by kernel_rfl))
  refine WpOps.keep 6 (Value.int IntKind.i64 1) (by kernel_rfl) (by kernel_rfl) (by kernel_rfl) ?_ (fun cf => (by kernel_rfl))
  refine WpOps.nil ?_
  refine thenK_at ?_
  refine Wp.seq ?_
  refine Wp.seq ?_
  refine Wp.text ?_
  refine WpOps.keep 14 (Value.int IntKind.i64 1) (by kernel_rfl) (by kernel_rfl) (by kernel_rfl) ?_ (fun cf => (by kernel_rfl))
  refine WpOps.keep 15 (Value.bool true) (by kernel_rfl) (by kernel_rfl) (by kernel_rfl) ?_ (fun cf => (by kernel_rfl))
  refine WpOps.keep 16 (Value.bool true) (by kernel_rfl) (by kernel_rfl) (by kernel_rfl) ?_ (fun cf => (by kernel_rfl))
  refine WpOps.unmet 17 (by kernel_rfl) (by kernel_rfl) (by kernel_rfl) ?_
  refine WpOps.unmet 18 (by kernel_rfl) (by kernel_rfl) (by kernel_rfl) ?_
  refine WpOps.unmet 19 (by kernel_rfl) (by kernel_rfl) (by kernel_rfl) ?_
  refine WpOps.keep 20 (Value.bool true) (by kernel_rfl) (by kernel_rfl) (by kernel_rfl) ?_ (fun cf => (by kernel_rfl))
  refine WpOps.keep 21 (Value.bool true) (by kernel_rfl) (by kernel_rfl) (by kernel_rfl) ?_ (fun cf => (by kernel_rfl))
  refine WpOps.unmet 22 (by kernel_rfl) (by kernel_rfl) (by kernel_rfl) ?_
  refine WpOps.unmet 23 (by kernel_rfl) (by kernel_rfl) (by kernel_rfl) ?_
  refine WpOps.unmet 24 (by kernel_rfl) (by kernel_rfl) (by kernel_rfl) ?_
  refine WpOps.keep 25 (Value.bool true) (by kernel_rfl) (by kernel_rfl) (by kernel_rfl) ?_ (fun cf => (by kernel_rfl))
  refine WpOps.nil ?_
  refine thenK_at ?_
  refine Wp.on (by kernel_rfl) ?_
  refine Wp.seq ?_
  refine Wp.text ?_
  refine WpOps.keep 26 (Value.int IntKind.i64 1) (by kernel_rfl) (by kernel_rfl) (by kernel_rfl) ?_ (fun cf => (by kernel_rfl))
  refine WpOps.keep 27 (Value.bool true) (by kernel_rfl) (by kernel_rfl) (by kernel_rfl) ?_ (fun cf => (by kernel_rfl))
  refine WpOps.keep 28 (Value.bool true) (by kernel_rfl) (by kernel_rfl) (by kernel_rfl) ?_ (fun cf => (by kernel_rfl))
  refine WpOps.unmet 29 (by kernel_rfl) (by kernel_rfl) (by kernel_rfl) ?_
  refine WpOps.unmet 30 (by kernel_rfl) (by kernel_rfl) (by kernel_rfl) ?_
  refine WpOps.unmet 31 (by kernel_rfl) (by kernel_rfl) (by kernel_rfl) ?_
  refine WpOps.keep 32 (Value.bool true) (by kernel_rfl) (by kernel_rfl) (by kernel_rfl) ?_ (fun cf => (by kernel_rfl))
  refine WpOps.keep 33 (Value.bool true) (by kernel_rfl) (by kernel_rfl) (by kernel_rfl) ?_ (fun cf => (by kernel_rfl))
  refine WpOps.framed 34 19 [] (by kernel_rfl) (by kernel_rfl) (by kernel_rfl) (by kernel_rfl) (by kernel_rfl) (fun cf => (by kernel_rfl)) ?_
  refine WpFun.of (c6) ?_
  refine WpOps.keep 35 (Value.bool true) (by kernel_rfl) (by kernel_rfl) (by kernel_rfl) ?_ (fun cf => (by kernel_rfl))
  refine WpOps.keep 4 (Value.bool true) (by kernel_rfl) (by kernel_rfl) (by kernel_rfl) ?_ (fun cf => (by kernel_rfl))
  refine WpOps.nil ?_
  refine thenK_at ?_
  refine Wp.ret ?_
  refine thenK_ret ?_
  refine endK_retn [Value.bool true] (Value.bool true) (by kernel_rfl) (by kernel_rfl) ?_
  kernel_rfl
theorem law7_ok (g : Gr) (ok : OkGr g) (x : Int) (h : okG g = true) : Fun E 7 [gv g, .int .i64 x] (.bool true) := by
  refine Fun.of f7 rfl (of_decide_eq_true (by kernel_rfl)) rfl ?_
  have c1 := write21_ok g ok h
  have c6 := sane19
  obtain ⟨q1, q2⟩ := wrt_le h
  have z0 : (((wrt g).size : Int) == 0) = false := beq_eq_false_iff_ne.2 (by omega)
  have z1 : decide (((wrt g).size : Int) > 0) = true := decide_eq_true (by omega)
  refine Wp.seq ?_
  refine Wp.text ?_
  refine WpOps.made 2 (Value.pointer (some (Addr.mk 0 0 none))) (Blk.mk 24 true [Value.iface 3 (Value.iface (List.length (Gr.fr g)) (Value.iface (Gr.fx g) (Value.agg (List.toArray (List.map (fun n => Value.int IntKind.i64 n) (Gr.fr g)))))), Value.iface 3 (Value.iface (List.length (Gr.to g)) (Value.iface (Gr.tx g) (Value.agg (List.toArray (List.map (fun n => Value.int IntKind.i64 n) (Gr.to g)))))), Value.int IntKind.i64 (Gr.number g), Value.int IntKind.i64 (Gr.life g), Value.int IntKind.i64 (Gr.at' g), Value.int IntKind.i64 (Gr.total g), Value.int IntKind.i64 (Gr.report g), Value.bool (Gr.more g), Value.bool (Gr.may g), Value.bool (Gr.wants g), Value.string (Gr.data g)]) (by kernel_rfl) (by kernel_rfl) (by kernel_rfl) ?_ (fun cf => (by kernel_rfl))
  refine WpOps.keep 4 (Value.bool false) (by kernel_rfl) (by kernel_rfl) (by kernel_rfl) ?_ (fun cf => (by kernel_rfl))
  refine WpOps.nil ?_
  refine thenK_at ?_
  refine Wp.seq ?_
  refine Wp.text ?_
  refine WpOps.keep 10 (Value.agg #[Value.iface 3 (Value.iface (List.length (Gr.fr g)) (Value.iface (Gr.fx g) (Value.agg (List.toArray (List.map (fun n => Value.int IntKind.i64 n) (Gr.fr g)))))), Value.iface 3 (Value.iface (List.length (Gr.to g)) (Value.iface (Gr.tx g) (Value.agg (List.toArray (List.map (fun n => Value.int IntKind.i64 n) (Gr.to g)))))), Value.int IntKind.i64 (Gr.number g), Value.int IntKind.i64 (Gr.life g), Value.int IntKind.i64 (Gr.at' g), Value.int IntKind.i64 (Gr.total g), Value.int IntKind.i64 (Gr.report g), Value.bool (Gr.more g), Value.bool (Gr.may g), Value.bool (Gr.wants g), Value.string (Gr.data g)]) (by kernel_rfl) (by kernel_rfl) (by kernel_rfl) ?_ (fun cf => (by kernel_rfl))
  refine WpOps.framed 11 21 [Value.agg #[Value.iface 3 (Value.iface (List.length (Gr.fr g)) (Value.iface (Gr.fx g) (Value.agg (List.toArray (List.map (fun n => Value.int IntKind.i64 n) (Gr.fr g)))))), Value.iface 3 (Value.iface (List.length (Gr.to g)) (Value.iface (Gr.tx g) (Value.agg (List.toArray (List.map (fun n => Value.int IntKind.i64 n) (Gr.to g)))))), Value.int IntKind.i64 (Gr.number g), Value.int IntKind.i64 (Gr.life g), Value.int IntKind.i64 (Gr.at' g), Value.int IntKind.i64 (Gr.total g), Value.int IntKind.i64 (Gr.report g), Value.bool (Gr.more g), Value.bool (Gr.may g), Value.bool (Gr.wants g), Value.string (Gr.data g)]] (by kernel_rfl) (by kernel_rfl) (by kernel_rfl) (by kernel_rfl) (by kernel_rfl) (fun cf => (by kernel_rfl)) ?_
  refine WpFun.of (c1) ?_
  refine WpOps.keep 9 (Value.tuple #[Value.string (wrt g), Value.int IntKind.i64 0]) (by kernel_rfl) (by kernel_rfl) (by kernel_rfl) ?_ (fun cf => (by kernel_rfl))
  refine WpOps.keep 12 (Value.string (wrt g)) (by kernel_rfl) (by kernel_rfl) (by kernel_rfl) ?_ (fun cf => (by kernel_rfl))
  refine WpOps.keep 13 (Value.int IntKind.i64 0) (by kernel_rfl) (by kernel_rfl) (by kernel_rfl) ?_ (fun cf => (by kernel_rfl))
  refine WpOps.keep 5 (Value.string (wrt g)) (by kernel_rfl) (by kernel_rfl) (by kernel_rfl) ?_ (fun cf => (by kernel_rfl))
  refine WpOps.keep 6 (Value.int IntKind.i64 0) (by kernel_rfl) (by kernel_rfl) (by kernel_rfl) ?_ (fun cf => (by kernel_rfl))
  refine WpOps.nil ?_
  refine thenK_at ?_
  refine Wp.seq ?_
  refine Wp.seq ?_
  refine Wp.text ?_
  refine WpOps.keep 14 (Value.int IntKind.i64 0) (by kernel_rfl) (by kernel_rfl) (by kernel_rfl) ?_ (fun cf => (by kernel_rfl))
  refine WpOps.keep 15 (Value.bool false) (by kernel_rfl) (by kernel_rfl) (by kernel_rfl) ?_ (fun cf => (by kernel_rfl))
  refine WpOps.keep 16 (Value.bool false) (by kernel_rfl) (by kernel_rfl) (by kernel_rfl) ?_ (fun cf => (by kernel_rfl))
  refine WpOps.keep 17 (Value.string (wrt g)) (by kernel_rfl) (by kernel_rfl) (by kernel_rfl) ?_ (fun cf => (by kernel_rfl))
  refine WpOps.keep 18 (Value.int IntKind.i64 (↑(ByteArray.size (wrt g)) : Int)) (by kernel_rfl) (by kernel_rfl) (by kernel_rfl) ?_ (fun cf => (by kernel_rfl))
  refine WpOps.keep 19 (Value.bool ((↑(ByteArray.size (wrt g)) : Int) == 0)) (by kernel_rfl) (by kernel_rfl) (by kernel_rfl) ?_ (fun cf => (by kernel_rfl))
  refine WpOps.keep 20 (Value.bool ((↑(ByteArray.size (wrt g)) : Int) == 0)) (by kernel_rfl) (by kernel_rfl) (by kernel_rfl) ?_ (fun cf => (by kernel_rfl))
  refine WpOps.keep 21 (Value.bool ((↑(ByteArray.size (wrt g)) : Int) == 0)) (by kernel_rfl) (by kernel_rfl) (by kernel_rfl) ?_ (fun cf => (by kernel_rfl))
  refine WpOps.keep 22 (Value.string (wrt g)) (by kernel_rfl) (by kernel_rfl) (by kernel_rfl) ?_ (fun cf => (by kernel_rfl))
  refine WpOps.keep 23 (Value.int IntKind.i64 (↑(ByteArray.size (wrt g)) : Int)) (by kernel_rfl) (by kernel_rfl) (by kernel_rfl) ?_ (fun cf => (by kernel_rfl))
  refine WpOps.keep 24 (Value.bool (decide ((↑(ByteArray.size (wrt g)) : Int) > 4000))) (by kernel_rfl) (by kernel_rfl) (by kernel_rfl) ?_ (fun cf => (by kernel_rfl))
  refine WpOps.keep 25 (Value.bool (decide ((↑(ByteArray.size (wrt g)) : Int) > 4000))) (by kernel_rfl) (by kernel_rfl) (by kernel_rfl) ?_ (fun cf => o_pickF z0 (by kernel_rfl) (by kernel_rfl))
  refine WpOps.nil ?_
  refine thenK_at ?_
  refine Wp.split (decide ((↑(ByteArray.size (wrt g)) : Int) > 4000)) (by kernel_rfl) (fun hc => ?_) (fun hc => ?_)
  · refine Wp.seq ?_
    refine Wp.text ?_
    refine WpOps.keep 26 (Value.int IntKind.i64 0) (by kernel_rfl) (by kernel_rfl) (by kernel_rfl) ?_ (fun cf => (by kernel_rfl))
    refine WpOps.keep 27 (Value.bool false) (by kernel_rfl) (by kernel_rfl) (by kernel_rfl) ?_ (fun cf => (by kernel_rfl))
    refine WpOps.keep 28 (Value.bool false) (by kernel_rfl) (by kernel_rfl) (by kernel_rfl) ?_ (fun cf => (by kernel_rfl))
    refine WpOps.keep 29 (Value.string (wrt g)) (by kernel_rfl) (by kernel_rfl) (by kernel_rfl) ?_ (fun cf => (by kernel_rfl))
    refine WpOps.keep 30 (Value.int IntKind.i64 (↑(ByteArray.size (wrt g)) : Int)) (by kernel_rfl) (by kernel_rfl) (by kernel_rfl) ?_ (fun cf => (by kernel_rfl))
    refine WpOps.keep 31 (Value.bool true) (by kernel_rfl) (by kernel_rfl) (by kernel_rfl) ?_ (fun cf => by_fact z1 ((by kernel_rfl)))
    refine WpOps.keep 32 (Value.bool true) (by kernel_rfl) (by kernel_rfl) (by kernel_rfl) ?_ (fun cf => (by kernel_rfl))
    refine WpOps.keep 33 (Value.bool true) (by kernel_rfl) (by kernel_rfl) (by kernel_rfl) ?_ (fun cf => (by kernel_rfl))
    refine WpOps.framed 34 19 [] (by kernel_rfl) (by kernel_rfl) (by kernel_rfl) (by kernel_rfl) (by kernel_rfl) (fun cf => (by kernel_rfl)) ?_
    refine WpFun.of (c6) ?_
    refine WpOps.keep 35 (Value.bool true) (by kernel_rfl) (by kernel_rfl) (by kernel_rfl) ?_ (fun cf => (by kernel_rfl))
    refine WpOps.keep 4 (Value.bool true) (by kernel_rfl) (by kernel_rfl) (by kernel_rfl) ?_ (fun cf => (by kernel_rfl))
    refine WpOps.nil ?_
    refine thenK_at ?_
    refine Wp.ret ?_
    refine thenK_ret ?_
    refine endK_retn [Value.bool true] (Value.bool true) (by kernel_rfl) (by kernel_rfl) ?_
    kernel_rfl
  · have hs : (wrt g).size ≤ 4000 := by have := of_decide_eq_false hc; omega
    obtain ⟨m1, m2⟩ := modN_in x (wrt g).size (by omega)
    obtain ⟨j, hj⟩ : ∃ j : Nat, modN x (wrt g).size = j := ⟨(modN x (wrt g).size).toNat, by omega⟩
    have c2 := mod28 x (wrt g).size (by omega) (by omega)
    rw [hj] at c2
    have c3 := spoil27 (wrt g) j (by omega) (by omega)
    have c4 := read_spo h j (by omega)
    refine Wp.skip ?_
    refine thenK_at ?_
    refine Wp.seq ?_
    refine Wp.text ?_
    refine WpOps.keep 37 (Value.string (wrt g)) (by kernel_rfl) (by kernel_rfl) (by kernel_rfl) ?_ (fun cf => (by kernel_rfl))
    refine WpOps.keep 38 (Value.int IntKind.i64 x) (by kernel_rfl) (by kernel_rfl) (by kernel_rfl) ?_ (fun cf => (by kernel_rfl))
    refine WpOps.keep 39 (Value.string (wrt g)) (by kernel_rfl) (by kernel_rfl) (by kernel_rfl) ?_ (fun cf => (by kernel_rfl))
    refine WpOps.keep 40 (Value.int IntKind.i64 (↑(ByteArray.size (wrt g)) : Int)) (by kernel_rfl) (by kernel_rfl) (by kernel_rfl) ?_ (fun cf => (by kernel_rfl))
    refine WpOps.framed 41 28 [Value.int IntKind.i64 x, Value.int IntKind.i64 (↑(ByteArray.size (wrt g)) : Int)] (by kernel_rfl) (by kernel_rfl) (by kernel_rfl) (by kernel_rfl) (by kernel_rfl) (fun cf => (by kernel_rfl)) ?_
    refine WpFun.of (c2) ?_
    refine WpOps.framed 42 27 [Value.string (wrt g), Value.int IntKind.i64 (↑j : Int)] (by kernel_rfl) (by kernel_rfl) (by kernel_rfl) (by kernel_rfl) (by kernel_rfl) (fun cf => (by kernel_rfl)) ?_
    refine WpFun.of (c3) ?_
    refine WpOps.keep 36 (Value.tuple #[Value.string (spo (wrt g) j), Value.int IntKind.i64 0]) (by kernel_rfl) (by kernel_rfl) (by kernel_rfl) ?_ (fun cf => (by kernel_rfl))
    refine WpOps.keep 43 (Value.string (spo (wrt g) j)) (by kernel_rfl) (by kernel_rfl) (by kernel_rfl) ?_ (fun cf => (by kernel_rfl))
    refine WpOps.keep 44 (Value.int IntKind.i64 0) (by kernel_rfl) (by kernel_rfl) (by kernel_rfl) ?_ (fun cf => (by kernel_rfl))
    refine WpOps.keep 7 (Value.string (spo (wrt g) j)) (by kernel_rfl) (by kernel_rfl) (by kernel_rfl) ?_ (fun cf => (by kernel_rfl))
    refine WpOps.keep 8 (Value.int IntKind.i64 0) (by kernel_rfl) (by kernel_rfl) (by kernel_rfl) ?_ (fun cf => (by kernel_rfl))
    refine WpOps.nil ?_
    refine thenK_at ?_
    refine Wp.seq ?_
    refine Wp.text ?_
    refine WpOps.keep 46 (Value.string (spo (wrt g) j)) (by kernel_rfl) (by kernel_rfl) (by kernel_rfl) ?_ (fun cf => (by kernel_rfl))
    refine WpOps.framed 47 24 [Value.string (spo (wrt g) j)] (by kernel_rfl) (by kernel_rfl) (by kernel_rfl) (by kernel_rfl) (by kernel_rfl) (fun cf => (by kernel_rfl)) ?_
    refine WpFun.of (c4) ?_
    refine WpOps.keep 45 (Value.tuple #[Value.agg #[Value.iface 3 (Value.iface (List.length (Gr.fr zeroG)) (Value.iface (Gr.fx zeroG) (Value.agg (List.toArray (List.map (fun n => Value.int IntKind.i64 n) (Gr.fr zeroG)))))), Value.iface 3 (Value.iface (List.length (Gr.to zeroG)) (Value.iface (Gr.tx zeroG) (Value.agg (List.toArray (List.map (fun n => Value.int IntKind.i64 n) (Gr.to zeroG)))))), Value.int IntKind.i64 (Gr.number zeroG), Value.int IntKind.i64 (Gr.life zeroG), Value.int IntKind.i64 (Gr.at' zeroG), Value.int IntKind.i64 (Gr.total zeroG), Value.int IntKind.i64 (Gr.report zeroG), Value.bool (Gr.more zeroG), Value.bool (Gr.may zeroG), Value.bool (Gr.wants zeroG), Value.string (Gr.data zeroG)], Value.int IntKind.i64 11]) (by kernel_rfl) (by kernel_rfl) (by kernel_rfl) ?_ (fun cf => (by kernel_rfl))
    refine WpOps.keep 48 (Value.agg #[Value.iface 3 (Value.iface (List.length (Gr.fr zeroG)) (Value.iface (Gr.fx zeroG) (Value.agg (List.toArray (List.map (fun n => Value.int IntKind.i64 n) (Gr.fr zeroG)))))), Value.iface 3 (Value.iface (List.length (Gr.to zeroG)) (Value.iface (Gr.tx zeroG) (Value.agg (List.toArray (List.map (fun n => Value.int IntKind.i64 n) (Gr.to zeroG)))))), Value.int IntKind.i64 (Gr.number zeroG), Value.int IntKind.i64 (Gr.life zeroG), Value.int IntKind.i64 (Gr.at' zeroG), Value.int IntKind.i64 (Gr.total zeroG), Value.int IntKind.i64 (Gr.report zeroG), Value.bool (Gr.more zeroG), Value.bool (Gr.may zeroG), Value.bool (Gr.wants zeroG), Value.string (Gr.data zeroG)]) (by kernel_rfl) (by kernel_rfl) (by kernel_rfl) ?_ (fun cf => (by kernel_rfl))
    refine WpOps.keep 49 (Value.int IntKind.i64 11) (by kernel_rfl) (by kernel_rfl) (by kernel_rfl) ?_ (fun cf => (by kernel_rfl))
    refine WpOps.keep 6 (Value.int IntKind.i64 11) (by kernel_rfl) (by kernel_rfl) (by kernel_rfl) ?_ (fun cf => (by kernel_rfl))
    refine WpOps.nil ?_
    refine thenK_at ?_
    refine Wp.seq ?_
    refine Wp.text ?_
    refine WpOps.keep 50 (Value.int IntKind.i64 11) (by kernel_rfl) (by kernel_rfl) (by kernel_rfl) ?_ (fun cf => (by kernel_rfl))
    refine WpOps.keep 51 (Value.bool true) (by kernel_rfl) (by kernel_rfl) (by kernel_rfl) ?_ (fun cf => (by kernel_rfl))
    refine WpOps.keep 52 (Value.bool true) (by kernel_rfl) (by kernel_rfl) (by kernel_rfl) ?_ (fun cf => (by kernel_rfl))
    refine WpOps.framed 53 19 [] (by kernel_rfl) (by kernel_rfl) (by kernel_rfl) (by kernel_rfl) (by kernel_rfl) (fun cf => (by kernel_rfl)) ?_
    refine WpFun.of (c6) ?_
    refine WpOps.keep 54 (Value.bool true) (by kernel_rfl) (by kernel_rfl) (by kernel_rfl) ?_ (fun cf => (by kernel_rfl))
    refine WpOps.keep 4 (Value.bool true) (by kernel_rfl) (by kernel_rfl) (by kernel_rfl) ?_ (fun cf => (by kernel_rfl))
    refine WpOps.nil ?_
    refine thenK_at ?_
    refine Wp.ret ?_
    refine endK_retn [Value.bool true] (Value.bool true) (by kernel_rfl) (by kernel_rfl) ?_
    kernel_rfl
theorem law7 (g : Gr) (ok : OkGr g) (x : Int) : Fun E 7 [gv g, .int .i64 x] (.bool true) := by
  cases h : okG g with
  | true => exact law7_ok g ok x h
  | false => exact law7_bad g ok x h
end Go.Proofs.Ytpkkcpglbjbgfaa.D
