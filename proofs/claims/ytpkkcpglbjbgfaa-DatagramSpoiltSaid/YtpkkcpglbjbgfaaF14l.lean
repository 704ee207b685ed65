/- Reading a datagram: the reader. -/
import Derived.Test.YtpkkcpglbjbgfaaFwLem
import Derived.Test.YtpkkcpglbjbgfaaF14k
namespace Go.Proofs.Ytpkkcpglbjbgfaa.D
open Go.Fw Go.RowKit

def rd (s : ByteArray) (bad : Bool) : Blk := ⟨113, true, [.string s, .bool bad]⟩
theorem f56 : E.funcs 56 = some Try.f56 := by kernel_rfl
theorem number56 (s : ByteArray) (bad : Bool) (hs : (s.size : Int) < 2) : Lent E 56 [.pointer (some ⟨0, 0, none⟩)] [rd s bad] (.int .i64 0) [rd s true] := by
  refine Lent.of f56 rfl (of_decide_eq_true (by kernel_rfl)) rfl rfl (Nat.le_refl _) rfl rfl rfl ?_
  have hc : decide ((s.size : Int) < 2) = true := decide_eq_true hs
  refine Wp.seq ?_
  refine Wp.text ?_
  refine WpOps.keep 2 (Value.int IntKind.i64 0) (by kernel_rfl) (by kernel_rfl) (by kernel_rfl) ?_ (fun cf => (by kernel_rfl))
  refine WpOps.nil ?_
  refine thenK_at ?_
  refine Wp.seq ?_
  refine Wp.seq ?_
  refine Wp.text ?_
  refine WpOps.keep 4 (Value.pointer (some (Addr.mk 0 0 none))) (by kernel_rfl) (by kernel_rfl) (by kernel_rfl) ?_ (fun cf => (by kernel_rfl))
  refine WpOps.keep 5 (Value.pointer (some (Addr.mk 0 0 none))) (by kernel_rfl) (by kernel_rfl) (by kernel_rfl) ?_ (fun cf => (by kernel_rfl))
  refine WpOps.keep 6 (Value.pointer (some (Addr.mk 0 0 none))) (by kernel_rfl) (by kernel_rfl) (by kernel_rfl) ?_ (fun cf => (by kernel_rfl))
  refine WpOps.keep 7 (Value.string s) (by kernel_rfl) (by kernel_rfl) (by kernel_rfl) ?_ (fun cf => (by kernel_rfl))
  refine WpOps.keep 8 (Value.int IntKind.i64 (↑(ByteArray.size s) : Int)) (by kernel_rfl) (by kernel_rfl) (by kernel_rfl) ?_ (fun cf => (by kernel_rfl))
  refine WpOps.keep 9 (Value.bool true) (by kernel_rfl) (by kernel_rfl) (by kernel_rfl) ?_ (fun cf => by_fact hc ((by kernel_rfl)))
  refine WpOps.nil ?_
  refine thenK_at ?_
  refine Wp.on (by kernel_rfl) ?_
  refine Wp.seq ?_
  refine Wp.text ?_
  refine WpOps.keep 10 (Value.pointer (some (Addr.mk 0 0 none))) (by kernel_rfl) (by kernel_rfl) (by kernel_rfl) ?_ (fun cf => (by kernel_rfl))
  refine WpOps.keep 11 (Value.pointer (some (Addr.mk 0 0 none))) (by kernel_rfl) (by kernel_rfl) (by kernel_rfl) ?_ (fun cf => (by kernel_rfl))
  refine WpOps.keep 12 (Value.pointer (some (Addr.mk 0 1 none))) (by kernel_rfl) (by kernel_rfl) (by kernel_rfl) ?_ (fun cf => (by kernel_rfl))
  refine WpOps.laid (Value.tuple #[]) (0) (Blk.mk (Blk.elem (rd s bad)) (Blk.own (rd s bad)) [Value.string s, Value.bool true]) (by kernel_rfl) (by kernel_rfl) (by kernel_rfl) ?_ (fun cf => (by kernel_rfl))
  refine WpOps.nil ?_
  refine thenK_at ?_
  refine Wp.seq ?_
  refine Wp.text ?_
  refine WpOps.keep 2 (Value.int IntKind.i64 0) (by kernel_rfl) (by kernel_rfl) (by kernel_rfl) ?_ (fun cf => (by kernel_rfl))
  refine WpOps.nil ?_
  refine thenK_at ?_
  refine Wp.ret ?_
  refine thenK_ret ?_
  refine endK_retn [Value.int IntKind.i64 0] (Value.int IntKind.i64 0) (by kernel_rfl) (by kernel_rfl) ?_
  exact ⟨[0], by decide, by kernel_rfl, ⟨⟨_, rfl, .cons (.inl ⟨rfl, rfl⟩) (.cons (.inl ⟨rfl, rfl⟩) .nil)⟩, trivial⟩, .w (.un rfl rfl)⟩
/-- A number of two bytes at a place. -/
def num (b : ByteArray) (p : Nat) : Int := ((256 * (byteAt b p).toNat + (byteAt b (p + 1)).toNat : Nat) : Int)
theorem word_or (a b : UInt8) : IntKind.i64.wrap ((BitVec.ofInt 64 (IntKind.i64.wrap (IntKind.i64.wrap (a.toNat : Int) * 2 ^ 8)) ||| BitVec.ofInt 64 (IntKind.i64.wrap (b.toNat : Int))).toNat : Int) = ((256 * a.toNat + b.toNat : Nat) : Int) := by
  have ha : a.toNat < 256 := a.toNat_lt
  have hb : b.toNat < 256 := b.toNat_lt
  have e1 : IntKind.i64.wrap (IntKind.i64.wrap (a.toNat : Int) * 2 ^ 8) = ((a.toNat * 256 : Nat) : Int) := by
    rw [wr (a.toNat : Int) (by omega) (by omega), wr _ (by omega) (by omega)]
    omega
  have e2 : IntKind.i64.wrap (b.toNat : Int) = ((b.toNat : Nat) : Int) := wr _ (by omega) (by omega)
  rw [e1, e2, BitVec.ofInt_natCast, BitVec.ofInt_natCast, BitVec.toNat_or, BitVec.toNat_ofNat, BitVec.toNat_ofNat, Nat.mod_eq_of_lt (by omega), Nat.mod_eq_of_lt (by omega)]
  have e3 : a.toNat * 256 ||| b.toNat = 256 * a.toNat + b.toNat := by
    have := Nat.two_pow_add_eq_or_of_lt (i := 8) hb a.toNat
    rw [Nat.mul_comm]
    exact this.symm
  rw [e3, wr _ (by omega) (by omega)]
theorem byteAt_extract (b : ByteArray) (p e i : Nat) (h : p + i < e) : byteAt (b.extract p e) i = byteAt b (p + i) := by
  unfold byteAt
  rw [ByteArray.data_extract, Array.toList_extract, List.getD_eq_getElem?_getD, List.getD_eq_getElem?_getD, List.extract_eq_take_drop, List.getElem?_take, if_pos (by omega), List.getElem?_drop]
theorem ext_ext (b : ByteArray) (p e q : Nat) (he : e ≤ b.size) : (b.extract p e).extract q (b.extract p e).size = b.extract (p + q) e := by
  apply ByteArray.ext
  simp only [ByteArray.data_extract, ByteArray.size_extract, Array.extract_extract]
  congr 1
  omega
theorem number56b (s : ByteArray) (bad : Bool) (hs : 2 ≤ s.size) : Lent E 56 [.pointer (some ⟨0, 0, none⟩)] [rd s bad] (.int .i64 (num s 0)) [rd (s.extract 2 s.size) bad] := by
  refine Lent.of f56 rfl (of_decide_eq_true (by kernel_rfl)) rfl rfl (Nat.le_refl _) rfl rfl rfl ?_
  have hc : decide ((s.size : Int) < 2) = false := decide_eq_false (by omega)
  have h0 : 0 ≤ (0 : Int) ∧ (0 : Int) < s.size := by omega
  have h1 : 0 ≤ (1 : Int) ∧ (1 : Int) < s.size := by omega
  have h2 : 0 ≤ (2 : Int) ∧ (2 : Int) ≤ s.size := by omega
  have e0 := byte_get s 0 (by omega)
  have e1 := byte_get s 1 (by omega)
  refine Wp.seq ?_
  refine Wp.text ?_
  refine WpOps.keep 2 (Value.int IntKind.i64 0) (by kernel_rfl) (by kernel_rfl) (by kernel_rfl) ?_ (fun cf => (by kernel_rfl))
  refine WpOps.nil ?_
  refine thenK_at ?_
  refine Wp.seq ?_
  refine Wp.seq ?_
  refine Wp.text ?_
  refine WpOps.keep 4 (Value.pointer (some (Addr.mk 0 0 none))) (by kernel_rfl) (by kernel_rfl) (by kernel_rfl) ?_ (fun cf => (by kernel_rfl))
  refine WpOps.keep 5 (Value.pointer (some (Addr.mk 0 0 none))) (by kernel_rfl) (by kernel_rfl) (by kernel_rfl) ?_ (fun cf => (by kernel_rfl))
  refine WpOps.keep 6 (Value.pointer (some (Addr.mk 0 0 none))) (by kernel_rfl) (by kernel_rfl) (by kernel_rfl) ?_ (fun cf => (by kernel_rfl))
  refine WpOps.keep 7 (Value.string s) (by kernel_rfl) (by kernel_rfl) (by kernel_rfl) ?_ (fun cf => (by kernel_rfl))
  refine WpOps.keep 8 (Value.int IntKind.i64 (↑(ByteArray.size s) : Int)) (by kernel_rfl) (by kernel_rfl) (by kernel_rfl) ?_ (fun cf => (by kernel_rfl))
  refine WpOps.keep 9 (Value.bool false) (by kernel_rfl) (by kernel_rfl) (by kernel_rfl) ?_ (fun cf => by_fact hc ((by kernel_rfl)))
  refine WpOps.nil ?_
  refine thenK_at ?_
  refine Wp.off (by kernel_rfl) ?_
  refine Wp.skip ?_
  refine thenK_at ?_
  refine Wp.seq ?_
  refine Wp.region (by kernel_rfl) ?_
  refine WpOps.keep 13 (Value.pointer (some (Addr.mk 0 0 none))) (by kernel_rfl) (by kernel_rfl) (by kernel_rfl) ?_ (fun cf => (by kernel_rfl))
  refine WpOps.keep 14 (Value.pointer (some (Addr.mk 0 0 none))) (by kernel_rfl) (by kernel_rfl) (by kernel_rfl) ?_ (fun cf => (by kernel_rfl))
  refine WpOps.keep 15 (Value.pointer (some (Addr.mk 0 0 none))) (by kernel_rfl) (by kernel_rfl) (by kernel_rfl) ?_ (fun cf => (by kernel_rfl))
  refine WpOps.keep 16 (Value.string s) (by kernel_rfl) (by kernel_rfl) (by kernel_rfl) ?_ (fun cf => (by kernel_rfl))
  refine WpOps.keep 17 (Value.int IntKind.u8 (↑(UInt8.toNat (byteAt s 0)) : Int)) (by kernel_rfl) (by kernel_rfl) (by kernel_rfl) ?_ (fun cf => o_indexStr (of_decide_eq_true (by kernel_rfl)) e0 (by kernel_rfl) (by kernel_rfl) (by kernel_rfl))
  refine WpOps.keep 18 (Value.int IntKind.i64 (IntKind.wrap IntKind.i64 (↑(UInt8.toNat (byteAt s 0)) : Int))) (by kernel_rfl) (by kernel_rfl) (by kernel_rfl) ?_ (fun cf => (by kernel_rfl))
  refine WpOps.keep 19 (Value.int IntKind.i64 (IntKind.wrap IntKind.i64 (IntKind.wrap IntKind.i64 (↑(UInt8.toNat (byteAt s 0)) : Int) * 2 ^ 8))) (by kernel_rfl) (by kernel_rfl) (by kernel_rfl) ?_ (fun cf => (by kernel_rfl))
  refine WpOps.keep 20 (Value.pointer (some (Addr.mk 0 0 none))) (by kernel_rfl) (by kernel_rfl) (by kernel_rfl) ?_ (fun cf => (by kernel_rfl))
  refine WpOps.keep 21 (Value.pointer (some (Addr.mk 0 0 none))) (by kernel_rfl) (by kernel_rfl) (by kernel_rfl) ?_ (fun cf => (by kernel_rfl))
  refine WpOps.keep 22 (Value.pointer (some (Addr.mk 0 0 none))) (by kernel_rfl) (by kernel_rfl) (by kernel_rfl) ?_ (fun cf => (by kernel_rfl))
  refine WpOps.keep 23 (Value.string s) (by kernel_rfl) (by kernel_rfl) (by kernel_rfl) ?_ (fun cf => (by kernel_rfl))
  refine WpOps.keep 24 (Value.int IntKind.u8 (↑(UInt8.toNat (byteAt s 1)) : Int)) (by kernel_rfl) (by kernel_rfl) (by kernel_rfl) ?_ (fun cf => o_indexStr (of_decide_eq_true (by kernel_rfl)) e1 (by kernel_rfl) (by kernel_rfl) (by kernel_rfl))
  refine WpOps.keep 25 (Value.int IntKind.i64 (IntKind.wrap IntKind.i64 (↑(UInt8.toNat (byteAt s 1)) : Int))) (by kernel_rfl) (by kernel_rfl) (by kernel_rfl) ?_ (fun cf => (by kernel_rfl))
  refine WpOps.keep 26 (Value.int IntKind.i64 (IntKind.wrap IntKind.i64 (↑(BitVec.toNat (BitVec.ofInt 64 (IntKind.wrap IntKind.i64 (IntKind.wrap IntKind.i64 (↑(UInt8.toNat (byteAt s 0)) : Int) * 2 ^ 8)) ||| BitVec.ofInt 64 (IntKind.wrap IntKind.i64 (↑(UInt8.toNat (byteAt s 1)) : Int)))) : Int))) (by kernel_rfl) (by kernel_rfl) (by kernel_rfl) ?_ (fun cf => (by kernel_rfl))
  refine WpOps.keep 3 (Value.int IntKind.i64 (IntKind.wrap IntKind.i64 (↑(BitVec.toNat (BitVec.ofInt 64 (IntKind.wrap IntKind.i64 (IntKind.wrap IntKind.i64 (↑(UInt8.toNat (byteAt s 0)) : Int) * 2 ^ 8)) ||| BitVec.ofInt 64 (IntKind.wrap IntKind.i64 (↑(UInt8.toNat (byteAt s 1)) : Int)))) : Int))) (by kernel_rfl) (by kernel_rfl) (by kernel_rfl) ?_ (fun cf => (by kernel_rfl))
  refine WpOps.nil ?_
  refine thenK_at ?_
  refine Wp.seq ?_
  refine Wp.text ?_
  refine WpOps.keep 27 (Value.pointer (some (Addr.mk 0 0 none))) (by kernel_rfl) (by kernel_rfl) (by kernel_rfl) ?_ (fun cf => (by kernel_rfl))
  refine WpOps.keep 28 (Value.pointer (some (Addr.mk 0 0 none))) (by kernel_rfl) (by kernel_rfl) (by kernel_rfl) ?_ (fun cf => (by kernel_rfl))
  refine WpOps.keep 29 (Value.pointer (some (Addr.mk 0 0 none))) (by kernel_rfl) (by kernel_rfl) (by kernel_rfl) ?_ (fun cf => (by kernel_rfl))
  refine WpOps.keep 30 (Value.pointer (some (Addr.mk 0 0 none))) (by kernel_rfl) (by kernel_rfl) (by kernel_rfl) ?_ (fun cf => (by kernel_rfl))
  refine WpOps.keep 31 (Value.string s) (by kernel_rfl) (by kernel_rfl) (by kernel_rfl) ?_ (fun cf => (by kernel_rfl))
  refine WpOps.keep 32 (Value.string (ByteArray.extract s 2 (ByteArray.size s))) (by kernel_rfl) (by kernel_rfl) (by kernel_rfl) ?_ (fun cf => o_cut_lo h2 (by kernel_rfl) (by kernel_rfl) (by kernel_rfl))
  refine WpOps.keep 33 (Value.pointer (some (Addr.mk 0 0 none))) (by kernel_rfl) (by kernel_rfl) (by kernel_rfl) ?_ (fun cf => (by kernel_rfl))
  refine WpOps.keep 34 (Value.pointer (some (Addr.mk 0 0 none))) (by kernel_rfl) (by kernel_rfl) (by kernel_rfl) ?_ (fun cf => (by kernel_rfl))
  refine WpOps.laid (Value.tuple #[]) (0) (Blk.mk (Blk.elem (rd s bad)) (Blk.own (rd s bad)) [Value.string (ByteArray.extract s 2 (ByteArray.size s)), Value.bool bad]) (by kernel_rfl) (by kernel_rfl) (by kernel_rfl) ?_ (fun cf => (by kernel_rfl))
  refine WpOps.nil ?_
  refine thenK_at ?_
  refine Wp.seq ?_
  refine Wp.text ?_
  refine WpOps.keep 35 (Value.int IntKind.i64 (IntKind.wrap IntKind.i64 (↑(BitVec.toNat (BitVec.ofInt 64 (IntKind.wrap IntKind.i64 (IntKind.wrap IntKind.i64 (↑(UInt8.toNat (byteAt s 0)) : Int) * 2 ^ 8)) ||| BitVec.ofInt 64 (IntKind.wrap IntKind.i64 (↑(UInt8.toNat (byteAt s 1)) : Int)))) : Int))) (by kernel_rfl) (by kernel_rfl) (by kernel_rfl) ?_ (fun cf => (by kernel_rfl))
  refine WpOps.keep 2 (Value.int IntKind.i64 (IntKind.wrap IntKind.i64 (↑(BitVec.toNat (BitVec.ofInt 64 (IntKind.wrap IntKind.i64 (IntKind.wrap IntKind.i64 (↑(UInt8.toNat (byteAt s 0)) : Int) * 2 ^ 8)) ||| BitVec.ofInt 64 (IntKind.wrap IntKind.i64 (↑(UInt8.toNat (byteAt s 1)) : Int)))) : Int))) (by kernel_rfl) (by kernel_rfl) (by kernel_rfl) ?_ (fun cf => (by kernel_rfl))
  refine WpOps.nil ?_
  refine thenK_at ?_
  refine Wp.ret ?_
  refine endK_retn [Value.int IntKind.i64 (IntKind.wrap IntKind.i64 (↑(BitVec.toNat (BitVec.ofInt 64 (IntKind.wrap IntKind.i64 (IntKind.wrap IntKind.i64 (↑(UInt8.toNat (byteAt s 0)) : Int) * 2 ^ 8)) ||| BitVec.ofInt 64 (IntKind.wrap IntKind.i64 (↑(UInt8.toNat (byteAt s 1)) : Int)))) : Int))] (Value.int IntKind.i64 (IntKind.wrap IntKind.i64 (↑(BitVec.toNat (BitVec.ofInt 64 (IntKind.wrap IntKind.i64 (IntKind.wrap IntKind.i64 (↑(UInt8.toNat (byteAt s 0)) : Int) * 2 ^ 8)) ||| BitVec.ofInt 64 (IntKind.wrap IntKind.i64 (↑(UInt8.toNat (byteAt s 1)) : Int)))) : Int))) (by kernel_rfl) (by kernel_rfl) ?_
  exact ⟨[0], by decide, by kernel_rfl, ⟨⟨_, rfl, .cons (.inl ⟨rfl, rfl⟩) (.cons (.inl ⟨rfl, rfl⟩) .nil)⟩, trivial⟩, .w (.un (congrArg (Value.int .i64) (word_or _ _)) rfl)⟩
theorem numB (b : ByteArray) (p e : Nat) (bad : Bool) (h : p + 2 ≤ e) (he : e ≤ b.size) : Lent E 56 [.pointer (some ⟨0, 0, none⟩)] [rd (b.extract p e) bad] (.int .i64 (num b p)) [rd (b.extract (p + 2) e) bad] := by
  have hz : (b.extract p e).size = e - p := by rw [ByteArray.size_extract]; omega
  have := number56b (b.extract p e) bad (by omega)
  have e1 : num (b.extract p e) 0 = num b p := by
    unfold num
    rw [byteAt_extract b p e 0 (by omega), byteAt_extract b p e (0 + 1) (by omega)]
    rfl
  rwa [e1, ext_ext b p e 2 he] at this
theorem numE (b : ByteArray) (p e : Nat) (bad : Bool) (h : e < p + 2) (he : e ≤ b.size) : Lent E 56 [.pointer (some ⟨0, 0, none⟩)] [rd (b.extract p e) bad] (.int .i64 0) [rd (b.extract p e) true] := by
  have hz : (b.extract p e).size = e - p := by rw [ByteArray.size_extract]; omega
  exact number56 _ _ (by omega)

theorem f57 : E.funcs 57 = some Try.f57 := by kernel_rfl
/-- What is read at a place, 0 if it is not there. -/
def numO (b : ByteArray) (e q : Nat) : Int := if q + 2 ≤ e then num b q else 0
def row (b : ByteArray) (e p i : Nat) : List Int := (List.range i).map fun j => numO b e (p + 2 * j)
def rdS (b : ByteArray) (e p i : Nat) : ByteArray := if p + 2 * i ≤ e then b.extract (p + 2 * i) e else b.extract (p + 2 * (i - 1)) e
def rdB (e p i : Nat) : Bool := decide (e < p + 2 * i)
theorem numStep (b : ByteArray) (e p i : Nat) (he : e ≤ b.size) (h : rdB e p i = false) : Lent E 56 [.pointer (some ⟨0, 0, none⟩)] [rd (rdS b e p i) (rdB e p i)] (.int .i64 (numO b e (p + 2 * i))) [rd (rdS b e p (i + 1)) (rdB e p (i + 1))] := by
  have h1 : p + 2 * i ≤ e := by have := of_decide_eq_false h; omega
  have e1 : rdS b e p i = b.extract (p + 2 * i) e := if_pos h1
  rw [e1, h]
  by_cases h2 : p + 2 * i + 2 ≤ e
  · have e2 : rdS b e p (i + 1) = b.extract (p + 2 * i + 2) e := if_pos (by omega)
    have e3 : rdB e p (i + 1) = false := decide_eq_false (by omega)
    have e4 : numO b e (p + 2 * i) = num b (p + 2 * i) := if_pos h2
    rw [e2, e3, e4]
    exact numB b _ e false h2 he
  · have e2 : rdS b e p (i + 1) = b.extract (p + 2 * i) e := if_neg (by omega)
    have e3 : rdB e p (i + 1) = true := decide_eq_true (by omega)
    have e4 : numO b e (p + 2 * i) = 0 := if_neg h2
    rw [e2, e3, e4]
    exact numE b _ e false (by omega) he
def rowC (b : ByteArray) (e p i : Nat) : List Value := (row b e p i).map fun n => Value.int .i64 n
theorem row_len (b : ByteArray) (e p i : Nat) : (row b e p i).length = i := by simp [row]
theorem rowC_len (b : ByteArray) (e p i : Nat) : (rowC b e p i).length = i := by simp [rowC, row_len]
theorem rowC_flat (b : ByteArray) (e p i : Nat) : (rowC b e p i).all flat = true := List.all_eq_true.2 (sl_flat _)
theorem rowC_succ (b : ByteArray) (e p i : Nat) : rowC b e p (i + 1) = rowC b e p i ++ [.int .i64 (numO b e (p + 2 * i))] := by simp [rowC, row, List.range_succ]
theorem rowC_all (b : ByteArray) (e p i : Nat) : cellsAt (rowC b e p i) 0 (i * 1) = some (rowC b e p i) := by
  have h := rowC_len b e p i
  simp only [cellsAt, Nat.zero_add, h, Nat.mul_one, Nat.le_refl, if_true, List.drop_zero]
  rw [List.take_of_length_le (by rw [h]; exact Nat.le_refl _)]

/-- No number. -/
theorem addrNo (b : ByteArray) (p e : Nat) (bad : Bool) (h : e < p + 2) (he : e ≤ b.size) : Lent E 57 [.pointer (some ⟨0, 0, none⟩)] [rd (b.extract p e) bad] (sl 2 []) [rd (b.extract p e) true] := by
  refine Lent.of f57 rfl (of_decide_eq_true (by kernel_rfl)) rfl rfl (Nat.le_refl _) rfl rfl rfl ?_
  have c := numE b p e bad h he
  refine Wp.seq ?_
  refine Wp.text ?_
  refine WpOps.keep 2 (Value.slice none 0 0) (by kernel_rfl) (by kernel_rfl) (by kernel_rfl) ?_ (fun cf => (by kernel_rfl))
  refine WpOps.nil ?_
  refine thenK_at ?_
  refine Wp.seq ?_
  refine Wp.text ?_
  refine WpOps.keep 3 (Value.slice none 0 0) (by kernel_rfl) (by kernel_rfl) (by kernel_rfl) ?_ (fun cf => (by kernel_rfl))
  refine WpOps.nil ?_
  refine thenK_at ?_
  refine Wp.seq ?_
  refine Wp.seq ?_
  refine Wp.text ?_
  refine WpOps.keep 5 (Value.pointer (some (Addr.mk 0 0 none))) (by kernel_rfl) (by kernel_rfl) (by kernel_rfl) ?_ (fun cf => (by kernel_rfl))
  refine WpOps.called 6 56 [Value.pointer (some (Addr.mk 0 0 none))] (by kernel_rfl) (by kernel_rfl) (by kernel_rfl) (by kernel_rfl) (fun cf => (by kernel_rfl)) ?_
  refine WpCall.lent [0] (c) (by decide) ⟨⟨[Value.string (ByteArray.extract b p e), Value.bool bad], (by kernel_rfl), (by kernel_rfl), (by kernel_rfl)⟩, trivial⟩ (by kernel_rfl) (Value.int IntKind.i64 0) ([Blk.mk 113 true [Value.string (ByteArray.extract b p e), Value.bool true]]) (.cons (by kernel_rfl) .nil) (by kernel_rfl) (Heap.set (heapOf [rd (ByteArray.extract b p e) bad]) 0 (some (Blk.mk 113 true [Value.string (ByteArray.extract b p e), Value.bool true]))) (by kernel_rfl) ?_
  refine WpOps.keep 4 (Value.int IntKind.i64 0) (by kernel_rfl) (by kernel_rfl) (by kernel_rfl) ?_ (fun cf => (by kernel_rfl))
  refine WpOps.nil ?_
  refine thenK_at ?_
  refine Wp.block ?_
  refine Wp.unroll (WpL.step ?_)
  refine Wp.seq ?_
  refine Wp.seq ?_
  refine Wp.text ?_
  refine WpOps.keep 7 (Value.int IntKind.i64 0) (by kernel_rfl) (by kernel_rfl) (by kernel_rfl) ?_ (fun cf => (by kernel_rfl))
  refine WpOps.keep 8 (Value.bool false) (by kernel_rfl) (by kernel_rfl) (by kernel_rfl) ?_ (fun cf => (by kernel_rfl))
  refine WpOps.keep 9 (Value.bool false) (by kernel_rfl) (by kernel_rfl) (by kernel_rfl) ?_ (fun cf => (by kernel_rfl))
  refine WpOps.unmet 10 (by kernel_rfl) (by kernel_rfl) (by kernel_rfl) ?_
  refine WpOps.unmet 11 (by kernel_rfl) (by kernel_rfl) (by kernel_rfl) ?_
  refine WpOps.unmet 12 (by kernel_rfl) (by kernel_rfl) (by kernel_rfl) ?_
  refine WpOps.unmet 13 (by kernel_rfl) (by kernel_rfl) (by kernel_rfl) ?_
  refine WpOps.unmet 14 (by kernel_rfl) (by kernel_rfl) (by kernel_rfl) ?_
  refine WpOps.keep 15 (Value.bool false) (by kernel_rfl) (by kernel_rfl) (by kernel_rfl) ?_ (fun cf => (by kernel_rfl))
  refine WpOps.nil ?_
  refine thenK_at ?_
  refine Wp.off (by kernel_rfl) ?_
  refine Wp.exit ?_
  refine thenK_exit ?_
  refine thenK_exit ?_
  refine blockK_hit ?_
  refine thenK_at ?_
  refine Wp.seq ?_
  refine Wp.text ?_
  refine WpOps.keep 23 (Value.slice none 0 0) (by kernel_rfl) (by kernel_rfl) (by kernel_rfl) ?_ (fun cf => (by kernel_rfl))
  refine WpOps.keep 2 (Value.slice none 0 0) (by kernel_rfl) (by kernel_rfl) (by kernel_rfl) ?_ (fun cf => (by kernel_rfl))
  refine WpOps.nil ?_
  refine thenK_at ?_
  refine Wp.ret ?_
  refine endK_retn [Value.slice none 0 0] (Value.slice none 0 0) (by kernel_rfl) (by kernel_rfl) ?_
  obtain ⟨ti, ht⟩ := E3
  exact ⟨[0], by decide, by kernel_rfl, ⟨⟨_, rfl, .cons (.inl ⟨rfl, rfl⟩) (.cons (.inl ⟨rfl, rfl⟩) .nil)⟩, trivial⟩, .w (.ice _ rfl (.c (.inr ⟨rfl, 3, ti, ht, rfl⟩)))⟩
/-- None is wanted. -/
theorem addr0 (b : ByteArray) (p e : Nat) (h : p + 2 ≤ e) (he : e ≤ b.size) (hn : num b p = 0) : Lent E 57 [.pointer (some ⟨0, 0, none⟩)] [rd (b.extract p e) false] (sl 2 []) [rd (b.extract (p + 2) e) false] := by
  refine Lent.of f57 rfl (of_decide_eq_true (by kernel_rfl)) rfl rfl (Nat.le_refl _) rfl rfl rfl ?_
  have c := numB b p e false h he
  rw [hn] at c
  refine Wp.seq ?_
  refine Wp.text ?_
  refine WpOps.keep 2 (Value.slice none 0 0) (by kernel_rfl) (by kernel_rfl) (by kernel_rfl) ?_ (fun cf => (by kernel_rfl))
  refine WpOps.nil ?_
  refine thenK_at ?_
  refine Wp.seq ?_
  refine Wp.text ?_
  refine WpOps.keep 3 (Value.slice none 0 0) (by kernel_rfl) (by kernel_rfl) (by kernel_rfl) ?_ (fun cf => (by kernel_rfl))
  refine WpOps.nil ?_
  refine thenK_at ?_
  refine Wp.seq ?_
  refine Wp.seq ?_
  refine Wp.text ?_
  refine WpOps.keep 5 (Value.pointer (some (Addr.mk 0 0 none))) (by kernel_rfl) (by kernel_rfl) (by kernel_rfl) ?_ (fun cf => (by kernel_rfl))
  refine WpOps.called 6 56 [Value.pointer (some (Addr.mk 0 0 none))] (by kernel_rfl) (by kernel_rfl) (by kernel_rfl) (by kernel_rfl) (fun cf => (by kernel_rfl)) ?_
  refine WpCall.lent [0] (c) (by decide) ⟨⟨[Value.string (ByteArray.extract b p e), Value.bool false], (by kernel_rfl), (by kernel_rfl), (by kernel_rfl)⟩, trivial⟩ (by kernel_rfl) (Value.int IntKind.i64 0) ([Blk.mk 113 true [Value.string (ByteArray.extract b (p + 2) e), Value.bool false]]) (.cons (by kernel_rfl) .nil) (by kernel_rfl) (Heap.set (heapOf [rd (ByteArray.extract b p e) false]) 0 (some (Blk.mk 113 true [Value.string (ByteArray.extract b (p + 2) e), Value.bool false]))) (by kernel_rfl) ?_
  refine WpOps.keep 4 (Value.int IntKind.i64 0) (by kernel_rfl) (by kernel_rfl) (by kernel_rfl) ?_ (fun cf => (by kernel_rfl))
  refine WpOps.nil ?_
  refine thenK_at ?_
  refine Wp.block ?_
  refine Wp.unroll (WpL.step ?_)
  refine Wp.seq ?_
  refine Wp.seq ?_
  refine Wp.text ?_
  refine WpOps.keep 7 (Value.int IntKind.i64 0) (by kernel_rfl) (by kernel_rfl) (by kernel_rfl) ?_ (fun cf => (by kernel_rfl))
  refine WpOps.keep 8 (Value.bool false) (by kernel_rfl) (by kernel_rfl) (by kernel_rfl) ?_ (fun cf => (by kernel_rfl))
  refine WpOps.keep 9 (Value.bool false) (by kernel_rfl) (by kernel_rfl) (by kernel_rfl) ?_ (fun cf => (by kernel_rfl))
  refine WpOps.unmet 10 (by kernel_rfl) (by kernel_rfl) (by kernel_rfl) ?_
  refine WpOps.unmet 11 (by kernel_rfl) (by kernel_rfl) (by kernel_rfl) ?_
  refine WpOps.unmet 12 (by kernel_rfl) (by kernel_rfl) (by kernel_rfl) ?_
  refine WpOps.unmet 13 (by kernel_rfl) (by kernel_rfl) (by kernel_rfl) ?_
  refine WpOps.unmet 14 (by kernel_rfl) (by kernel_rfl) (by kernel_rfl) ?_
  refine WpOps.keep 15 (Value.bool false) (by kernel_rfl) (by kernel_rfl) (by kernel_rfl) ?_ (fun cf => (by kernel_rfl))
  refine WpOps.nil ?_
  refine thenK_at ?_
  refine Wp.off (by kernel_rfl) ?_
  refine Wp.exit ?_
  refine thenK_exit ?_
  refine thenK_exit ?_
  refine blockK_hit ?_
  refine thenK_at ?_
  refine Wp.seq ?_
  refine Wp.text ?_
  refine WpOps.keep 23 (Value.slice none 0 0) (by kernel_rfl) (by kernel_rfl) (by kernel_rfl) ?_ (fun cf => (by kernel_rfl))
  refine WpOps.keep 2 (Value.slice none 0 0) (by kernel_rfl) (by kernel_rfl) (by kernel_rfl) ?_ (fun cf => (by kernel_rfl))
  refine WpOps.nil ?_
  refine thenK_at ?_
  refine Wp.ret ?_
  refine endK_retn [Value.slice none 0 0] (Value.slice none 0 0) (by kernel_rfl) (by kernel_rfl) ?_
  obtain ⟨ti, ht⟩ := E3
  exact ⟨[0], by decide, by kernel_rfl, ⟨⟨_, rfl, .cons (.inl ⟨rfl, rfl⟩) (.cons (.inl ⟨rfl, rfl⟩) .nil)⟩, trivial⟩, .w (.ice _ rfl (.c (.inr ⟨rfl, 3, ti, ht, rfl⟩)))⟩
/-- How many are read. -/
def reads (e p n : Nat) : Nat := if p + 2 * n ≤ e then n else (e - p) / 2 + 1
theorem addr1 (b : ByteArray) (p e n : Nat) (h : p + 2 ≤ e) (he : e ≤ b.size) (hn : num b p = (n : Int)) (h0 : 0 < n) (hs : n ≤ 65535) : Lent E 57 [.pointer (some ⟨0, 0, none⟩)] [rd (b.extract p e) false] (sl 0 (row b e (p + 2) (reads e (p + 2) n))) [rd (rdS b e (p + 2) (reads e (p + 2) n)) (rdB e (p + 2) (reads e (p + 2) n))] := by
  refine Lent.of f57 rfl (of_decide_eq_true (by kernel_rfl)) rfl rfl (Nat.le_refl _) rfl rfl rfl ?_
  have e0 : rdS b e (p + 2) 0 = b.extract (p + 2) e := if_pos h
  have e2 : rdB e (p + 2) 0 = false := decide_eq_false (by omega)
  have c : Lent E 56 [.pointer (some ⟨0, 0, none⟩)] [rd (b.extract p e) false] (.int .i64 (n : Int)) [rd (rdS b e (p + 2) 0) (rdB e (p + 2) 0)] := by
    rw [e0, e2, ← hn]
    exact numB b p e false h he
  refine Wp.seq ?_
  refine Wp.text ?_
  refine WpOps.keep 2 (Value.slice none 0 0) (by kernel_rfl) (by kernel_rfl) (by kernel_rfl) ?_ (fun cf => (by kernel_rfl))
  refine WpOps.nil ?_
  refine thenK_at ?_
  refine Wp.seq ?_
  refine Wp.text ?_
  refine WpOps.keep 3 (Value.slice none 0 0) (by kernel_rfl) (by kernel_rfl) (by kernel_rfl) ?_ (fun cf => (by kernel_rfl))
  refine WpOps.nil ?_
  refine thenK_at ?_
  refine Wp.seq ?_
  refine Wp.seq ?_
  refine Wp.text ?_
  refine WpOps.keep 5 (Value.pointer (some (Addr.mk 0 0 none))) (by kernel_rfl) (by kernel_rfl) (by kernel_rfl) ?_ (fun cf => (by kernel_rfl))
  refine WpOps.called 6 56 [Value.pointer (some (Addr.mk 0 0 none))] (by kernel_rfl) (by kernel_rfl) (by kernel_rfl) (by kernel_rfl) (fun cf => (by kernel_rfl)) ?_
  refine WpCall.lent [0] (c) (by decide) ⟨⟨[Value.string (ByteArray.extract b p e), Value.bool false], (by kernel_rfl), (by kernel_rfl), (by kernel_rfl)⟩, trivial⟩ (by kernel_rfl) (Value.int IntKind.i64 (↑n : Int)) ([Blk.mk 113 true [Value.string (rdS b e (p + 2) 0), Value.bool (rdB e (p + 2) 0)]]) (.cons (by kernel_rfl) .nil) (by kernel_rfl) (Heap.set (heapOf [rd (ByteArray.extract b p e) false]) 0 (some (Blk.mk 113 true [Value.string (rdS b e (p + 2) 0), Value.bool (rdB e (p + 2) 0)]))) (by kernel_rfl) ?_
  refine WpOps.keep 4 (Value.int IntKind.i64 (↑n : Int)) (by kernel_rfl) (by kernel_rfl) (by kernel_rfl) ?_ (fun cf => (by kernel_rfl))
  refine WpOps.nil ?_
  refine thenK_at ?_
  refine Wp.block ?_
  refine Wp.view (View.of [0] [rd (rdS b e (p + 2) 0) (rdB e (p + 2) 0)] [(0, .pointer (some ⟨0, 0, none⟩)), (3, .slice none 0 0), (4, .int .i64 (((n - 0 : Nat)) : Int))] (by decide) rfl ⟨⟨_, by kernel_rfl, CellsOk.eq rfl rfl⟩, trivial⟩ ⟨⟨by kernel_rfl, rfl⟩, ⟨by kernel_rfl, rfl⟩, ⟨by kernel_rfl, rfl⟩, trivial⟩) ?_
  refine Wp.unroll (WpL.step ?_)
  have c0 := numStep b e (p + 2) 0 he e2
  have hc0 : decide (((n - 0 : Nat) : Int) > 0) = true := decide_eq_true (by omega)
  have hb0 : (!rdB e (p + 2) 0) = true := by rw [e2]; rfl
  refine Wp.seq ?_
  refine Wp.seq ?_
  refine Wp.text ?_
  refine WpOps.keep 7 (Value.int IntKind.i64 (↑(n - 0) : Int)) (by kernel_rfl) (by kernel_rfl) (by kernel_rfl) ?_ (fun cf => (by kernel_rfl))
  refine WpOps.keep 8 (Value.bool true) (by kernel_rfl) (by kernel_rfl) (by kernel_rfl) ?_ (fun cf => by_fact hc0 ((by kernel_rfl)))
  refine WpOps.keep 9 (Value.bool true) (by kernel_rfl) (by kernel_rfl) (by kernel_rfl) ?_ (fun cf => (by kernel_rfl))
  refine WpOps.keep 10 (Value.pointer (some (Addr.mk 0 0 none))) (by kernel_rfl) (by kernel_rfl) (by kernel_rfl) ?_ (fun cf => (by kernel_rfl))
  refine WpOps.keep 11 (Value.pointer (some (Addr.mk 0 0 none))) (by kernel_rfl) (by kernel_rfl) (by kernel_rfl) ?_ (fun cf => (by kernel_rfl))
  refine WpOps.keep 12 (Value.pointer (some (Addr.mk 0 1 none))) (by kernel_rfl) (by kernel_rfl) (by kernel_rfl) ?_ (fun cf => (by kernel_rfl))
  refine WpOps.keep 13 (Value.bool false) (by kernel_rfl) (by kernel_rfl) (by kernel_rfl) ?_ (fun cf => by_fact e2 ((by kernel_rfl)))
  refine WpOps.keep 14 (Value.bool true) (by kernel_rfl) (by kernel_rfl) (by kernel_rfl) ?_ (fun cf => (by kernel_rfl))
  refine WpOps.keep 15 (Value.bool true) (by kernel_rfl) (by kernel_rfl) (by kernel_rfl) ?_ (fun cf => (by kernel_rfl))
  refine WpOps.nil ?_
  refine thenK_at ?_
  refine Wp.on (by kernel_rfl) ?_
  refine Wp.skip ?_
  refine thenK_at ?_
  refine Wp.seq ?_
  refine Wp.block ?_
  refine Wp.text ?_
  refine WpOps.keep 18 (Value.slice none 0 0) (by kernel_rfl) (by kernel_rfl) (by kernel_rfl) ?_ (fun cf => (by kernel_rfl))
  refine WpOps.keep 19 (Value.pointer (some (Addr.mk 0 0 none))) (by kernel_rfl) (by kernel_rfl) (by kernel_rfl) ?_ (fun cf => (by kernel_rfl))
  refine WpOps.called 20 56 [Value.pointer (some (Addr.mk 0 0 none))] (by kernel_rfl) (by kernel_rfl) (by kernel_rfl) (by kernel_rfl) (fun cf => (by kernel_rfl)) ?_
  refine WpCall.lent [0] (c0) (by decide) ⟨⟨[Value.string (rdS b e (p + 2) 0), Value.bool (rdB e (p + 2) 0)], (by kernel_rfl), (by kernel_rfl), (by kernel_rfl)⟩, trivial⟩ (by kernel_rfl) (Value.int IntKind.i64 (numO b e (p + 2 + 2 * 0))) ([Blk.mk 113 true [Value.string (rdS b e (p + 2) (0 + 1)), Value.bool (rdB e (p + 2) (0 + 1))]]) (.cons (by kernel_rfl) .nil) (by kernel_rfl) (Heap.set (heapOf [rd (rdS b e (p + 2) 0) (rdB e (p + 2) 0)]) 0 (some (Blk.mk 113 true [Value.string (rdS b e (p + 2) 1), Value.bool (rdB e (p + 2) 1)]))) (by kernel_rfl) ?_
  refine WpOps.made 21 (Value.slice (some (Addr.mk 1 0 none)) 1 1) (Blk.mk 3 true [Value.int IntKind.i64 (numO b e (p + 2 + 2 * 0))]) (by kernel_rfl) (by kernel_rfl) (by kernel_rfl) ?_ (fun cf => (by kernel_rfl))
  refine WpOps.chg 22 (Value.slice (some (Addr.mk 2 0 none)) 1 1) (Heap.alloc (Heap.alloc (Heap.set (heapOf [rd (rdS b e (p + 2) 0) (rdB e (p + 2) 0)]) 0 (some (Blk.mk 113 true [Value.string (rdS b e (p + 2) 1), Value.bool (rdB e (p + 2) 1)]))) (Blk.mk 3 true [Value.int IntKind.i64 (numO b e (p + 2 + 0))])) (Blk.mk 3 true [Value.int IntKind.i64 (numO b e (p + 2 + 0))])) (by kernel_rfl) (by kernel_rfl) (by kernel_rfl) ?_ (fun cf => (by kernel_rfl))
  refine WpOps.keep 3 (Value.slice (some (Addr.mk 2 0 none)) 1 1) (by kernel_rfl) (by kernel_rfl) (by kernel_rfl) ?_ (fun cf => (by kernel_rfl))
  refine WpOps.nil ?_
  refine blockK_norm ?_
  refine thenK_at ?_
  refine Wp.text ?_
  refine WpOps.keep 16 (Value.int IntKind.i64 (↑(n - 0) : Int)) (by kernel_rfl) (by kernel_rfl) (by kernel_rfl) ?_ (fun cf => (by kernel_rfl))
  refine WpOps.keep 17 (Value.int IntKind.i64 (IntKind.wrap IntKind.i64 ((↑(n - 0) : Int) - 1))) (by kernel_rfl) (by kernel_rfl) (by kernel_rfl) ?_ (fun cf => (by kernel_rfl))
  refine WpOps.keep 4 (Value.int IntKind.i64 (IntKind.wrap IntKind.i64 ((↑(n - 0) : Int) - 1))) (by kernel_rfl) (by kernel_rfl) (by kernel_rfl) ?_ (fun cf => (by kernel_rfl))
  refine WpOps.nil ?_
  refine thenK_at ?_
  refine WpL.loop (G := Nat) (fun i => layj [(0, .pointer (some ⟨0, 0, none⟩)), (3, .slice (some ⟨1, 0, none⟩) i i), (4, .int .i64 (((n - i : Nat)) : Int))]) (fun i => heapOf [rd (rdS b e (p + 2) i) (rdB e (p + 2) i), ⟨3, true, rowC b e (p + 2) i⟩]) (fun i => n - i) (fun i => 1 ≤ i ∧ i ≤ n ∧ rdB e (p + 2) (i - 1) = false) 1
    (View.of [0, 2] [rd (rdS b e (p + 2) 1) (rdB e (p + 2) 1), ⟨3, true, rowC b e (p + 2) 1⟩] _ (by decide) rfl ⟨⟨_, by kernel_rfl, CellsOk.eq rfl rfl⟩, ⟨_, by kernel_rfl, CellsOk.eq rfl (rowC_flat b e (p + 2) 1)⟩, trivial⟩
      ⟨⟨by kernel_rfl, rfl⟩, ⟨by kernel_rfl, rfl⟩, ⟨congrArg (Value.int .i64) (by rw [wr _ (by omega) (by omega)]; omega), rfl⟩, trivial⟩) ⟨Nat.le_refl _, h0, e2⟩ ?_
  rintro i ⟨hi1, hin, hib⟩
  refine Wp.seq ?_
  refine Wp.seq ?_
  refine Wp.text ?_
  refine WpOps.keep 7 (Value.int IntKind.i64 (↑(n - i) : Int)) (by kernel_rfl) (by kernel_rfl) (by kernel_rfl) ?_ (fun cf => (by kernel_rfl))
  refine WpOps.keep 8 (Value.bool (decide ((↑(n - i) : Int) > 0))) (by kernel_rfl) (by kernel_rfl) (by kernel_rfl) ?_ (fun cf => (by kernel_rfl))
  refine WpOps.keep 9 (Value.bool (decide ((↑(n - i) : Int) > 0))) (by kernel_rfl) (by kernel_rfl) (by kernel_rfl) ?_ (fun cf => (by kernel_rfl))
  refine WpOps.fork 6 (decide ((↑(n - i) : Int) > 0)) [10, 11, 12, 13, 14, 15] 15 (!rdB e (p + 2) i) (false) (by kernel_rfl) (fun g15 => ?_) (fun g15 => ?_) (fun f_15 b15 hb15 => ?_)
  · refine WpOps.keep 10 (Value.pointer (some (Addr.mk 0 0 none))) (by kernel_rfl) (by kernel_rfl) (wants_tt g15 (by kernel_rfl)) ?_ (fun cf => (by kernel_rfl))
    refine WpOps.keep 11 (Value.pointer (some (Addr.mk 0 0 none))) (by kernel_rfl) (by kernel_rfl) (wants_tt g15 (by kernel_rfl)) ?_ (fun cf => (by kernel_rfl))
    refine WpOps.keep 12 (Value.pointer (some (Addr.mk 0 1 none))) (by kernel_rfl) (by kernel_rfl) (wants_tt g15 (by kernel_rfl)) ?_ (fun cf => (by kernel_rfl))
    refine WpOps.keep 13 (Value.bool (rdB e (p + 2) i)) (by kernel_rfl) (by kernel_rfl) (wants_tt g15 (by kernel_rfl)) ?_ (fun cf => (by kernel_rfl))
    refine WpOps.keep 14 (Value.bool !rdB e (p + 2) i) (by kernel_rfl) (by kernel_rfl) (wants_tt g15 (by kernel_rfl)) ?_ (fun cf => (by kernel_rfl))
    refine WpOps.keep 15 (Value.bool !rdB e (p + 2) i) (by kernel_rfl) (by kernel_rfl) (by kernel_rfl) ?_ (fun cf => o_pickT g15 (by kernel_rfl) (by kernel_rfl))
    refine WpOps.nil ?_
    exact ⟨rfl, (.upd rfl (.upd rfl (.upd rfl (.upd rfl (.upd rfl (.upd rfl .refl)))))), (by kernel_rfl)⟩
  · refine WpOps.unmet 10 (by kernel_rfl) (by kernel_rfl) (wants_ft g15 (by kernel_rfl)) ?_
    refine WpOps.unmet 11 (by kernel_rfl) (by kernel_rfl) (wants_ft g15 (by kernel_rfl)) ?_
    refine WpOps.unmet 12 (by kernel_rfl) (by kernel_rfl) (wants_ft g15 (by kernel_rfl)) ?_
    refine WpOps.unmet 13 (by kernel_rfl) (by kernel_rfl) (wants_ft g15 (by kernel_rfl)) ?_
    refine WpOps.unmet 14 (by kernel_rfl) (by kernel_rfl) (wants_ft g15 (by kernel_rfl)) ?_
    refine WpOps.keep 15 (Value.bool false) (by kernel_rfl) (by kernel_rfl) (by kernel_rfl) ?_ (fun cf => o_pickF g15 (by kernel_rfl) (by kernel_rfl))
    refine WpOps.nil ?_
    exact ⟨rfl, (.upd rfl (.upd rfl (.upd rfl (.upd rfl (.upd rfl (.upd rfl .refl)))))), (by kernel_rfl)⟩
  refine WpOps.nil ?_
  refine thenK_at ?_
  refine Wp.split (b15) (by kernel_rfl) (fun hc => ?_) (fun hc => ?_)
  · rw [hb15] at hc
    have hlt : i < n := by
      cases hq : decide (((n - i : Nat) : Int) > 0) with
      | true => have := of_decide_eq_true hq; omega
      | false => rw [hq] at hc; cases hc
    have hbi : rdB e (p + 2) i = false := by
      rw [show decide (((n - i : Nat) : Int) > 0) = true from decide_eq_true (by omega)] at hc
      simpa using hc
    have c1 := numStep b e (p + 2) i he hbi
    have a1 : ¬ (i + 1 ≤ i) := by omega
    have a2 : 1 ≤ 8 ∧ (i + 1) * 8 ≤ 140737488355328 ∧ 1 = 1 ∧ i + 1 ≤ 9223372036854775807 := by omega
    have a3 := rowC_all b e (p + 2) i
    refine Wp.skip ?_
    refine thenK_at ?_
    refine Wp.seq ?_
    refine Wp.block ?_
    refine Wp.text ?_
    refine WpOps.keep 18 (Value.slice (some (Addr.mk 1 0 none)) i i) (by kernel_rfl) (by kernel_rfl) (by kernel_rfl) ?_ (fun cf => (by kernel_rfl))
    refine WpOps.keep 19 (Value.pointer (some (Addr.mk 0 0 none))) (by kernel_rfl) (by kernel_rfl) (by kernel_rfl) ?_ (fun cf => (by kernel_rfl))
    refine WpOps.called 20 56 [Value.pointer (some (Addr.mk 0 0 none))] (by kernel_rfl) (by kernel_rfl) (by kernel_rfl) (by kernel_rfl) (fun cf => (by kernel_rfl)) ?_
    refine WpCall.lent [0] (c1) (by decide) ⟨⟨[Value.string (rdS b e (p + 2) i), Value.bool (rdB e (p + 2) i)], (by kernel_rfl), (by kernel_rfl), (by kernel_rfl)⟩, trivial⟩ (by kernel_rfl) (Value.int IntKind.i64 (numO b e (p + 2 + 2 * i))) ([Blk.mk 113 true [Value.string (rdS b e (p + 2) (i + 1)), Value.bool (rdB e (p + 2) (i + 1))]]) (.cons (by kernel_rfl) .nil) (by kernel_rfl) (Heap.set (heapOf [rd (rdS b e (p + 2) i) (rdB e (p + 2) i), Blk.mk 3 true (rowC b e (p + 2) i)]) 0 (some (Blk.mk 113 true [Value.string (rdS b e (p + 2) (i + 1)), Value.bool (rdB e (p + 2) (i + 1))]))) (by kernel_rfl) ?_
    refine WpOps.made 21 (Value.slice (some (Addr.mk 2 0 none)) 1 1) (Blk.mk 3 true [Value.int IntKind.i64 (numO b e (p + 2 + 2 * i))]) (by kernel_rfl) (by kernel_rfl) (by kernel_rfl) ?_ (fun cf => (by kernel_rfl))
    refine WpOps.chg 22 (Value.slice (some (Addr.mk 3 0 none)) (i + 1) (i + 1)) (Heap.alloc (Heap.set (Heap.alloc (Heap.set (heapOf [rd (rdS b e (p + 2) i) (rdB e (p + 2) i), Blk.mk 3 true (rowC b e (p + 2) i)]) 0 (some (Blk.mk 113 true [Value.string (rdS b e (p + 2) (i + 1)), Value.bool (rdB e (p + 2) (i + 1))]))) (Blk.mk 3 true [Value.int IntKind.i64 (numO b e (p + 2 + 2 * i))])) 1 none) (Blk.mk 3 true (rowC b e (p + 2) i ++ [Value.int IntKind.i64 (numO b e (p + 2 + 2 * i))]))) (by kernel_rfl) (by kernel_rfl) (by kernel_rfl) ?_ (fun cf => o_append (e := 3) 1 (0) (i) _ (i) a1 a2 a3 (by kernel_rfl) (by kernel_rfl) (by kernel_rfl) (by kernel_rfl))
    refine WpOps.keep 3 (Value.slice (some (Addr.mk 3 0 none)) (i + 1) (i + 1)) (by kernel_rfl) (by kernel_rfl) (by kernel_rfl) ?_ (fun cf => (by kernel_rfl))
    refine WpOps.nil ?_
    refine blockK_norm ?_
    refine thenK_at ?_
    refine Wp.text ?_
    refine WpOps.keep 16 (Value.int IntKind.i64 (↑(n - i) : Int)) (by kernel_rfl) (by kernel_rfl) (by kernel_rfl) ?_ (fun cf => (by kernel_rfl))
    refine WpOps.keep 17 (Value.int IntKind.i64 (IntKind.wrap IntKind.i64 ((↑(n - i) : Int) - 1))) (by kernel_rfl) (by kernel_rfl) (by kernel_rfl) ?_ (fun cf => (by kernel_rfl))
    refine WpOps.keep 4 (Value.int IntKind.i64 (IntKind.wrap IntKind.i64 ((↑(n - i) : Int) - 1))) (by kernel_rfl) (by kernel_rfl) (by kernel_rfl) ?_ (fun cf => (by kernel_rfl))
    refine WpOps.nil ?_
    refine thenK_at ?_
    exact ⟨i + 1, by omega, ⟨by omega, by omega, by rw [Nat.add_sub_cancel]; exact hbi⟩, View.of [0, 3] [rd (rdS b e (p + 2) (i + 1)) (rdB e (p + 2) (i + 1)), ⟨3, true, rowC b e (p + 2) (i + 1)⟩] _ (by decide) rfl ⟨⟨_, by kernel_rfl, CellsOk.eq rfl rfl⟩, ⟨_, by kernel_rfl, CellsOk.eq (rowC_succ b e (p + 2) i).symm (rowC_flat b e (p + 2) (i + 1))⟩, trivial⟩
      ⟨⟨by kernel_rfl, rfl⟩, ⟨by kernel_rfl, rfl⟩, ⟨congrArg (Value.int .i64) (by rw [wr _ (by omega) (by omega)]; omega), rfl⟩, trivial⟩⟩
  · refine Wp.exit ?_
    refine thenK_exit ?_
    refine thenK_exit ?_
    refine blockK_hit ?_
    refine thenK_at ?_
    refine Wp.seq ?_
    refine Wp.text ?_
    refine WpOps.keep 23 (Value.slice (some (Addr.mk 1 0 none)) i i) (by kernel_rfl) (by kernel_rfl) (by kernel_rfl) ?_ (fun cf => (by kernel_rfl))
    refine WpOps.keep 2 (Value.slice (some (Addr.mk 1 0 none)) i i) (by kernel_rfl) (by kernel_rfl) (by kernel_rfl) ?_ (fun cf => (by kernel_rfl))
    refine WpOps.nil ?_
    refine thenK_at ?_
    refine Wp.ret ?_
    refine endK_retn [Value.slice (some (Addr.mk 1 0 none)) i i] (Value.slice (some (Addr.mk 1 0 none)) i i) (by kernel_rfl) (by kernel_rfl) ?_
    rw [hb15] at hc
    have hm : reads e (p + 2) n = i := by
      have hib' : p + 2 + 2 * (i - 1) ≤ e := by have := of_decide_eq_false hib; omega
      cases hbi : rdB e (p + 2) i with
      | true =>
        have h1 : e < p + 2 + 2 * i := of_decide_eq_true hbi
        unfold reads
        rw [if_neg (by omega)]
        omega
      | false =>
        have h1 : ¬ (e < p + 2 + 2 * i) := of_decide_eq_false hbi
        rw [hbi] at hc
        have h2 : i = n := by
          cases hq : decide (((n - i : Nat) : Int) > 0) with
          | true => rw [hq] at hc; cases hc
          | false => have := of_decide_eq_false hq; omega
        subst h2
        unfold reads
        rw [if_pos (by omega)]
    rw [hm]
    have hr := ice_row (hp := (heapOf [rd (rdS b e (p + 2) i) (rdB e (p + 2) i), ⟨3, true, rowC b e (p + 2) i⟩]).less [0]) (b := 1) (n := i) (c := i) (row b e (p + 2) i) (row_len b e (p + 2) i).symm (by kernel_rfl)
    exact ⟨[0], by decide, by kernel_rfl, ⟨⟨_, rfl, .cons (.inl ⟨rfl, rfl⟩) (.cons (.inl ⟨rfl, rfl⟩) .nil)⟩, trivial⟩, .w (.ice _ hr (.c (.inl rfl)))⟩
end Go.Proofs.Ytpkkcpglbjbgfaa.D
