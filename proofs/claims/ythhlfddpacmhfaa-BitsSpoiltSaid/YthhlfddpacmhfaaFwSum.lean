/- bits.Sum by the machine of our own. -/
import Derived.Test.YthhlfddpacmhfaaFwLem
import Derived.Test.YthhlfddpacmhfaaFwSpoil
namespace Go.Proofs.Ythhlfddpacmhfaa.Fw1
open Go.Fw Go.RowKit

theorem f10 : E.funcs 10 = some Try.f10 := by kernel_rfl

def byteAt (b : ByteArray) (i : Nat) : UInt8 := b.data.toList.getD i 0
def sumAt (b : ByteArray) : Nat → Int × Int
  | 0 => (0, 0)
  | i + 1 => (((IntKind.i64.wrap ((sumAt b i).1 + IntKind.i64.wrap ((byteAt b i).toNat : Int))).tmod 255), (IntKind.i64.wrap ((sumAt b i).2 + ((IntKind.i64.wrap ((sumAt b i).1 + IntKind.i64.wrap ((byteAt b i).toNat : Int))).tmod 255))).tmod 255)
def sumS (b : ByteArray) : ByteArray := ⟨#[UInt8.ofNat (IntKind.u8.wrap (sumAt b b.size).1).toNat, UInt8.ofNat (IntKind.u8.wrap (sumAt b b.size).2).toNat]⟩

theorem byte_get (b : ByteArray) (i : Nat) (hi : i < b.size) : b[(i : Int).toNat]? = some (byteAt b i) := by
  have e : (i : Int).toNat = i := by omega
  rw [e, byteAt, List.getD_eq_getElem?_getD, Array.getElem?_toList]
  have : b[i]? = b.data[i]? := rfl
  rw [this, Array.getElem?_eq_getElem hi]
  rfl

theorem wrap_next (i : Nat) (hi : i < 4000) : IntKind.i64.wrap ((i : Int) + 1) = ((i + 1 : Nat) : Int) := by
  have : IntKind.i64.wrap ((i : Int) + 1) = (i : Int) + 1 := wrap_i64 _ (by omega) (by omega)
  rw [this]; omega

theorem sum (b : ByteArray) (hb : b.size ≤ 4000) : WpCall E 10 [.string b] Heap.none fun v _ => v = .tuple #[.string (sumS b), .int .i64 0] := by
  refine WpCall.of f10 rfl (of_decide_eq_true (by kernel_rfl)) ?_
  have hgt : decide ((b.size : Int) > 4000) = false := by simp; omega
  refine Wp.seq ?_
  refine Wp.text ?_
  refine WpOps.keep 2 (Value.string (ByteArray.mk #[])) (by kernel_rfl) (by kernel_rfl) (by kernel_rfl) ?_ (fun cf => (by kernel_rfl))
  refine WpOps.keep 3 (Value.int IntKind.i64 0) (by kernel_rfl) (by kernel_rfl) (by kernel_rfl) ?_ (fun cf => (by kernel_rfl))
  refine WpOps.nil ?_
  refine thenK_at ?_
  refine Wp.seq ?_
  refine Wp.seq ?_
  refine Wp.text ?_
  refine WpOps.keep 7 (Value.string b) (by kernel_rfl) (by kernel_rfl) (by kernel_rfl) ?_ (fun cf => (by kernel_rfl))
  refine WpOps.keep 8 (Value.int IntKind.i64 (↑(ByteArray.size b) : Int)) (by kernel_rfl) (by kernel_rfl) (by kernel_rfl) ?_ (fun cf => (by kernel_rfl))
  refine WpOps.keep 9 (Value.bool (decide ((↑(ByteArray.size b) : Int) > 4000))) (by kernel_rfl) (by kernel_rfl) (by kernel_rfl) ?_ (fun cf => (by kernel_rfl))
  refine WpOps.nil ?_
  refine thenK_at ?_
  refine Wp.cond (t := decide ((↑(ByteArray.size b) : Int) > 4000)) (by kernel_rfl) ?_
  rw [hgt]
  refine Wp.skip ?_
  refine thenK_at ?_
  refine Wp.seq ?_
  refine Wp.text ?_
  refine WpOps.keep 4 (Value.int IntKind.i64 0) (by kernel_rfl) (by kernel_rfl) (by kernel_rfl) ?_ (fun cf => (by kernel_rfl))
  refine WpOps.keep 5 (Value.int IntKind.i64 0) (by kernel_rfl) (by kernel_rfl) (by kernel_rfl) ?_ (fun cf => (by kernel_rfl))
  refine WpOps.nil ?_
  refine thenK_at ?_
  refine Wp.seq ?_
  refine Wp.seq ?_
  refine Wp.text ?_
  refine WpOps.keep 10 (Value.string b) (by kernel_rfl) (by kernel_rfl) (by kernel_rfl) ?_ (fun cf => (by kernel_rfl))
  refine WpOps.keep 11 (Value.int IntKind.i64 (↑(ByteArray.size b) : Int)) (by kernel_rfl) (by kernel_rfl) (by kernel_rfl) ?_ (fun cf => (by kernel_rfl))
  refine WpOps.keep 12 (Value.int IntKind.i64 0) (by kernel_rfl) (by kernel_rfl) (by kernel_rfl) ?_ (fun cf => (by kernel_rfl))
  refine WpOps.nil ?_
  refine thenK_at ?_
  refine Wp.block ?_
  refine Wp.loop (fun m s h => ∃ (i : Nat) (s0 : Slots), s = lay [(0, .string b), (4, .int .i64 (sumAt b i).1), (5, .int .i64 (sumAt b i).2), (11, .int .i64 b.size), (12, .int .i64 i)] s0 ∧ h = Heap.none ∧ i ≤ b.size ∧ m = b.size - i) (b.size - 0) ?_ ?_
  · exact ⟨0, _, lay_self ⟨by kernel_rfl, by kernel_rfl, by kernel_rfl, by kernel_rfl, by kernel_rfl, trivial⟩, rfl, Nat.zero_le _, rfl⟩
  · rintro m s h ⟨i, s0, rfl, rfl, hi, rfl⟩
    by_cases hlt : i < b.size
    · have hd : decide ((i : Int) < b.size) = true := by simp; omega
      have h0 : 0 ≤ (i : Int) := by omega
      have hx := byte_get b i hlt
      refine Wp.seq ?_
      refine Wp.text ?_
      refine WpOps.keep 13 (Value.bool (decide ((↑i : Int) < (↑(ByteArray.size b) : Int)))) (by kernel_rfl) (by kernel_rfl) (by kernel_rfl) ?_ (fun cf => (by kernel_rfl))
      refine WpOps.nil ?_
      refine thenK_at ?_
      refine Wp.seq ?_
      refine Wp.cond (t := decide ((↑i : Int) < (↑(ByteArray.size b) : Int))) (by kernel_rfl) ?_
      rw [hd]
      refine Wp.skip ?_
      refine thenK_at ?_
      refine Wp.seq ?_
      refine Wp.block ?_
      refine Wp.seq ?_
      refine Wp.text ?_
      refine WpOps.keep 14 (Value.int IntKind.i64 (↑i : Int)) (by kernel_rfl) (by kernel_rfl) (by kernel_rfl) ?_ (fun cf => (by kernel_rfl))
      refine WpOps.keep 6 (Value.int IntKind.i64 (↑i : Int)) (by kernel_rfl) (by kernel_rfl) (by kernel_rfl) ?_ (fun cf => (by kernel_rfl))
      refine WpOps.nil ?_
      refine thenK_at ?_
      refine Wp.seq ?_
      refine Wp.text ?_
      refine WpOps.keep 15 (Value.int IntKind.i64 (Prod.fst (sumAt b i))) (by kernel_rfl) (by kernel_rfl) (by kernel_rfl) ?_ (fun cf => (by kernel_rfl))
      refine WpOps.keep 16 (Value.string b) (by kernel_rfl) (by kernel_rfl) (by kernel_rfl) ?_ (fun cf => (by kernel_rfl))
      refine WpOps.keep 17 (Value.int IntKind.i64 (↑i : Int)) (by kernel_rfl) (by kernel_rfl) (by kernel_rfl) ?_ (fun cf => (by kernel_rfl))
      refine WpOps.keep 18 (Value.int IntKind.u8 (↑(UInt8.toNat (byteAt b i)) : Int)) (by kernel_rfl) (by kernel_rfl) (by kernel_rfl) ?_ (fun cf => o_indexStr (of_decide_eq_true (by kernel_rfl)) hx (by kernel_rfl) (by kernel_rfl) (by kernel_rfl))
      refine WpOps.keep 19 (Value.int IntKind.i64 (IntKind.wrap IntKind.i64 (↑(UInt8.toNat (byteAt b i)) : Int))) (by kernel_rfl) (by kernel_rfl) (by kernel_rfl) ?_ (fun cf => (by kernel_rfl))
      refine WpOps.keep 20 (Value.int IntKind.i64 (IntKind.wrap IntKind.i64 (Prod.fst (sumAt b i) + IntKind.wrap IntKind.i64 (↑(UInt8.toNat (byteAt b i)) : Int)))) (by kernel_rfl) (by kernel_rfl) (by kernel_rfl) ?_ (fun cf => (by kernel_rfl))
      refine WpOps.keep 21 (Value.int IntKind.i64 (Int.tmod (IntKind.wrap IntKind.i64 (Prod.fst (sumAt b i) + IntKind.wrap IntKind.i64 (↑(UInt8.toNat (byteAt b i)) : Int))) 255)) (by kernel_rfl) (by kernel_rfl) (by kernel_rfl) ?_ (fun cf => (by kernel_rfl))
      refine WpOps.keep 4 (Value.int IntKind.i64 (Int.tmod (IntKind.wrap IntKind.i64 (Prod.fst (sumAt b i) + IntKind.wrap IntKind.i64 (↑(UInt8.toNat (byteAt b i)) : Int))) 255)) (by kernel_rfl) (by kernel_rfl) (by kernel_rfl) ?_ (fun cf => (by kernel_rfl))
      refine WpOps.nil ?_
      refine thenK_at ?_
      refine Wp.text ?_
      refine WpOps.keep 22 (Value.int IntKind.i64 (Prod.snd (sumAt b i))) (by kernel_rfl) (by kernel_rfl) (by kernel_rfl) ?_ (fun cf => (by kernel_rfl))
      refine WpOps.keep 23 (Value.int IntKind.i64 (Int.tmod (IntKind.wrap IntKind.i64 (Prod.fst (sumAt b i) + IntKind.wrap IntKind.i64 (↑(UInt8.toNat (byteAt b i)) : Int))) 255)) (by kernel_rfl) (by kernel_rfl) (by kernel_rfl) ?_ (fun cf => (by kernel_rfl))
      refine WpOps.keep 24 (Value.int IntKind.i64 (IntKind.wrap IntKind.i64 (Prod.snd (sumAt b i) + Int.tmod (IntKind.wrap IntKind.i64 (Prod.fst (sumAt b i) + IntKind.wrap IntKind.i64 (↑(UInt8.toNat (byteAt b i)) : Int))) 255))) (by kernel_rfl) (by kernel_rfl) (by kernel_rfl) ?_ (fun cf => (by kernel_rfl))
      refine WpOps.keep 25 (Value.int IntKind.i64 (Int.tmod (IntKind.wrap IntKind.i64 (Prod.snd (sumAt b i) + Int.tmod (IntKind.wrap IntKind.i64 (Prod.fst (sumAt b i) + IntKind.wrap IntKind.i64 (↑(UInt8.toNat (byteAt b i)) : Int))) 255)) 255)) (by kernel_rfl) (by kernel_rfl) (by kernel_rfl) ?_ (fun cf => (by kernel_rfl))
      refine WpOps.keep 5 (Value.int IntKind.i64 (Int.tmod (IntKind.wrap IntKind.i64 (Prod.snd (sumAt b i) + Int.tmod (IntKind.wrap IntKind.i64 (Prod.fst (sumAt b i) + IntKind.wrap IntKind.i64 (↑(UInt8.toNat (byteAt b i)) : Int))) 255)) 255)) (by kernel_rfl) (by kernel_rfl) (by kernel_rfl) ?_ (fun cf => (by kernel_rfl))
      refine WpOps.nil ?_
      refine blockK_norm ?_
      refine thenK_at ?_
      refine Wp.text ?_
      refine WpOps.keep 26 (Value.int IntKind.i64 (IntKind.wrap IntKind.i64 ((↑i : Int) + 1))) (by kernel_rfl) (by kernel_rfl) (by kernel_rfl) ?_ (fun cf => (by kernel_rfl))
      refine WpOps.keep 12 (Value.int IntKind.i64 (IntKind.wrap IntKind.i64 ((↑i : Int) + 1))) (by kernel_rfl) (by kernel_rfl) (by kernel_rfl) ?_ (fun cf => (by kernel_rfl))
      refine WpOps.nil ?_
      refine thenK_at ?_
      refine ⟨b.size - (i + 1), by omega, i + 1, _, lay_self ⟨by kernel_rfl, by kernel_rfl, by kernel_rfl, by kernel_rfl, ?_, trivial⟩, rfl, hlt, rfl⟩
      show Value.int .i64 (IntKind.i64.wrap ((i : Int) + 1)) = _
      rw [wrap_next i (by omega)]
    · have hd : decide ((i : Int) < b.size) = false := by simp; omega
      obtain rfl : i = b.size := by omega
      refine Wp.seq ?_
      refine Wp.text ?_
      refine WpOps.keep 13 (Value.bool (decide ((↑(ByteArray.size b) : Int) < (↑(ByteArray.size b) : Int)))) (by kernel_rfl) (by kernel_rfl) (by kernel_rfl) ?_ (fun cf => (by kernel_rfl))
      refine WpOps.nil ?_
      refine thenK_at ?_
      refine Wp.seq ?_
      refine Wp.cond (t := decide ((↑(ByteArray.size b) : Int) < (↑(ByteArray.size b) : Int))) (by kernel_rfl) ?_
      rw [hd]
      refine Wp.exit ?_
      refine thenK_exit ?_
      refine thenK_exit ?_
      refine blockK_hit ?_
      refine thenK_at ?_
      refine Wp.seq ?_
      refine Wp.text ?_
      refine WpOps.keep 27 (Value.int IntKind.i64 (Prod.fst (sumAt b (ByteArray.size b)))) (by kernel_rfl) (by kernel_rfl) (by kernel_rfl) ?_ (fun cf => (by kernel_rfl))
      refine WpOps.keep 28 (Value.int IntKind.u8 (IntKind.wrap IntKind.u8 (Prod.fst (sumAt b (ByteArray.size b))))) (by kernel_rfl) (by kernel_rfl) (by kernel_rfl) ?_ (fun cf => (by kernel_rfl))
      refine WpOps.keep 29 (Value.int IntKind.i64 (Prod.snd (sumAt b (ByteArray.size b)))) (by kernel_rfl) (by kernel_rfl) (by kernel_rfl) ?_ (fun cf => (by kernel_rfl))
      refine WpOps.keep 30 (Value.int IntKind.u8 (IntKind.wrap IntKind.u8 (Prod.snd (sumAt b (ByteArray.size b))))) (by kernel_rfl) (by kernel_rfl) (by kernel_rfl) ?_ (fun cf => (by kernel_rfl))
      refine WpOps.made 31 (Value.slice (some (Addr.mk 0 0 none)) 2 2) (Blk.mk 5 true (List.set (List.set (zeros (TI.zero (TI.mk (TypeInfo.desc (TypeInfo.mk (TypeDesc.int IntKind.u8) "uint8" 1 1 false 1 1 (some (Value.int IntKind.u8 0)) true #[])) 1 1 (Array.toList (Value.cells (Value.int IntKind.u8 0))))) 2) 0 (Value.int IntKind.u8 (IntKind.wrap IntKind.u8 (Prod.fst (sumAt b (ByteArray.size b)))))) 1 (Value.int IntKind.u8 (IntKind.wrap IntKind.u8 (Prod.snd (sumAt b (ByteArray.size b))))))) (by kernel_rfl) (by kernel_rfl) (by kernel_rfl) ?_ (fun cf => (by kernel_rfl))
      refine WpOps.keep 32 (Value.string (ByteArray.mk #[UInt8.ofNat (Int.toNat (IntKind.wrap IntKind.u8 (Prod.fst (sumAt b (ByteArray.size b))))), UInt8.ofNat (Int.toNat (IntKind.wrap IntKind.u8 (Prod.snd (sumAt b (ByteArray.size b)))))])) (by kernel_rfl) (by kernel_rfl) (by kernel_rfl) ?_ (fun cf => (by kernel_rfl))
      refine WpOps.keep 2 (Value.string (ByteArray.mk #[UInt8.ofNat (Int.toNat (IntKind.wrap IntKind.u8 (Prod.fst (sumAt b (ByteArray.size b))))), UInt8.ofNat (Int.toNat (IntKind.wrap IntKind.u8 (Prod.snd (sumAt b (ByteArray.size b)))))])) (by kernel_rfl) (by kernel_rfl) (by kernel_rfl) ?_ (fun cf => (by kernel_rfl))
      refine WpOps.keep 3 (Value.int IntKind.i64 0) (by kernel_rfl) (by kernel_rfl) (by kernel_rfl) ?_ (fun cf => (by kernel_rfl))
      refine WpOps.nil ?_
      refine thenK_at ?_
      refine Wp.ret ?_
      refine endK_retn [Value.string (ByteArray.mk #[UInt8.ofNat (Int.toNat (IntKind.wrap IntKind.u8 (Prod.fst (sumAt b (ByteArray.size b))))), UInt8.ofNat (Int.toNat (IntKind.wrap IntKind.u8 (Prod.snd (sumAt b (ByteArray.size b)))))]), Value.int IntKind.i64 0] (by kernel_rfl) ?_
      rfl
end Go.Proofs.Ythhlfddpacmhfaa.Fw1
