/- The sums of a datagram; numbers of two bytes. -/
import Derived.Test.YtpkkcpglbjbgfaaFwLem
import Derived.Test.YtpkkcpglbjbgfaaF14h
namespace Go.Proofs.Ytpkkcpglbjbgfaa.D
open Go.Fw Go.RowKit

def byteAt (b : ByteArray) (i : Nat) : UInt8 := b.data.toList.getD i 0
def sumAt (b : ByteArray) : Nat → Int × Int
  | 0 => (0, 0)
  | i + 1 => (((IntKind.i64.wrap ((sumAt b i).1 + IntKind.i64.wrap ((byteAt b i).toNat : Int))).tmod 255), (IntKind.i64.wrap ((sumAt b i).2 + ((IntKind.i64.wrap ((sumAt b i).1 + IntKind.i64.wrap ((byteAt b i).toNat : Int))).tmod 255))).tmod 255)
def sumS (b : ByteArray) : ByteArray := ⟨#[UInt8.ofNat (IntKind.u8.wrap (sumAt b b.size).1).toNat, UInt8.ofNat (IntKind.u8.wrap (sumAt b b.size).2).toNat]⟩
theorem byteCells_flat (b : ByteArray) : (byteCells b).all flat = true := by
  rw [List.all_eq_true]
  intro v hv
  obtain ⟨x, _, rfl⟩ := List.mem_map.1 hv
  rfl
theorem byteAt_get (b : ByteArray) (i : Nat) (hi : i < b.size) : b.data.toList[i]? = some (byteAt b i) := by
  have : i < b.data.toList.length := by rw [Array.length_toList]; exact hi
  rw [byteAt, List.getD_eq_getElem?_getD, List.getElem?_eq_getElem this]
  rfl
theorem byteCells_at (b : ByteArray) (i : Nat) (hi : i < b.size) : (byteCells b)[0 + ((i : Int)).toNat * 1]? = some (.int .u8 ((byteAt b i).toNat : Int)) := by
  rw [Int.toNat_natCast, Nat.mul_one, Nat.zero_add, byteCells, List.getElem?_map, byteAt_get b i hi]
  rfl
theorem byte_get (b : ByteArray) (i : Nat) (hi : i < b.size) : b[(i : Int).toNat]? = some (byteAt b i) := by
  have e : (i : Int).toNat = i := by omega
  rw [e, ← byteAt_get b i hi, Array.getElem?_toList]
  rfl

theorem f51 : E.funcs 51 = some Try.f51 := by kernel_rfl
theorem sum51 (b : ByteArray) (hb : b.size ≤ 140737488351232) : Fun E 51 [.string b] (.string (sumS b)) := by
  refine Fun.of f51 rfl (of_decide_eq_true (by kernel_rfl)) rfl ?_
  refine Wp.seq ?_
  refine Wp.text ?_
  refine WpOps.keep 2 (Value.string (ByteArray.mk #[])) (by kernel_rfl) (by kernel_rfl) (by kernel_rfl) ?_ (fun cf => (by kernel_rfl))
  refine WpOps.nil ?_
  refine thenK_at ?_
  refine Wp.seq ?_
  refine Wp.text ?_
  refine WpOps.keep 3 (Value.int IntKind.i64 0) (by kernel_rfl) (by kernel_rfl) (by kernel_rfl) ?_ (fun cf => (by kernel_rfl))
  refine WpOps.keep 4 (Value.int IntKind.i64 0) (by kernel_rfl) (by kernel_rfl) (by kernel_rfl) ?_ (fun cf => (by kernel_rfl))
  refine WpOps.nil ?_
  refine thenK_at ?_
  refine Wp.seq ?_
  refine Wp.seq ?_
  refine Wp.text ?_
  refine WpOps.keep 7 (Value.string b) (by kernel_rfl) (by kernel_rfl) (by kernel_rfl) ?_ (fun cf => (by kernel_rfl))
  refine WpOps.made 8 (Value.slice (some (Addr.mk 0 0 none)) (ByteArray.size b) (ByteArray.size b)) (Blk.mk 5 true (byteCells b)) (by kernel_rfl) (by kernel_rfl) (by kernel_rfl) ?_ (fun cf => (by kernel_rfl))
  refine WpOps.keep 9 (Value.int IntKind.i64 (↑(ByteArray.size b) : Int)) (by kernel_rfl) (by kernel_rfl) (by kernel_rfl) ?_ (fun cf => (by kernel_rfl))
  refine WpOps.keep 10 (Value.int IntKind.i64 0) (by kernel_rfl) (by kernel_rfl) (by kernel_rfl) ?_ (fun cf => (by kernel_rfl))
  refine WpOps.nil ?_
  refine thenK_at ?_
  refine Wp.block ?_
  refine Wp.loop (G := Nat) (fun i => layj [(3, .int .i64 (sumAt b i).1), (4, .int .i64 (sumAt b i).2), (8, .slice (some ⟨0, 0, none⟩) b.size b.size), (9, .int .i64 b.size), (10, .int .i64 i)]) (fun _ => heapOf [⟨5, true, byteCells b⟩]) (fun i => b.size - i) (fun i => i ≤ b.size) 0
    (View.of [0] [⟨5, true, byteCells b⟩] _ (by decide) rfl ⟨⟨byteCells b, by kernel_rfl, CellsOk.eq rfl (byteCells_flat b)⟩, trivial⟩ ⟨⟨by kernel_rfl, rfl⟩, ⟨by kernel_rfl, rfl⟩, ⟨by kernel_rfl, rfl⟩, ⟨by kernel_rfl, rfl⟩, ⟨by kernel_rfl, rfl⟩, trivial⟩) (Nat.zero_le _) ?_
  intro i hi
  refine Wp.seq ?_
  refine Wp.text ?_
  refine WpOps.keep 11 (Value.bool (decide ((↑i : Int) < (↑(ByteArray.size b) : Int)))) (by kernel_rfl) (by kernel_rfl) (by kernel_rfl) ?_ (fun cf => (by kernel_rfl))
  refine WpOps.nil ?_
  refine thenK_at ?_
  refine Wp.seq ?_
  refine Wp.split (decide ((↑i : Int) < (↑(ByteArray.size b) : Int))) (by kernel_rfl) (fun hc => ?_) (fun hc => ?_)
  · have hlt : (i : Int) < b.size := of_decide_eq_true hc
    have h0 : 0 ≤ (i : Int) ∧ (i : Int) < b.size := ⟨Int.natCast_nonneg _, hlt⟩
    have hv := byteCells_at b i (by omega)
    refine Wp.skip ?_
    refine thenK_at ?_
    refine Wp.seq ?_
    refine Wp.block ?_
    refine Wp.seq ?_
    refine Wp.text ?_
    refine WpOps.keep 12 (Value.pointer (some (Addr.mk 0 (0 + Int.toNat (↑i : Int) * 1) none))) (by kernel_rfl) (by kernel_rfl) (by kernel_rfl) ?_ (fun cf => o_indexAddr 5 (ByteArray.size b) h0 (by kernel_rfl) (by kernel_rfl) (by kernel_rfl) (by kernel_rfl))
    refine WpOps.keep 13 (Value.int IntKind.u8 (↑(UInt8.toNat (byteAt b i)) : Int)) (by kernel_rfl) (by kernel_rfl) (by kernel_rfl) ?_ (fun cf => o_load1 0 (0 + Int.toNat (↑i : Int) * 1) hv (by kernel_rfl) (by kernel_rfl) (by kernel_rfl))
    refine WpOps.keep 6 (Value.int IntKind.u8 (↑(UInt8.toNat (byteAt b i)) : Int)) (by kernel_rfl) (by kernel_rfl) (by kernel_rfl) ?_ (fun cf => (by kernel_rfl))
    refine WpOps.nil ?_
    refine thenK_at ?_
    refine Wp.seq ?_
    refine Wp.text ?_
    refine WpOps.keep 14 (Value.int IntKind.i64 (Prod.fst (sumAt b i))) (by kernel_rfl) (by kernel_rfl) (by kernel_rfl) ?_ (fun cf => (by kernel_rfl))
    refine WpOps.keep 15 (Value.int IntKind.u8 (↑(UInt8.toNat (byteAt b i)) : Int)) (by kernel_rfl) (by kernel_rfl) (by kernel_rfl) ?_ (fun cf => (by kernel_rfl))
    refine WpOps.keep 16 (Value.int IntKind.i64 (IntKind.wrap IntKind.i64 (↑(UInt8.toNat (byteAt b i)) : Int))) (by kernel_rfl) (by kernel_rfl) (by kernel_rfl) ?_ (fun cf => (by kernel_rfl))
    refine WpOps.keep 17 (Value.int IntKind.i64 (IntKind.wrap IntKind.i64 (Prod.fst (sumAt b i) + IntKind.wrap IntKind.i64 (↑(UInt8.toNat (byteAt b i)) : Int)))) (by kernel_rfl) (by kernel_rfl) (by kernel_rfl) ?_ (fun cf => (by kernel_rfl))
    refine WpOps.keep 18 (Value.int IntKind.i64 (Int.tmod (IntKind.wrap IntKind.i64 (Prod.fst (sumAt b i) + IntKind.wrap IntKind.i64 (↑(UInt8.toNat (byteAt b i)) : Int))) 255)) (by kernel_rfl) (by kernel_rfl) (by kernel_rfl) ?_ (fun cf => (by kernel_rfl))
    refine WpOps.keep 3 (Value.int IntKind.i64 (Int.tmod (IntKind.wrap IntKind.i64 (Prod.fst (sumAt b i) + IntKind.wrap IntKind.i64 (↑(UInt8.toNat (byteAt b i)) : Int))) 255)) (by kernel_rfl) (by kernel_rfl) (by kernel_rfl) ?_ (fun cf => (by kernel_rfl))
    refine WpOps.nil ?_
    refine thenK_at ?_
    refine Wp.text ?_
    refine WpOps.keep 19 (Value.int IntKind.i64 (Prod.snd (sumAt b i))) (by kernel_rfl) (by kernel_rfl) (by kernel_rfl) ?_ (fun cf => (by kernel_rfl))
    refine WpOps.keep 20 (Value.int IntKind.i64 (Int.tmod (IntKind.wrap IntKind.i64 (Prod.fst (sumAt b i) + IntKind.wrap IntKind.i64 (↑(UInt8.toNat (byteAt b i)) : Int))) 255)) (by kernel_rfl) (by kernel_rfl) (by kernel_rfl) ?_ (fun cf => (by kernel_rfl))
    refine WpOps.keep 21 (Value.int IntKind.i64 (IntKind.wrap IntKind.i64 (Prod.snd (sumAt b i) + Int.tmod (IntKind.wrap IntKind.i64 (Prod.fst (sumAt b i) + IntKind.wrap IntKind.i64 (↑(UInt8.toNat (byteAt b i)) : Int))) 255))) (by kernel_rfl) (by kernel_rfl) (by kernel_rfl) ?_ (fun cf => (by kernel_rfl))
    refine WpOps.keep 22 (Value.int IntKind.i64 (Int.tmod (IntKind.wrap IntKind.i64 (Prod.snd (sumAt b i) + Int.tmod (IntKind.wrap IntKind.i64 (Prod.fst (sumAt b i) + IntKind.wrap IntKind.i64 (↑(UInt8.toNat (byteAt b i)) : Int))) 255)) 255)) (by kernel_rfl) (by kernel_rfl) (by kernel_rfl) ?_ (fun cf => (by kernel_rfl))
    refine WpOps.keep 4 (Value.int IntKind.i64 (Int.tmod (IntKind.wrap IntKind.i64 (Prod.snd (sumAt b i) + Int.tmod (IntKind.wrap IntKind.i64 (Prod.fst (sumAt b i) + IntKind.wrap IntKind.i64 (↑(UInt8.toNat (byteAt b i)) : Int))) 255)) 255)) (by kernel_rfl) (by kernel_rfl) (by kernel_rfl) ?_ (fun cf => (by kernel_rfl))
    refine WpOps.nil ?_
    refine blockK_norm ?_
    refine thenK_at ?_
    refine Wp.text ?_
    refine WpOps.keep 23 (Value.int IntKind.i64 (IntKind.wrap IntKind.i64 ((↑i : Int) + 1))) (by kernel_rfl) (by kernel_rfl) (by kernel_rfl) ?_ (fun cf => (by kernel_rfl))
    refine WpOps.keep 10 (Value.int IntKind.i64 (IntKind.wrap IntKind.i64 ((↑i : Int) + 1))) (by kernel_rfl) (by kernel_rfl) (by kernel_rfl) ?_ (fun cf => (by kernel_rfl))
    refine WpOps.nil ?_
    refine thenK_at ?_
    exact ⟨i + 1, by omega, by omega, View.of [0] [⟨5, true, byteCells b⟩] _ (by decide) rfl ⟨⟨byteCells b, by kernel_rfl, CellsOk.eq rfl (byteCells_flat b)⟩, trivial⟩ ⟨⟨by kernel_rfl, rfl⟩, ⟨by kernel_rfl, rfl⟩, ⟨by kernel_rfl, rfl⟩, ⟨by kernel_rfl, rfl⟩, ⟨congrArg (Value.int .i64) (wr _ (by omega) (by omega)), rfl⟩, trivial⟩⟩
  · refine Wp.exit ?_
    refine thenK_exit ?_
    refine thenK_exit ?_
    refine blockK_hit ?_
    refine thenK_at ?_
    refine Wp.seq ?_
    refine Wp.text ?_
    refine WpOps.keep 24 (Value.int IntKind.i64 (Prod.fst (sumAt b i))) (by kernel_rfl) (by kernel_rfl) (by kernel_rfl) ?_ (fun cf => (by kernel_rfl))
    refine WpOps.keep 25 (Value.int IntKind.u8 (IntKind.wrap IntKind.u8 (Prod.fst (sumAt b i)))) (by kernel_rfl) (by kernel_rfl) (by kernel_rfl) ?_ (fun cf => (by kernel_rfl))
    refine WpOps.keep 26 (Value.int IntKind.i64 (Prod.snd (sumAt b i))) (by kernel_rfl) (by kernel_rfl) (by kernel_rfl) ?_ (fun cf => (by kernel_rfl))
    refine WpOps.keep 27 (Value.int IntKind.u8 (IntKind.wrap IntKind.u8 (Prod.snd (sumAt b i)))) (by kernel_rfl) (by kernel_rfl) (by kernel_rfl) ?_ (fun cf => (by kernel_rfl))
    refine WpOps.made 28 (Value.slice (some (Addr.mk 1 0 none)) 2 2) (Blk.mk 5 true [Value.int IntKind.u8 (IntKind.wrap IntKind.u8 (Prod.fst (sumAt b i))), Value.int IntKind.u8 (IntKind.wrap IntKind.u8 (Prod.snd (sumAt b i)))]) (by kernel_rfl) (by kernel_rfl) (by kernel_rfl) ?_ (fun cf => (by kernel_rfl))
    refine WpOps.keep 29 (Value.string (ByteArray.mk #[UInt8.ofNat (Int.toNat (IntKind.wrap IntKind.u8 (Prod.fst (sumAt b i)))), UInt8.ofNat (Int.toNat (IntKind.wrap IntKind.u8 (Prod.snd (sumAt b i))))])) (by kernel_rfl) (by kernel_rfl) (by kernel_rfl) ?_ (fun cf => (by kernel_rfl))
    refine WpOps.keep 2 (Value.string (ByteArray.mk #[UInt8.ofNat (Int.toNat (IntKind.wrap IntKind.u8 (Prod.fst (sumAt b i)))), UInt8.ofNat (Int.toNat (IntKind.wrap IntKind.u8 (Prod.snd (sumAt b i))))])) (by kernel_rfl) (by kernel_rfl) (by kernel_rfl) ?_ (fun cf => (by kernel_rfl))
    refine WpOps.nil ?_
    refine thenK_at ?_
    refine Wp.ret ?_
    refine endK_retn [Value.string (ByteArray.mk #[UInt8.ofNat (Int.toNat (IntKind.wrap IntKind.u8 (Prod.fst (sumAt b i)))), UInt8.ofNat (Int.toNat (IntKind.wrap IntKind.u8 (Prod.snd (sumAt b i))))])] (Value.string (ByteArray.mk #[UInt8.ofNat (Int.toNat (IntKind.wrap IntKind.u8 (Prod.fst (sumAt b i)))), UInt8.ofNat (Int.toNat (IntKind.wrap IntKind.u8 (Prod.snd (sumAt b i))))])) (by kernel_rfl) (by kernel_rfl) ?_
    obtain rfl : i = b.size := by have := of_decide_eq_false hc; omega
    rfl
theorem f54 : E.funcs 54 = some Try.f54 := by kernel_rfl
theorem sum54 (b : ByteArray) (hb : b.size ≤ 140737488351232) : Fun E 54 [.string b] (.string (sumS b)) := by
  refine Fun.of f54 rfl (of_decide_eq_true (by kernel_rfl)) rfl ?_
  refine Wp.seq ?_
  refine Wp.text ?_
  refine WpOps.keep 2 (Value.string (ByteArray.mk #[])) (by kernel_rfl) (by kernel_rfl) (by kernel_rfl) ?_ (fun cf => (by kernel_rfl))
  refine WpOps.nil ?_
  refine thenK_at ?_
  refine Wp.seq ?_
  refine Wp.text ?_
  refine WpOps.keep 3 (Value.int IntKind.i64 0) (by kernel_rfl) (by kernel_rfl) (by kernel_rfl) ?_ (fun cf => (by kernel_rfl))
  refine WpOps.keep 4 (Value.int IntKind.i64 0) (by kernel_rfl) (by kernel_rfl) (by kernel_rfl) ?_ (fun cf => (by kernel_rfl))
  refine WpOps.nil ?_
  refine thenK_at ?_
  refine Wp.seq ?_
  refine Wp.seq ?_
  refine Wp.text ?_
  refine WpOps.keep 5 (Value.int IntKind.i64 0) (by kernel_rfl) (by kernel_rfl) (by kernel_rfl) ?_ (fun cf => (by kernel_rfl))
  refine WpOps.nil ?_
  refine thenK_at ?_
  refine Wp.block ?_
  refine Wp.loop (G := Nat) (fun i => layj [(0, .string b), (3, .int .i64 (sumAt b i).1), (4, .int .i64 (sumAt b i).2), (5, .int .i64 i)]) (fun _ => heapOf []) (fun i => b.size - i) (fun i => i ≤ b.size) 0
    (View.of [] [] _ List.nodup_nil rfl trivial ⟨⟨by kernel_rfl, rfl⟩, ⟨by kernel_rfl, rfl⟩, ⟨by kernel_rfl, rfl⟩, ⟨by kernel_rfl, rfl⟩, trivial⟩) (Nat.zero_le _) ?_
  intro i hi
  refine Wp.seq ?_
  refine Wp.seq ?_
  refine Wp.text ?_
  refine WpOps.keep 6 (Value.int IntKind.i64 (↑i : Int)) (by kernel_rfl) (by kernel_rfl) (by kernel_rfl) ?_ (fun cf => (by kernel_rfl))
  refine WpOps.keep 7 (Value.string b) (by kernel_rfl) (by kernel_rfl) (by kernel_rfl) ?_ (fun cf => (by kernel_rfl))
  refine WpOps.keep 8 (Value.int IntKind.i64 (↑(ByteArray.size b) : Int)) (by kernel_rfl) (by kernel_rfl) (by kernel_rfl) ?_ (fun cf => (by kernel_rfl))
  refine WpOps.keep 9 (Value.bool (decide ((↑i : Int) < (↑(ByteArray.size b) : Int)))) (by kernel_rfl) (by kernel_rfl) (by kernel_rfl) ?_ (fun cf => (by kernel_rfl))
  refine WpOps.nil ?_
  refine thenK_at ?_
  refine Wp.split (decide ((↑i : Int) < (↑(ByteArray.size b) : Int))) (by kernel_rfl) (fun hc => ?_) (fun hc => ?_)
  · have hlt : (i : Int) < b.size := of_decide_eq_true hc
    have h0 : 0 ≤ (i : Int) ∧ (i : Int) < b.size := ⟨Int.natCast_nonneg _, hlt⟩
    have hv := byte_get b i (by omega)
    refine Wp.skip ?_
    refine thenK_at ?_
    refine Wp.seq ?_
    refine Wp.block ?_
    refine Wp.seq ?_
    refine Wp.text ?_
    refine WpOps.keep 12 (Value.int IntKind.i64 (Prod.fst (sumAt b i))) (by kernel_rfl) (by kernel_rfl) (by kernel_rfl) ?_ (fun cf => (by kernel_rfl))
    refine WpOps.keep 13 (Value.string b) (by kernel_rfl) (by kernel_rfl) (by kernel_rfl) ?_ (fun cf => (by kernel_rfl))
    refine WpOps.keep 14 (Value.int IntKind.i64 (↑i : Int)) (by kernel_rfl) (by kernel_rfl) (by kernel_rfl) ?_ (fun cf => (by kernel_rfl))
    refine WpOps.keep 15 (Value.int IntKind.u8 (↑(UInt8.toNat (byteAt b i)) : Int)) (by kernel_rfl) (by kernel_rfl) (by kernel_rfl) ?_ (fun cf => o_indexStr (of_decide_eq_true (by kernel_rfl)) hv (by kernel_rfl) (by kernel_rfl) (by kernel_rfl))
    refine WpOps.keep 16 (Value.int IntKind.i64 (IntKind.wrap IntKind.i64 (↑(UInt8.toNat (byteAt b i)) : Int))) (by kernel_rfl) (by kernel_rfl) (by kernel_rfl) ?_ (fun cf => (by kernel_rfl))
    refine WpOps.keep 17 (Value.int IntKind.i64 (IntKind.wrap IntKind.i64 (Prod.fst (sumAt b i) + IntKind.wrap IntKind.i64 (↑(UInt8.toNat (byteAt b i)) : Int)))) (by kernel_rfl) (by kernel_rfl) (by kernel_rfl) ?_ (fun cf => (by kernel_rfl))
    refine WpOps.keep 18 (Value.int IntKind.i64 (Int.tmod (IntKind.wrap IntKind.i64 (Prod.fst (sumAt b i) + IntKind.wrap IntKind.i64 (↑(UInt8.toNat (byteAt b i)) : Int))) 255)) (by kernel_rfl) (by kernel_rfl) (by kernel_rfl) ?_ (fun cf => (by kernel_rfl))
    refine WpOps.keep 3 (Value.int IntKind.i64 (Int.tmod (IntKind.wrap IntKind.i64 (Prod.fst (sumAt b i) + IntKind.wrap IntKind.i64 (↑(UInt8.toNat (byteAt b i)) : Int))) 255)) (by kernel_rfl) (by kernel_rfl) (by kernel_rfl) ?_ (fun cf => (by kernel_rfl))
    refine WpOps.nil ?_
    refine thenK_at ?_
    refine Wp.text ?_
    refine WpOps.keep 19 (Value.int IntKind.i64 (Prod.snd (sumAt b i))) (by kernel_rfl) (by kernel_rfl) (by kernel_rfl) ?_ (fun cf => (by kernel_rfl))
    refine WpOps.keep 20 (Value.int IntKind.i64 (Int.tmod (IntKind.wrap IntKind.i64 (Prod.fst (sumAt b i) + IntKind.wrap IntKind.i64 (↑(UInt8.toNat (byteAt b i)) : Int))) 255)) (by kernel_rfl) (by kernel_rfl) (by kernel_rfl) ?_ (fun cf => (by kernel_rfl))
    refine WpOps.keep 21 (Value.int IntKind.i64 (IntKind.wrap IntKind.i64 (Prod.snd (sumAt b i) + Int.tmod (IntKind.wrap IntKind.i64 (Prod.fst (sumAt b i) + IntKind.wrap IntKind.i64 (↑(UInt8.toNat (byteAt b i)) : Int))) 255))) (by kernel_rfl) (by kernel_rfl) (by kernel_rfl) ?_ (fun cf => (by kernel_rfl))
    refine WpOps.keep 22 (Value.int IntKind.i64 (Int.tmod (IntKind.wrap IntKind.i64 (Prod.snd (sumAt b i) + Int.tmod (IntKind.wrap IntKind.i64 (Prod.fst (sumAt b i) + IntKind.wrap IntKind.i64 (↑(UInt8.toNat (byteAt b i)) : Int))) 255)) 255)) (by kernel_rfl) (by kernel_rfl) (by kernel_rfl) ?_ (fun cf => (by kernel_rfl))
    refine WpOps.keep 4 (Value.int IntKind.i64 (Int.tmod (IntKind.wrap IntKind.i64 (Prod.snd (sumAt b i) + Int.tmod (IntKind.wrap IntKind.i64 (Prod.fst (sumAt b i) + IntKind.wrap IntKind.i64 (↑(UInt8.toNat (byteAt b i)) : Int))) 255)) 255)) (by kernel_rfl) (by kernel_rfl) (by kernel_rfl) ?_ (fun cf => (by kernel_rfl))
    refine WpOps.nil ?_
    refine blockK_norm ?_
    refine thenK_at ?_
    refine Wp.text ?_
    refine WpOps.keep 10 (Value.int IntKind.i64 (↑i : Int)) (by kernel_rfl) (by kernel_rfl) (by kernel_rfl) ?_ (fun cf => (by kernel_rfl))
    refine WpOps.keep 11 (Value.int IntKind.i64 (IntKind.wrap IntKind.i64 ((↑i : Int) + 1))) (by kernel_rfl) (by kernel_rfl) (by kernel_rfl) ?_ (fun cf => (by kernel_rfl))
    refine WpOps.keep 5 (Value.int IntKind.i64 (IntKind.wrap IntKind.i64 ((↑i : Int) + 1))) (by kernel_rfl) (by kernel_rfl) (by kernel_rfl) ?_ (fun cf => (by kernel_rfl))
    refine WpOps.nil ?_
    refine thenK_at ?_
    exact ⟨i + 1, by omega, by omega, View.of [] [] _ List.nodup_nil rfl trivial ⟨⟨by kernel_rfl, rfl⟩, ⟨by kernel_rfl, rfl⟩, ⟨by kernel_rfl, rfl⟩, ⟨congrArg (Value.int .i64) (wr _ (by omega) (by omega)), rfl⟩, trivial⟩⟩
  · refine Wp.exit ?_
    refine thenK_exit ?_
    refine thenK_exit ?_
    refine blockK_hit ?_
    refine thenK_at ?_
    refine Wp.seq ?_
    refine Wp.text ?_
    refine WpOps.keep 23 (Value.int IntKind.i64 (Prod.fst (sumAt b i))) (by kernel_rfl) (by kernel_rfl) (by kernel_rfl) ?_ (fun cf => (by kernel_rfl))
    refine WpOps.keep 24 (Value.int IntKind.u8 (IntKind.wrap IntKind.u8 (Prod.fst (sumAt b i)))) (by kernel_rfl) (by kernel_rfl) (by kernel_rfl) ?_ (fun cf => (by kernel_rfl))
    refine WpOps.keep 25 (Value.int IntKind.i64 (Prod.snd (sumAt b i))) (by kernel_rfl) (by kernel_rfl) (by kernel_rfl) ?_ (fun cf => (by kernel_rfl))
    refine WpOps.keep 26 (Value.int IntKind.u8 (IntKind.wrap IntKind.u8 (Prod.snd (sumAt b i)))) (by kernel_rfl) (by kernel_rfl) (by kernel_rfl) ?_ (fun cf => (by kernel_rfl))
    refine WpOps.made 27 (Value.slice (some (Addr.mk 0 0 none)) 2 2) (Blk.mk 5 true [Value.int IntKind.u8 (IntKind.wrap IntKind.u8 (Prod.fst (sumAt b i))), Value.int IntKind.u8 (IntKind.wrap IntKind.u8 (Prod.snd (sumAt b i)))]) (by kernel_rfl) (by kernel_rfl) (by kernel_rfl) ?_ (fun cf => (by kernel_rfl))
    refine WpOps.keep 28 (Value.string (ByteArray.mk #[UInt8.ofNat (Int.toNat (IntKind.wrap IntKind.u8 (Prod.fst (sumAt b i)))), UInt8.ofNat (Int.toNat (IntKind.wrap IntKind.u8 (Prod.snd (sumAt b i))))])) (by kernel_rfl) (by kernel_rfl) (by kernel_rfl) ?_ (fun cf => (by kernel_rfl))
    refine WpOps.keep 2 (Value.string (ByteArray.mk #[UInt8.ofNat (Int.toNat (IntKind.wrap IntKind.u8 (Prod.fst (sumAt b i)))), UInt8.ofNat (Int.toNat (IntKind.wrap IntKind.u8 (Prod.snd (sumAt b i))))])) (by kernel_rfl) (by kernel_rfl) (by kernel_rfl) ?_ (fun cf => (by kernel_rfl))
    refine WpOps.nil ?_
    refine thenK_at ?_
    refine Wp.ret ?_
    refine endK_retn [Value.string (ByteArray.mk #[UInt8.ofNat (Int.toNat (IntKind.wrap IntKind.u8 (Prod.fst (sumAt b i)))), UInt8.ofNat (Int.toNat (IntKind.wrap IntKind.u8 (Prod.snd (sumAt b i))))])] (Value.string (ByteArray.mk #[UInt8.ofNat (Int.toNat (IntKind.wrap IntKind.u8 (Prod.fst (sumAt b i)))), UInt8.ofNat (Int.toNat (IntKind.wrap IntKind.u8 (Prod.snd (sumAt b i))))])) (by kernel_rfl) (by kernel_rfl) ?_
    obtain rfl : i = b.size := by have := of_decide_eq_false hc; omega
    rfl

/-- The flags. -/
def flagsI (g : Gr) : Int := (if g.more then 1 else 0) + (if g.may then 2 else 0) + (if g.wants then 4 else 0)
theorem f50 : E.funcs 50 = some Try.f50 := by kernel_rfl
theorem flags50 (g : Gr) : Fun E 50 [gv g] (.int .i64 (flagsI g)) := by
  obtain ⟨fx, fr, tx, to, n2, n3, n4, n5, n6, b7, b8, b9, s⟩ := g
  cases b7 <;> cases b8 <;> cases b9 <;> exact Fun.closed 60 _ (by kernel_rfl)
theorem bit53 (b : Bool) (n : Int) : Fun E 53 [.bool b, .int .i64 n] (.int .i64 (if b then n else 0)) := by
  cases b <;> exact Fun.closed 20 _ (by kernel_rfl)
/-- A number in two bytes, as each of them writes it. -/
def twoR (n : Int) : ByteArray := ⟨#[UInt8.ofNat (IntKind.u8.wrap (IntKind.i64.wrap (n.tdiv 256))).toNat, UInt8.ofNat (IntKind.u8.wrap (n.tmod 256)).toNat]⟩
theorem two52 (n : Int) : Fun E 52 [.int .i64 n] (.string (twoR n)) := by
  exact Fun.closed 20 _ (by kernel_rfl)
end Go.Proofs.Ytpkkcpglbjbgfaa.D
