/- Frames: bits.Sum, link.Frame and the document's. -/
import Derived.Test.YtgefohjickhldaaFwLem
import Derived.Test.YtgefohjickhldaaF10a
namespace Go.Proofs.Ytgefohjickhldaa.D
open Go.Fw Go.RowKit

theorem f32 : E.funcs 32 = some Try.f32 := by kernel_rfl
theorem sum32 (b : ByteArray) (hb : b.size ≤ 4000) : Fun E 32 [.string b] (.tuple #[.string (sumS b), .int .i64 0]) := by
  refine Fun.of f32 rfl (of_decide_eq_true (by kernel_rfl)) rfl ?_
  have c0 : decide ((b.size : Int) > 4000) = false := decide_eq_false (by omega)
  refine Wp.seq ?_
  refine Wp.text ?_
  refine WpOps.keep 2 (Value.string (ByteArray.mk #[])) (by kernel_rfl) (by kernel_rfl) (by kernel_rfl) ?_ (fun cf => (by kernel_rfl))
  refine WpOps.keep 3 (Value.int IntKind.i64 0) (by kernel_rfl) (by kernel_rfl) (by kernel_rfl) ?_ (fun cf => (by kernel_rfl))
  refine WpOps.nil ?_
  refine thenK_at ?_
  refine Wp.seq ?_
  refine Wp.seq ?_
  refine Wp.text ?_
  refine WpOps.keep 7 (Value.string b) (by kernel_rfl) (by kernel_rfl) (by kernel_rfl) ?_ (fun cf => (by kernel_rfl))
  refine WpOps.keep 8 (Value.int IntKind.i64 (↑(ByteArray.size b) : Int)) (by kernel_rfl) (by kernel_rfl) (by kernel_rfl) ?_ (fun cf => (by kernel_rfl))
  refine WpOps.keep 9 (Value.bool false) (by kernel_rfl) (by kernel_rfl) (by kernel_rfl) ?_ (fun cf => by_fact c0 ((by kernel_rfl)))
  refine WpOps.nil ?_
  refine thenK_at ?_
  refine Wp.off (by kernel_rfl) ?_
  refine Wp.skip ?_
  refine thenK_at ?_
  refine Wp.seq ?_
  refine Wp.text ?_
  refine WpOps.keep 4 (Value.int IntKind.i64 0) (by kernel_rfl) (by kernel_rfl) (by kernel_rfl) ?_ (fun cf => (by kernel_rfl))
  refine WpOps.keep 5 (Value.int IntKind.i64 0) (by kernel_rfl) (by kernel_rfl) (by kernel_rfl) ?_ (fun cf => (by kernel_rfl))
  refine WpOps.nil ?_
  refine thenK_at ?_
  refine Wp.seq ?_
  refine Wp.seq ?_
  refine Wp.text ?_
  refine WpOps.keep 10 (Value.string b) (by kernel_rfl) (by kernel_rfl) (by kernel_rfl) ?_ (fun cf => (by kernel_rfl))
  refine WpOps.keep 11 (Value.int IntKind.i64 (↑(ByteArray.size b) : Int)) (by kernel_rfl) (by kernel_rfl) (by kernel_rfl) ?_ (fun cf => (by kernel_rfl))
  refine WpOps.keep 12 (Value.int IntKind.i64 0) (by kernel_rfl) (by kernel_rfl) (by kernel_rfl) ?_ (fun cf => (by kernel_rfl))
  refine WpOps.nil ?_
  refine thenK_at ?_
  refine Wp.block ?_
  refine Wp.loop (G := Nat) (fun i => layj [(0, .string b), (4, .int .i64 (sumAt b i).1), (5, .int .i64 (sumAt b i).2), (11, .int .i64 b.size), (12, .int .i64 i)]) (fun _ => heapOf []) (fun i => b.size - i) (fun i => i ≤ b.size) 0
    (View.of [] [] _ List.nodup_nil rfl trivial ⟨⟨by kernel_rfl, rfl⟩, ⟨by kernel_rfl, rfl⟩, ⟨by kernel_rfl, rfl⟩, ⟨by kernel_rfl, rfl⟩, ⟨by kernel_rfl, rfl⟩, trivial⟩) (Nat.zero_le _) ?_
  intro i hi
  refine Wp.seq ?_
  refine Wp.text ?_
  refine WpOps.keep 13 (Value.bool (decide ((↑i : Int) < (↑(ByteArray.size b) : Int)))) (by kernel_rfl) (by kernel_rfl) (by kernel_rfl) ?_ (fun cf => (by kernel_rfl))
  refine WpOps.nil ?_
  refine thenK_at ?_
  refine Wp.seq ?_
  refine Wp.split (decide ((↑i : Int) < (↑(ByteArray.size b) : Int))) (by kernel_rfl) (fun hc => ?_) (fun hc => ?_)
  · have hlt : (i : Int) < b.size := of_decide_eq_true hc
    have h0 : 0 ≤ (i : Int) ∧ (i : Int) < b.size := ⟨Int.natCast_nonneg _, hlt⟩
    have hv := byte_get b i (by omega)
    refine Wp.skip ?_
    refine thenK_at ?_
    refine Wp.seq ?_
    refine Wp.block ?_
    refine Wp.seq ?_
    refine Wp.text ?_
    refine WpOps.keep 14 (Value.int IntKind.i64 (↑i : Int)) (by kernel_rfl) (by kernel_rfl) (by kernel_rfl) ?_ (fun cf => (by kernel_rfl))
    refine WpOps.keep 6 (Value.int IntKind.i64 (↑i : Int)) (by kernel_rfl) (by kernel_rfl) (by kernel_rfl) ?_ (fun cf => (by kernel_rfl))
    refine WpOps.nil ?_
    refine thenK_at ?_
    refine Wp.seq ?_
    refine Wp.text ?_
    refine WpOps.keep 15 (Value.int IntKind.i64 (Prod.fst (sumAt b i))) (by kernel_rfl) (by kernel_rfl) (by kernel_rfl) ?_ (fun cf => (by kernel_rfl))
    refine WpOps.keep 16 (Value.string b) (by kernel_rfl) (by kernel_rfl) (by kernel_rfl) ?_ (fun cf => (by kernel_rfl))
    refine WpOps.keep 17 (Value.int IntKind.i64 (↑i : Int)) (by kernel_rfl) (by kernel_rfl) (by kernel_rfl) ?_ (fun cf => (by kernel_rfl))
    refine WpOps.keep 18 (Value.int IntKind.u8 (↑(UInt8.toNat (byteAt b i)) : Int)) (by kernel_rfl) (by kernel_rfl) (by kernel_rfl) ?_ (fun cf => o_indexStr (of_decide_eq_true (by kernel_rfl)) hv (by kernel_rfl) (by kernel_rfl) (by kernel_rfl))
    refine WpOps.keep 19 (Value.int IntKind.i64 (IntKind.wrap IntKind.i64 (↑(UInt8.toNat (byteAt b i)) : Int))) (by kernel_rfl) (by kernel_rfl) (by kernel_rfl) ?_ (fun cf => (by kernel_rfl))
    refine WpOps.keep 20 (Value.int IntKind.i64 (IntKind.wrap IntKind.i64 (Prod.fst (sumAt b i) + IntKind.wrap IntKind.i64 (↑(UInt8.toNat (byteAt b i)) : Int)))) (by kernel_rfl) (by kernel_rfl) (by kernel_rfl) ?_ (fun cf => (by kernel_rfl))
    refine WpOps.keep 21 (Value.int IntKind.i64 (Int.tmod (IntKind.wrap IntKind.i64 (Prod.fst (sumAt b i) + IntKind.wrap IntKind.i64 (↑(UInt8.toNat (byteAt b i)) : Int))) 255)) (by kernel_rfl) (by kernel_rfl) (by kernel_rfl) ?_ (fun cf => (by kernel_rfl))
    refine WpOps.keep 4 (Value.int IntKind.i64 (Int.tmod (IntKind.wrap IntKind.i64 (Prod.fst (sumAt b i) + IntKind.wrap IntKind.i64 (↑(UInt8.toNat (byteAt b i)) : Int))) 255)) (by kernel_rfl) (by kernel_rfl) (by kernel_rfl) ?_ (fun cf => (by kernel_rfl))
    refine WpOps.nil ?_
    refine thenK_at ?_
    refine Wp.text ?_
    refine WpOps.keep 22 (Value.int IntKind.i64 (Prod.snd (sumAt b i))) (by kernel_rfl) (by kernel_rfl) (by kernel_rfl) ?_ (fun cf => (by kernel_rfl))
    refine WpOps.keep 23 (Value.int IntKind.i64 (Int.tmod (IntKind.wrap IntKind.i64 (Prod.fst (sumAt b i) + IntKind.wrap IntKind.i64 (↑(UInt8.toNat (byteAt b i)) : Int))) 255)) (by kernel_rfl) (by kernel_rfl) (by kernel_rfl) ?_ (fun cf => (by kernel_rfl))
    refine WpOps.keep 24 (Value.int IntKind.i64 (IntKind.wrap IntKind.i64 (Prod.snd (sumAt b i) + Int.tmod (IntKind.wrap IntKind.i64 (Prod.fst (sumAt b i) + IntKind.wrap IntKind.i64 (↑(UInt8.toNat (byteAt b i)) : Int))) 255))) (by kernel_rfl) (by kernel_rfl) (by kernel_rfl) ?_ (fun cf => (by kernel_rfl))
    refine WpOps.keep 25 (Value.int IntKind.i64 (Int.tmod (IntKind.wrap IntKind.i64 (Prod.snd (sumAt b i) + Int.tmod (IntKind.wrap IntKind.i64 (Prod.fst (sumAt b i) + IntKind.wrap IntKind.i64 (↑(UInt8.toNat (byteAt b i)) : Int))) 255)) 255)) (by kernel_rfl) (by kernel_rfl) (by kernel_rfl) ?_ (fun cf => (by kernel_rfl))
    refine WpOps.keep 5 (Value.int IntKind.i64 (Int.tmod (IntKind.wrap IntKind.i64 (Prod.snd (sumAt b i) + Int.tmod (IntKind.wrap IntKind.i64 (Prod.fst (sumAt b i) + IntKind.wrap IntKind.i64 (↑(UInt8.toNat (byteAt b i)) : Int))) 255)) 255)) (by kernel_rfl) (by kernel_rfl) (by kernel_rfl) ?_ (fun cf => (by kernel_rfl))
    refine WpOps.nil ?_
    refine blockK_norm ?_
    refine thenK_at ?_
    refine Wp.text ?_
    refine WpOps.keep 26 (Value.int IntKind.i64 (IntKind.wrap IntKind.i64 ((↑i : Int) + 1))) (by kernel_rfl) (by kernel_rfl) (by kernel_rfl) ?_ (fun cf => (by kernel_rfl))
    refine WpOps.keep 12 (Value.int IntKind.i64 (IntKind.wrap IntKind.i64 ((↑i : Int) + 1))) (by kernel_rfl) (by kernel_rfl) (by kernel_rfl) ?_ (fun cf => (by kernel_rfl))
    refine WpOps.nil ?_
    refine thenK_at ?_
    exact ⟨i + 1, by omega, by omega, View.of [] [] _ List.nodup_nil rfl trivial ⟨⟨by kernel_rfl, rfl⟩, ⟨by kernel_rfl, rfl⟩, ⟨by kernel_rfl, rfl⟩, ⟨by kernel_rfl, rfl⟩, ⟨congrArg (Value.int .i64) (wr _ (by omega) (by omega)), rfl⟩, trivial⟩⟩
  · refine Wp.exit ?_
    refine thenK_exit ?_
    refine thenK_exit ?_
    refine blockK_hit ?_
    refine thenK_at ?_
    refine Wp.seq ?_
    refine Wp.text ?_
    refine WpOps.keep 27 (Value.int IntKind.i64 (Prod.fst (sumAt b i))) (by kernel_rfl) (by kernel_rfl) (by kernel_rfl) ?_ (fun cf => (by kernel_rfl))
    refine WpOps.keep 28 (Value.int IntKind.u8 (IntKind.wrap IntKind.u8 (Prod.fst (sumAt b i)))) (by kernel_rfl) (by kernel_rfl) (by kernel_rfl) ?_ (fun cf => (by kernel_rfl))
    refine WpOps.keep 29 (Value.int IntKind.i64 (Prod.snd (sumAt b i))) (by kernel_rfl) (by kernel_rfl) (by kernel_rfl) ?_ (fun cf => (by kernel_rfl))
    refine WpOps.keep 30 (Value.int IntKind.u8 (IntKind.wrap IntKind.u8 (Prod.snd (sumAt b i)))) (by kernel_rfl) (by kernel_rfl) (by kernel_rfl) ?_ (fun cf => (by kernel_rfl))
    refine WpOps.made 31 (Value.slice (some (Addr.mk 0 0 none)) 2 2) (Blk.mk 5 true [Value.int IntKind.u8 (IntKind.wrap IntKind.u8 (Prod.fst (sumAt b i))), Value.int IntKind.u8 (IntKind.wrap IntKind.u8 (Prod.snd (sumAt b i)))]) (by kernel_rfl) (by kernel_rfl) (by kernel_rfl) ?_ (fun cf => (by kernel_rfl))
    refine WpOps.keep 32 (Value.string (ByteArray.mk #[UInt8.ofNat (Int.toNat (IntKind.wrap IntKind.u8 (Prod.fst (sumAt b i)))), UInt8.ofNat (Int.toNat (IntKind.wrap IntKind.u8 (Prod.snd (sumAt b i))))])) (by kernel_rfl) (by kernel_rfl) (by kernel_rfl) ?_ (fun cf => (by kernel_rfl))
    refine WpOps.keep 2 (Value.string (ByteArray.mk #[UInt8.ofNat (Int.toNat (IntKind.wrap IntKind.u8 (Prod.fst (sumAt b i)))), UInt8.ofNat (Int.toNat (IntKind.wrap IntKind.u8 (Prod.snd (sumAt b i))))])) (by kernel_rfl) (by kernel_rfl) (by kernel_rfl) ?_ (fun cf => (by kernel_rfl))
    refine WpOps.keep 3 (Value.int IntKind.i64 0) (by kernel_rfl) (by kernel_rfl) (by kernel_rfl) ?_ (fun cf => (by kernel_rfl))
    refine WpOps.nil ?_
    refine thenK_at ?_
    refine Wp.ret ?_
    refine endK_retn [Value.string (ByteArray.mk #[UInt8.ofNat (Int.toNat (IntKind.wrap IntKind.u8 (Prod.fst (sumAt b i)))), UInt8.ofNat (Int.toNat (IntKind.wrap IntKind.u8 (Prod.snd (sumAt b i))))]), Value.int IntKind.i64 0] (Value.tuple #[Value.string (ByteArray.mk #[UInt8.ofNat (Int.toNat (IntKind.wrap IntKind.u8 (Prod.fst (sumAt b i)))), UInt8.ofNat (Int.toNat (IntKind.wrap IntKind.u8 (Prod.snd (sumAt b i))))]), Value.int IntKind.i64 0]) (by kernel_rfl) (by kernel_rfl) ?_
    obtain rfl : i = b.size := by have := of_decide_eq_false hc; omega
    rfl
theorem f34 : E.funcs 34 = some Try.f34 := by kernel_rfl
theorem sum34 (b : ByteArray) (hb : b.size ≤ 4000) : Fun E 34 [.string b] (.tuple #[.string (sumS b), .int .i64 0]) := by
  refine Fun.of f34 rfl (of_decide_eq_true (by kernel_rfl)) rfl ?_
  have c0 : decide ((b.size : Int) > 4000) = false := decide_eq_false (by omega)
  refine Wp.seq ?_
  refine Wp.text ?_
  refine WpOps.keep 2 (Value.string (ByteArray.mk #[])) (by kernel_rfl) (by kernel_rfl) (by kernel_rfl) ?_ (fun cf => (by kernel_rfl))
  refine WpOps.keep 3 (Value.int IntKind.i64 0) (by kernel_rfl) (by kernel_rfl) (by kernel_rfl) ?_ (fun cf => (by kernel_rfl))
  refine WpOps.nil ?_
  refine thenK_at ?_
  refine Wp.seq ?_
  refine Wp.seq ?_
  refine Wp.text ?_
  refine WpOps.keep 7 (Value.string b) (by kernel_rfl) (by kernel_rfl) (by kernel_rfl) ?_ (fun cf => (by kernel_rfl))
  refine WpOps.keep 8 (Value.int IntKind.i64 (↑(ByteArray.size b) : Int)) (by kernel_rfl) (by kernel_rfl) (by kernel_rfl) ?_ (fun cf => (by kernel_rfl))
  refine WpOps.keep 9 (Value.bool false) (by kernel_rfl) (by kernel_rfl) (by kernel_rfl) ?_ (fun cf => by_fact c0 ((by kernel_rfl)))
  refine WpOps.nil ?_
  refine thenK_at ?_
  refine Wp.off (by kernel_rfl) ?_
  refine Wp.skip ?_
  refine thenK_at ?_
  refine Wp.seq ?_
  refine Wp.text ?_
  refine WpOps.keep 4 (Value.int IntKind.i64 0) (by kernel_rfl) (by kernel_rfl) (by kernel_rfl) ?_ (fun cf => (by kernel_rfl))
  refine WpOps.nil ?_
  refine thenK_at ?_
  refine Wp.seq ?_
  refine Wp.text ?_
  refine WpOps.keep 5 (Value.int IntKind.i64 0) (by kernel_rfl) (by kernel_rfl) (by kernel_rfl) ?_ (fun cf => (by kernel_rfl))
  refine WpOps.nil ?_
  refine thenK_at ?_
  refine Wp.seq ?_
  refine Wp.seq ?_
  refine Wp.text ?_
  refine WpOps.keep 6 (Value.int IntKind.i64 0) (by kernel_rfl) (by kernel_rfl) (by kernel_rfl) ?_ (fun cf => (by kernel_rfl))
  refine WpOps.nil ?_
  refine thenK_at ?_
  refine Wp.block ?_
  refine Wp.loop (G := Nat) (fun i => layj [(0, .string b), (4, .int .i64 (sumAt b i).1), (5, .int .i64 (sumAt b i).2), (6, .int .i64 i)]) (fun _ => heapOf []) (fun i => b.size - i) (fun i => i ≤ b.size) 0
    (View.of [] [] _ List.nodup_nil rfl trivial ⟨⟨by kernel_rfl, rfl⟩, ⟨by kernel_rfl, rfl⟩, ⟨by kernel_rfl, rfl⟩, ⟨by kernel_rfl, rfl⟩, trivial⟩) (Nat.zero_le _) ?_
  intro i hi
  refine Wp.seq ?_
  refine Wp.seq ?_
  refine Wp.text ?_
  refine WpOps.keep 10 (Value.int IntKind.i64 (↑i : Int)) (by kernel_rfl) (by kernel_rfl) (by kernel_rfl) ?_ (fun cf => (by kernel_rfl))
  refine WpOps.keep 11 (Value.string b) (by kernel_rfl) (by kernel_rfl) (by kernel_rfl) ?_ (fun cf => (by kernel_rfl))
  refine WpOps.keep 12 (Value.int IntKind.i64 (↑(ByteArray.size b) : Int)) (by kernel_rfl) (by kernel_rfl) (by kernel_rfl) ?_ (fun cf => (by kernel_rfl))
  refine WpOps.keep 13 (Value.bool (decide ((↑i : Int) < (↑(ByteArray.size b) : Int)))) (by kernel_rfl) (by kernel_rfl) (by kernel_rfl) ?_ (fun cf => (by kernel_rfl))
  refine WpOps.nil ?_
  refine thenK_at ?_
  refine Wp.split (decide ((↑i : Int) < (↑(ByteArray.size b) : Int))) (by kernel_rfl) (fun hc => ?_) (fun hc => ?_)
  · have hlt : (i : Int) < b.size := of_decide_eq_true hc
    have h0 : 0 ≤ (i : Int) ∧ (i : Int) < b.size := ⟨Int.natCast_nonneg _, hlt⟩
    have hv := byte_get b i (by omega)
    refine Wp.skip ?_
    refine thenK_at ?_
    refine Wp.seq ?_
    refine Wp.block ?_
    refine Wp.seq ?_
    refine Wp.text ?_
    refine WpOps.keep 16 (Value.int IntKind.i64 (Prod.fst (sumAt b i))) (by kernel_rfl) (by kernel_rfl) (by kernel_rfl) ?_ (fun cf => (by kernel_rfl))
    refine WpOps.keep 17 (Value.string b) (by kernel_rfl) (by kernel_rfl) (by kernel_rfl) ?_ (fun cf => (by kernel_rfl))
    refine WpOps.keep 18 (Value.int IntKind.i64 (↑i : Int)) (by kernel_rfl) (by kernel_rfl) (by kernel_rfl) ?_ (fun cf => (by kernel_rfl))
    refine WpOps.keep 19 (Value.int IntKind.u8 (↑(UInt8.toNat (byteAt b i)) : Int)) (by kernel_rfl) (by kernel_rfl) (by kernel_rfl) ?_ (fun cf => o_indexStr (of_decide_eq_true (by kernel_rfl)) hv (by kernel_rfl) (by kernel_rfl) (by kernel_rfl))
    refine WpOps.keep 20 (Value.int IntKind.i64 (IntKind.wrap IntKind.i64 (↑(UInt8.toNat (byteAt b i)) : Int))) (by kernel_rfl) (by kernel_rfl) (by kernel_rfl) ?_ (fun cf => (by kernel_rfl))
    refine WpOps.keep 21 (Value.int IntKind.i64 (IntKind.wrap IntKind.i64 (Prod.fst (sumAt b i) + IntKind.wrap IntKind.i64 (↑(UInt8.toNat (byteAt b i)) : Int)))) (by kernel_rfl) (by kernel_rfl) (by kernel_rfl) ?_ (fun cf => (by kernel_rfl))
    refine WpOps.keep 22 (Value.int IntKind.i64 (Int.tmod (IntKind.wrap IntKind.i64 (Prod.fst (sumAt b i) + IntKind.wrap IntKind.i64 (↑(UInt8.toNat (byteAt b i)) : Int))) 255)) (by kernel_rfl) (by kernel_rfl) (by kernel_rfl) ?_ (fun cf => (by kernel_rfl))
    refine WpOps.keep 4 (Value.int IntKind.i64 (Int.tmod (IntKind.wrap IntKind.i64 (Prod.fst (sumAt b i) + IntKind.wrap IntKind.i64 (↑(UInt8.toNat (byteAt b i)) : Int))) 255)) (by kernel_rfl) (by kernel_rfl) (by kernel_rfl) ?_ (fun cf => (by kernel_rfl))
    refine WpOps.nil ?_
    refine thenK_at ?_
    refine Wp.text ?_
    refine WpOps.keep 23 (Value.int IntKind.i64 (Prod.snd (sumAt b i))) (by kernel_rfl) (by kernel_rfl) (by kernel_rfl) ?_ (fun cf => (by kernel_rfl))
    refine WpOps.keep 24 (Value.int IntKind.i64 (Int.tmod (IntKind.wrap IntKind.i64 (Prod.fst (sumAt b i) + IntKind.wrap IntKind.i64 (↑(UInt8.toNat (byteAt b i)) : Int))) 255)) (by kernel_rfl) (by kernel_rfl) (by kernel_rfl) ?_ (fun cf => (by kernel_rfl))
    refine WpOps.keep 25 (Value.int IntKind.i64 (IntKind.wrap IntKind.i64 (Prod.snd (sumAt b i) + Int.tmod (IntKind.wrap IntKind.i64 (Prod.fst (sumAt b i) + IntKind.wrap IntKind.i64 (↑(UInt8.toNat (byteAt b i)) : Int))) 255))) (by kernel_rfl) (by kernel_rfl) (by kernel_rfl) ?_ (fun cf => (by kernel_rfl))
    refine WpOps.keep 26 (Value.int IntKind.i64 (Int.tmod (IntKind.wrap IntKind.i64 (Prod.snd (sumAt b i) + Int.tmod (IntKind.wrap IntKind.i64 (Prod.fst (sumAt b i) + IntKind.wrap IntKind.i64 (↑(UInt8.toNat (byteAt b i)) : Int))) 255)) 255)) (by kernel_rfl) (by kernel_rfl) (by kernel_rfl) ?_ (fun cf => (by kernel_rfl))
    refine WpOps.keep 5 (Value.int IntKind.i64 (Int.tmod (IntKind.wrap IntKind.i64 (Prod.snd (sumAt b i) + Int.tmod (IntKind.wrap IntKind.i64 (Prod.fst (sumAt b i) + IntKind.wrap IntKind.i64 (↑(UInt8.toNat (byteAt b i)) : Int))) 255)) 255)) (by kernel_rfl) (by kernel_rfl) (by kernel_rfl) ?_ (fun cf => (by kernel_rfl))
    refine WpOps.nil ?_
    refine blockK_norm ?_
    refine thenK_at ?_
    refine Wp.text ?_
    refine WpOps.keep 14 (Value.int IntKind.i64 (↑i : Int)) (by kernel_rfl) (by kernel_rfl) (by kernel_rfl) ?_ (fun cf => (by kernel_rfl))
    refine WpOps.keep 15 (Value.int IntKind.i64 (IntKind.wrap IntKind.i64 ((↑i : Int) + 1))) (by kernel_rfl) (by kernel_rfl) (by kernel_rfl) ?_ (fun cf => (by kernel_rfl))
    refine WpOps.keep 6 (Value.int IntKind.i64 (IntKind.wrap IntKind.i64 ((↑i : Int) + 1))) (by kernel_rfl) (by kernel_rfl) (by kernel_rfl) ?_ (fun cf => (by kernel_rfl))
    refine WpOps.nil ?_
    refine thenK_at ?_
    exact ⟨i + 1, by omega, by omega, View.of [] [] _ List.nodup_nil rfl trivial ⟨⟨by kernel_rfl, rfl⟩, ⟨by kernel_rfl, rfl⟩, ⟨by kernel_rfl, rfl⟩, ⟨congrArg (Value.int .i64) (wr _ (by omega) (by omega)), rfl⟩, trivial⟩⟩
  · refine Wp.exit ?_
    refine thenK_exit ?_
    refine thenK_exit ?_
    refine blockK_hit ?_
    refine thenK_at ?_
    refine Wp.seq ?_
    refine Wp.text ?_
    refine WpOps.keep 27 (Value.int IntKind.i64 (Prod.fst (sumAt b i))) (by kernel_rfl) (by kernel_rfl) (by kernel_rfl) ?_ (fun cf => (by kernel_rfl))
    refine WpOps.keep 28 (Value.int IntKind.u8 (IntKind.wrap IntKind.u8 (Prod.fst (sumAt b i)))) (by kernel_rfl) (by kernel_rfl) (by kernel_rfl) ?_ (fun cf => (by kernel_rfl))
    refine WpOps.keep 29 (Value.int IntKind.i64 (Prod.snd (sumAt b i))) (by kernel_rfl) (by kernel_rfl) (by kernel_rfl) ?_ (fun cf => (by kernel_rfl))
    refine WpOps.keep 30 (Value.int IntKind.u8 (IntKind.wrap IntKind.u8 (Prod.snd (sumAt b i)))) (by kernel_rfl) (by kernel_rfl) (by kernel_rfl) ?_ (fun cf => (by kernel_rfl))
    refine WpOps.made 31 (Value.slice (some (Addr.mk 0 0 none)) 2 2) (Blk.mk 5 true [Value.int IntKind.u8 (IntKind.wrap IntKind.u8 (Prod.fst (sumAt b i))), Value.int IntKind.u8 (IntKind.wrap IntKind.u8 (Prod.snd (sumAt b i)))]) (by kernel_rfl) (by kernel_rfl) (by kernel_rfl) ?_ (fun cf => (by kernel_rfl))
    refine WpOps.keep 32 (Value.string (ByteArray.mk #[UInt8.ofNat (Int.toNat (IntKind.wrap IntKind.u8 (Prod.fst (sumAt b i)))), UInt8.ofNat (Int.toNat (IntKind.wrap IntKind.u8 (Prod.snd (sumAt b i))))])) (by kernel_rfl) (by kernel_rfl) (by kernel_rfl) ?_ (fun cf => (by kernel_rfl))
    refine WpOps.keep 2 (Value.string (ByteArray.mk #[UInt8.ofNat (Int.toNat (IntKind.wrap IntKind.u8 (Prod.fst (sumAt b i)))), UInt8.ofNat (Int.toNat (IntKind.wrap IntKind.u8 (Prod.snd (sumAt b i))))])) (by kernel_rfl) (by kernel_rfl) (by kernel_rfl) ?_ (fun cf => (by kernel_rfl))
    refine WpOps.keep 3 (Value.int IntKind.i64 0) (by kernel_rfl) (by kernel_rfl) (by kernel_rfl) ?_ (fun cf => (by kernel_rfl))
    refine WpOps.nil ?_
    refine thenK_at ?_
    refine Wp.ret ?_
    refine endK_retn [Value.string (ByteArray.mk #[UInt8.ofNat (Int.toNat (IntKind.wrap IntKind.u8 (Prod.fst (sumAt b i)))), UInt8.ofNat (Int.toNat (IntKind.wrap IntKind.u8 (Prod.snd (sumAt b i))))]), Value.int IntKind.i64 0] (Value.tuple #[Value.string (ByteArray.mk #[UInt8.ofNat (Int.toNat (IntKind.wrap IntKind.u8 (Prod.fst (sumAt b i)))), UInt8.ofNat (Int.toNat (IntKind.wrap IntKind.u8 (Prod.snd (sumAt b i))))]), Value.int IntKind.i64 0]) (by kernel_rfl) (by kernel_rfl) ?_
    obtain rfl : i = b.size := by have := of_decide_eq_false hc; omega
    rfl

/-! ## frames -/
/-- Are these the numbers of a frame? -/
def Fit (k g s r : Int) (n : Nat) : Prop := (1 ≤ k ∧ k ≤ 8) ∧ (0 ≤ g ∧ g ≤ 255) ∧ (0 ≤ s ∧ s ≤ 7) ∧ (0 ≤ r ∧ r ≤ 7) ∧ (k = 3 ∨ (s = 0 ∧ n = 0)) ∧ (r = 0 ∨ k = 3 ∨ k = 4 ∨ k = 5) ∧ n ≤ 1000
instance (k g s r : Int) (n : Nat) : Decidable (Fit k g s r n) := inferInstanceAs (Decidable (_ ∧ _))
theorem cond_or (a b : Bool) : (bif a then true else b) = (a || b) := by cases a <;> rfl
theorem cond_and (a b : Bool) : (bif a then b else false) = (a && b) := by cases a <;> rfl
theorem empty_ne (d : ByteArray) : (!(d.toList == ByteArray.toList (ByteArray.mk #[]))) = decide (d.size ≠ 0) := by
  rw [str_beq, ← decide_not]
  refine decide_eq_decide.2 (not_congr ⟨fun h => by rw [h]; rfl, fun h => ?_⟩)
  exact ByteArray.ext (Array.eq_empty_of_size_eq_zero h)
theorem f33 : E.funcs 33 = some Try.f33 := by kernel_rfl
theorem fits33 (k g s r : Int) (d : ByteArray) : Fun E 33 [.int .i64 k, .int .i64 g, .int .i64 s, .int .i64 r, .string d] (.bool (decide (Fit k g s r d.size))) := by
  refine Fun.of f33 rfl (of_decide_eq_true (by kernel_rfl)) rfl ?_
  refine Wp.seq ?_
  refine Wp.text ?_
  refine WpOps.keep 10 (Value.bool false) (by kernel_rfl) (by kernel_rfl) (by kernel_rfl) ?_ (fun cf => (by kernel_rfl))
  refine WpOps.nil ?_
  refine thenK_at ?_
  refine Wp.seq ?_
  refine Wp.seq ?_
  refine Wp.text ?_
  refine WpOps.keep 11 (Value.int IntKind.i64 k) (by kernel_rfl) (by kernel_rfl) (by kernel_rfl) ?_ (fun cf => (by kernel_rfl))
  refine WpOps.keep 12 (Value.bool (decide (k < 1))) (by kernel_rfl) (by kernel_rfl) (by kernel_rfl) ?_ (fun cf => (by kernel_rfl))
  refine WpOps.keep 13 (Value.bool (decide (k < 1))) (by kernel_rfl) (by kernel_rfl) (by kernel_rfl) ?_ (fun cf => (by kernel_rfl))
  refine WpOps.fork 3 (decide (k < 1)) [14, 15, 16] 16 (true) (decide (k > 8)) (by kernel_rfl) (fun g16 => ?_) (fun g16 => ?_) (fun f_16 b16 hb16 => ?_)
  · refine WpOps.unmet 14 (by kernel_rfl) (by kernel_rfl) (wants_tf g16 (by kernel_rfl)) ?_
    refine WpOps.unmet 15 (by kernel_rfl) (by kernel_rfl) (wants_tf g16 (by kernel_rfl)) ?_
    refine WpOps.keep 16 (Value.bool true) (by kernel_rfl) (by kernel_rfl) (by kernel_rfl) ?_ (fun cf => o_pickT g16 (by kernel_rfl) (by kernel_rfl))
    refine WpOps.nil ?_
    exact ⟨rfl, (.upd rfl (.upd rfl (.upd rfl .refl))), (by kernel_rfl)⟩
  · refine WpOps.keep 14 (Value.int IntKind.i64 k) (by kernel_rfl) (by kernel_rfl) (wants_ff g16 (by kernel_rfl)) ?_ (fun cf => (by kernel_rfl))
    refine WpOps.keep 15 (Value.bool (decide (k > 8))) (by kernel_rfl) (by kernel_rfl) (wants_ff g16 (by kernel_rfl)) ?_ (fun cf => (by kernel_rfl))
    refine WpOps.keep 16 (Value.bool (decide (k > 8))) (by kernel_rfl) (by kernel_rfl) (by kernel_rfl) ?_ (fun cf => o_pickF g16 (by kernel_rfl) (by kernel_rfl))
    refine WpOps.nil ?_
    exact ⟨rfl, (.upd rfl (.upd rfl (.upd rfl .refl))), (by kernel_rfl)⟩
  refine WpOps.keep 17 (Value.bool b16) (by kernel_rfl) (by kernel_rfl) (by kernel_rfl) ?_ (fun cf => (by kernel_rfl))
  refine WpOps.fork 3 (b16) [18, 19, 20] 20 (true) (decide (g < 0)) (by kernel_rfl) (fun g20 => ?_) (fun g20 => ?_) (fun f_20 b20 hb20 => ?_)
  · refine WpOps.unmet 18 (by kernel_rfl) (by kernel_rfl) (wants_tf g20 (by kernel_rfl)) ?_
    refine WpOps.unmet 19 (by kernel_rfl) (by kernel_rfl) (wants_tf g20 (by kernel_rfl)) ?_
    refine WpOps.keep 20 (Value.bool true) (by kernel_rfl) (by kernel_rfl) (by kernel_rfl) ?_ (fun cf => o_pickT g20 (by kernel_rfl) (by kernel_rfl))
    refine WpOps.nil ?_
    exact ⟨rfl, (.upd rfl (.upd rfl (.upd rfl .refl))), (by kernel_rfl)⟩
  · refine WpOps.keep 18 (Value.int IntKind.i64 g) (by kernel_rfl) (by kernel_rfl) (wants_ff g20 (by kernel_rfl)) ?_ (fun cf => (by kernel_rfl))
    refine WpOps.keep 19 (Value.bool (decide (g < 0))) (by kernel_rfl) (by kernel_rfl) (wants_ff g20 (by kernel_rfl)) ?_ (fun cf => (by kernel_rfl))
    refine WpOps.keep 20 (Value.bool (decide (g < 0))) (by kernel_rfl) (by kernel_rfl) (by kernel_rfl) ?_ (fun cf => o_pickF g20 (by kernel_rfl) (by kernel_rfl))
    refine WpOps.nil ?_
    exact ⟨rfl, (.upd rfl (.upd rfl (.upd rfl .refl))), (by kernel_rfl)⟩
  refine WpOps.keep 21 (Value.bool b20) (by kernel_rfl) (by kernel_rfl) (by kernel_rfl) ?_ (fun cf => (by kernel_rfl))
  refine WpOps.fork 3 (b20) [22, 23, 24] 24 (true) (decide (g > 255)) (by kernel_rfl) (fun g24 => ?_) (fun g24 => ?_) (fun f_24 b24 hb24 => ?_)
  · refine WpOps.unmet 22 (by kernel_rfl) (by kernel_rfl) (wants_tf g24 (by kernel_rfl)) ?_
    refine WpOps.unmet 23 (by kernel_rfl) (by kernel_rfl) (wants_tf g24 (by kernel_rfl)) ?_
    refine WpOps.keep 24 (Value.bool true) (by kernel_rfl) (by kernel_rfl) (by kernel_rfl) ?_ (fun cf => o_pickT g24 (by kernel_rfl) (by kernel_rfl))
    refine WpOps.nil ?_
    exact ⟨rfl, (.upd rfl (.upd rfl (.upd rfl .refl))), (by kernel_rfl)⟩
  · refine WpOps.keep 22 (Value.int IntKind.i64 g) (by kernel_rfl) (by kernel_rfl) (wants_ff g24 (by kernel_rfl)) ?_ (fun cf => (by kernel_rfl))
    refine WpOps.keep 23 (Value.bool (decide (g > 255))) (by kernel_rfl) (by kernel_rfl) (wants_ff g24 (by kernel_rfl)) ?_ (fun cf => (by kernel_rfl))
    refine WpOps.keep 24 (Value.bool (decide (g > 255))) (by kernel_rfl) (by kernel_rfl) (by kernel_rfl) ?_ (fun cf => o_pickF g24 (by kernel_rfl) (by kernel_rfl))
    refine WpOps.nil ?_
    exact ⟨rfl, (.upd rfl (.upd rfl (.upd rfl .refl))), (by kernel_rfl)⟩
  refine WpOps.keep 25 (Value.bool b24) (by kernel_rfl) (by kernel_rfl) (by kernel_rfl) ?_ (fun cf => (by kernel_rfl))
  refine WpOps.fork 3 (b24) [26, 27, 28] 28 (true) (decide (s < 0)) (by kernel_rfl) (fun g28 => ?_) (fun g28 => ?_) (fun f_28 b28 hb28 => ?_)
  · refine WpOps.unmet 26 (by kernel_rfl) (by kernel_rfl) (wants_tf g28 (by kernel_rfl)) ?_
    refine WpOps.unmet 27 (by kernel_rfl) (by kernel_rfl) (wants_tf g28 (by kernel_rfl)) ?_
    refine WpOps.keep 28 (Value.bool true) (by kernel_rfl) (by kernel_rfl) (by kernel_rfl) ?_ (fun cf => o_pickT g28 (by kernel_rfl) (by kernel_rfl))
    refine WpOps.nil ?_
    exact ⟨rfl, (.upd rfl (.upd rfl (.upd rfl .refl))), (by kernel_rfl)⟩
  · refine WpOps.keep 26 (Value.int IntKind.i64 s) (by kernel_rfl) (by kernel_rfl) (wants_ff g28 (by kernel_rfl)) ?_ (fun cf => (by kernel_rfl))
    refine WpOps.keep 27 (Value.bool (decide (s < 0))) (by kernel_rfl) (by kernel_rfl) (wants_ff g28 (by kernel_rfl)) ?_ (fun cf => (by kernel_rfl))
    refine WpOps.keep 28 (Value.bool (decide (s < 0))) (by kernel_rfl) (by kernel_rfl) (by kernel_rfl) ?_ (fun cf => o_pickF g28 (by kernel_rfl) (by kernel_rfl))
    refine WpOps.nil ?_
    exact ⟨rfl, (.upd rfl (.upd rfl (.upd rfl .refl))), (by kernel_rfl)⟩
  refine WpOps.keep 29 (Value.bool b28) (by kernel_rfl) (by kernel_rfl) (by kernel_rfl) ?_ (fun cf => (by kernel_rfl))
  refine WpOps.fork 3 (b28) [30, 31, 32] 32 (true) (decide (s > 7)) (by kernel_rfl) (fun g32 => ?_) (fun g32 => ?_) (fun f_32 b32 hb32 => ?_)
  · refine WpOps.unmet 30 (by kernel_rfl) (by kernel_rfl) (wants_tf g32 (by kernel_rfl)) ?_
    refine WpOps.unmet 31 (by kernel_rfl) (by kernel_rfl) (wants_tf g32 (by kernel_rfl)) ?_
    refine WpOps.keep 32 (Value.bool true) (by kernel_rfl) (by kernel_rfl) (by kernel_rfl) ?_ (fun cf => o_pickT g32 (by kernel_rfl) (by kernel_rfl))
    refine WpOps.nil ?_
    exact ⟨rfl, (.upd rfl (.upd rfl (.upd rfl .refl))), (by kernel_rfl)⟩
  · refine WpOps.keep 30 (Value.int IntKind.i64 s) (by kernel_rfl) (by kernel_rfl) (wants_ff g32 (by kernel_rfl)) ?_ (fun cf => (by kernel_rfl))
    refine WpOps.keep 31 (Value.bool (decide (s > 7))) (by kernel_rfl) (by kernel_rfl) (wants_ff g32 (by kernel_rfl)) ?_ (fun cf => (by kernel_rfl))
    refine WpOps.keep 32 (Value.bool (decide (s > 7))) (by kernel_rfl) (by kernel_rfl) (by kernel_rfl) ?_ (fun cf => o_pickF g32 (by kernel_rfl) (by kernel_rfl))
    refine WpOps.nil ?_
    exact ⟨rfl, (.upd rfl (.upd rfl (.upd rfl .refl))), (by kernel_rfl)⟩
  refine WpOps.keep 33 (Value.bool b32) (by kernel_rfl) (by kernel_rfl) (by kernel_rfl) ?_ (fun cf => (by kernel_rfl))
  refine WpOps.fork 3 (b32) [34, 35, 36] 36 (true) (decide (r < 0)) (by kernel_rfl) (fun g36 => ?_) (fun g36 => ?_) (fun f_36 b36 hb36 => ?_)
  · refine WpOps.unmet 34 (by kernel_rfl) (by kernel_rfl) (wants_tf g36 (by kernel_rfl)) ?_
    refine WpOps.unmet 35 (by kernel_rfl) (by kernel_rfl) (wants_tf g36 (by kernel_rfl)) ?_
    refine WpOps.keep 36 (Value.bool true) (by kernel_rfl) (by kernel_rfl) (by kernel_rfl) ?_ (fun cf => o_pickT g36 (by kernel_rfl) (by kernel_rfl))
    refine WpOps.nil ?_
    exact ⟨rfl, (.upd rfl (.upd rfl (.upd rfl .refl))), (by kernel_rfl)⟩
  · refine WpOps.keep 34 (Value.int IntKind.i64 r) (by kernel_rfl) (by kernel_rfl) (wants_ff g36 (by kernel_rfl)) ?_ (fun cf => (by kernel_rfl))
    refine WpOps.keep 35 (Value.bool (decide (r < 0))) (by kernel_rfl) (by kernel_rfl) (wants_ff g36 (by kernel_rfl)) ?_ (fun cf => (by kernel_rfl))
    refine WpOps.keep 36 (Value.bool (decide (r < 0))) (by kernel_rfl) (by kernel_rfl) (by kernel_rfl) ?_ (fun cf => o_pickF g36 (by kernel_rfl) (by kernel_rfl))
    refine WpOps.nil ?_
    exact ⟨rfl, (.upd rfl (.upd rfl (.upd rfl .refl))), (by kernel_rfl)⟩
  refine WpOps.keep 37 (Value.bool b36) (by kernel_rfl) (by kernel_rfl) (by kernel_rfl) ?_ (fun cf => (by kernel_rfl))
  refine WpOps.fork 3 (b36) [38, 39, 40] 40 (true) (decide (r > 7)) (by kernel_rfl) (fun g40 => ?_) (fun g40 => ?_) (fun f_40 b40 hb40 => ?_)
  · refine WpOps.unmet 38 (by kernel_rfl) (by kernel_rfl) (wants_tf g40 (by kernel_rfl)) ?_
    refine WpOps.unmet 39 (by kernel_rfl) (by kernel_rfl) (wants_tf g40 (by kernel_rfl)) ?_
    refine WpOps.keep 40 (Value.bool true) (by kernel_rfl) (by kernel_rfl) (by kernel_rfl) ?_ (fun cf => o_pickT g40 (by kernel_rfl) (by kernel_rfl))
    refine WpOps.nil ?_
    exact ⟨rfl, (.upd rfl (.upd rfl (.upd rfl .refl))), (by kernel_rfl)⟩
  · refine WpOps.keep 38 (Value.int IntKind.i64 r) (by kernel_rfl) (by kernel_rfl) (wants_ff g40 (by kernel_rfl)) ?_ (fun cf => (by kernel_rfl))
    refine WpOps.keep 39 (Value.bool (decide (r > 7))) (by kernel_rfl) (by kernel_rfl) (wants_ff g40 (by kernel_rfl)) ?_ (fun cf => (by kernel_rfl))
    refine WpOps.keep 40 (Value.bool (decide (r > 7))) (by kernel_rfl) (by kernel_rfl) (by kernel_rfl) ?_ (fun cf => o_pickF g40 (by kernel_rfl) (by kernel_rfl))
    refine WpOps.nil ?_
    exact ⟨rfl, (.upd rfl (.upd rfl (.upd rfl .refl))), (by kernel_rfl)⟩
  refine WpOps.nil ?_
  refine thenK_at ?_
  refine Wp.split (b40) (by kernel_rfl) (fun hc => ?_) (fun hc => ?_)
  · rw [hb40, hb36, hb32, hb28, hb24, hb20, hb16] at hc
    simp only [cond_or, Bool.or_eq_true, decide_eq_true_eq] at hc
    have h : ¬ Fit k g s r d.size := by unfold Fit; omega
    refine Wp.seq ?_
    refine Wp.text ?_
    refine WpOps.keep 10 (Value.bool false) (by kernel_rfl) (by kernel_rfl) (by kernel_rfl) ?_ (fun cf => (by kernel_rfl))
    refine WpOps.nil ?_
    refine thenK_at ?_
    refine Wp.ret ?_
    refine thenK_ret ?_
    refine endK_retn [Value.bool false] (Value.bool false) (by kernel_rfl) (by kernel_rfl) ?_
    rw [decide_eq_false h]
    rfl
  · rw [hb40, hb36, hb32, hb28, hb24, hb20, hb16] at hc
    simp only [cond_or, Bool.or_eq_false_iff, decide_eq_false_iff_not] at hc
    refine Wp.skip ?_
    refine thenK_at ?_
    refine Wp.seq ?_
    refine Wp.seq ?_
    refine Wp.text ?_
    refine WpOps.keep 41 (Value.int IntKind.i64 k) (by kernel_rfl) (by kernel_rfl) (by kernel_rfl) ?_ (fun cf => (by kernel_rfl))
    refine WpOps.keep 42 (Value.bool (k != 3)) (by kernel_rfl) (by kernel_rfl) (by kernel_rfl) ?_ (fun cf => (by kernel_rfl))
    refine WpOps.keep 43 (Value.bool (k != 3)) (by kernel_rfl) (by kernel_rfl) (by kernel_rfl) ?_ (fun cf => (by kernel_rfl))
    refine WpOps.fork 7 (k != 3) [44, 45, 46, 47, 48, 49, 50] 50 (bif s != 0 then true else !ByteArray.toList d == ByteArray.toList (ByteArray.mk #[])) (false) (by kernel_rfl) (fun g50 => ?_) (fun g50 => ?_) (fun f_50 b50 hb50 => ?_)
    · refine WpOps.keep 44 (Value.int IntKind.i64 s) (by kernel_rfl) (by kernel_rfl) (wants_tt g50 (by kernel_rfl)) ?_ (fun cf => (by kernel_rfl))
      refine WpOps.keep 45 (Value.bool (s != 0)) (by kernel_rfl) (by kernel_rfl) (wants_tt g50 (by kernel_rfl)) ?_ (fun cf => (by kernel_rfl))
      refine WpOps.keep 46 (Value.bool (s != 0)) (by kernel_rfl) (by kernel_rfl) (wants_tt g50 (by kernel_rfl)) ?_ (fun cf => (by kernel_rfl))
      refine WpOps.forkE 4 (s != 0) [47, 48, 49, 50] 50 (true) (!ByteArray.toList d == ByteArray.toList (ByteArray.mk #[])) (by kernel_rfl) (fun g50' => ?_) (fun g50' => ?_) (fun f_50 => ?_)
      · refine WpOps.unmet 47 (by kernel_rfl) (by kernel_rfl) (wants_tf g50' (by kernel_rfl)) ?_
        refine WpOps.unmet 48 (by kernel_rfl) (by kernel_rfl) (wants_tf g50' (by kernel_rfl)) ?_
        refine WpOps.keep 49 (Value.bool true) (by kernel_rfl) (by kernel_rfl) (wants_tt g50 (by kernel_rfl)) ?_ (fun cf => o_pickT g50' (by kernel_rfl) (by kernel_rfl))
        refine WpOps.keep 50 (Value.bool true) (by kernel_rfl) (by kernel_rfl) (by kernel_rfl) ?_ (fun cf => o_pickT g50 (by kernel_rfl) (by kernel_rfl))
        refine WpOps.nil ?_
        exact ⟨rfl, (.upd rfl (.upd rfl (.upd rfl (.upd rfl .refl)))), (by kernel_rfl)⟩
      · refine WpOps.keep 47 (Value.string d) (by kernel_rfl) (by kernel_rfl) (wants_ff g50' (by kernel_rfl)) ?_ (fun cf => (by kernel_rfl))
        refine WpOps.keep 48 (Value.bool !ByteArray.toList d == ByteArray.toList (ByteArray.mk #[])) (by kernel_rfl) (by kernel_rfl) (wants_ff g50' (by kernel_rfl)) ?_ (fun cf => (by kernel_rfl))
        refine WpOps.keep 49 (Value.bool !ByteArray.toList d == ByteArray.toList (ByteArray.mk #[])) (by kernel_rfl) (by kernel_rfl) (wants_tt g50 (by kernel_rfl)) ?_ (fun cf => o_pickF g50' (by kernel_rfl) (by kernel_rfl))
        refine WpOps.keep 50 (Value.bool !ByteArray.toList d == ByteArray.toList (ByteArray.mk #[])) (by kernel_rfl) (by kernel_rfl) (by kernel_rfl) ?_ (fun cf => o_pickT g50 (by kernel_rfl) (by kernel_rfl))
        refine WpOps.nil ?_
        exact ⟨rfl, (.upd rfl (.upd rfl (.upd rfl (.upd rfl .refl)))), (by kernel_rfl)⟩
      refine WpOps.nil ?_
      exact ⟨rfl, (.upd rfl (.mix rfl (.upd rfl (.upd rfl (.upd rfl .refl))))), (by kernel_rfl)⟩
    · refine WpOps.unmet 44 (by kernel_rfl) (by kernel_rfl) (wants_ft g50 (by kernel_rfl)) ?_
      refine WpOps.unmet 45 (by kernel_rfl) (by kernel_rfl) (wants_ft g50 (by kernel_rfl)) ?_
      refine WpOps.unmet 46 (by kernel_rfl) (by kernel_rfl) (wants_ft g50 (by kernel_rfl)) ?_
      refine WpOps.unmet 47 (by kernel_rfl) (by kernel_rfl) (by kernel_rfl) ?_
      refine WpOps.unmet 48 (by kernel_rfl) (by kernel_rfl) (by kernel_rfl) ?_
      refine WpOps.unmet 49 (by kernel_rfl) (by kernel_rfl) (wants_ft g50 (by kernel_rfl)) ?_
      refine WpOps.keep 50 (Value.bool false) (by kernel_rfl) (by kernel_rfl) (by kernel_rfl) ?_ (fun cf => o_pickF g50 (by kernel_rfl) (by kernel_rfl))
      refine WpOps.nil ?_
      exact ⟨rfl, (.upd rfl (.upd rfl (.upd rfl (.upd rfl (.upd rfl (.upd rfl (.upd rfl .refl))))))), (by kernel_rfl)⟩
    refine WpOps.nil ?_
    refine thenK_at ?_
    refine Wp.split (b50) (by kernel_rfl) (fun hd => ?_) (fun hd => ?_)
    · rw [hb50, empty_ne] at hd
      simp only [cond_or, cond_and, Bool.or_eq_true, Bool.and_eq_true, decide_eq_true_eq, bne_iff_ne, ne_eq] at hd
      have h : ¬ Fit k g s r d.size := by unfold Fit; omega
      refine Wp.seq ?_
      refine Wp.text ?_
      refine WpOps.keep 10 (Value.bool false) (by kernel_rfl) (by kernel_rfl) (by kernel_rfl) ?_ (fun cf => (by kernel_rfl))
      refine WpOps.nil ?_
      refine thenK_at ?_
      refine Wp.ret ?_
      refine thenK_ret ?_
      refine endK_retn [Value.bool false] (Value.bool false) (by kernel_rfl) (by kernel_rfl) ?_
      rw [decide_eq_false h]
      rfl
    · rw [hb50, empty_ne] at hd
      have hd2 : ¬ (k ≠ 3 ∧ (s ≠ 0 ∨ d.size ≠ 0)) := fun h => by
        have : (bif k != 3 then bif s != 0 then true else decide (d.size ≠ 0) else false) = true := by
          simp only [cond_or, cond_and, Bool.or_eq_true, Bool.and_eq_true, decide_eq_true_eq, bne_iff_ne, ne_eq]
          exact h
        rw [hd] at this
        cases this
      refine Wp.skip ?_
      refine thenK_at ?_
      refine Wp.seq ?_
      refine Wp.text ?_
      refine WpOps.keep 51 (Value.int IntKind.i64 r) (by kernel_rfl) (by kernel_rfl) (by kernel_rfl) ?_ (fun cf => (by kernel_rfl))
      refine WpOps.keep 52 (Value.bool (r == 0)) (by kernel_rfl) (by kernel_rfl) (by kernel_rfl) ?_ (fun cf => (by kernel_rfl))
      refine WpOps.keep 53 (Value.bool (r == 0)) (by kernel_rfl) (by kernel_rfl) (by kernel_rfl) ?_ (fun cf => (by kernel_rfl))
      refine WpOps.fork 3 (r == 0) [54, 55, 56] 56 (true) (k == 3) (by kernel_rfl) (fun g56 => ?_) (fun g56 => ?_) (fun f_56 b56 hb56 => ?_)
      · refine WpOps.unmet 54 (by kernel_rfl) (by kernel_rfl) (wants_tf g56 (by kernel_rfl)) ?_
        refine WpOps.unmet 55 (by kernel_rfl) (by kernel_rfl) (wants_tf g56 (by kernel_rfl)) ?_
        refine WpOps.keep 56 (Value.bool true) (by kernel_rfl) (by kernel_rfl) (by kernel_rfl) ?_ (fun cf => o_pickT g56 (by kernel_rfl) (by kernel_rfl))
        refine WpOps.nil ?_
        exact ⟨rfl, (.upd rfl (.upd rfl (.upd rfl .refl))), (by kernel_rfl)⟩
      · refine WpOps.keep 54 (Value.int IntKind.i64 k) (by kernel_rfl) (by kernel_rfl) (wants_ff g56 (by kernel_rfl)) ?_ (fun cf => (by kernel_rfl))
        refine WpOps.keep 55 (Value.bool (k == 3)) (by kernel_rfl) (by kernel_rfl) (wants_ff g56 (by kernel_rfl)) ?_ (fun cf => (by kernel_rfl))
        refine WpOps.keep 56 (Value.bool (k == 3)) (by kernel_rfl) (by kernel_rfl) (by kernel_rfl) ?_ (fun cf => o_pickF g56 (by kernel_rfl) (by kernel_rfl))
        refine WpOps.nil ?_
        exact ⟨rfl, (.upd rfl (.upd rfl (.upd rfl .refl))), (by kernel_rfl)⟩
      refine WpOps.keep 57 (Value.bool b56) (by kernel_rfl) (by kernel_rfl) (by kernel_rfl) ?_ (fun cf => (by kernel_rfl))
      refine WpOps.fork 3 (b56) [58, 59, 60] 60 (true) (k == 4) (by kernel_rfl) (fun g60 => ?_) (fun g60 => ?_) (fun f_60 b60 hb60 => ?_)
      · refine WpOps.unmet 58 (by kernel_rfl) (by kernel_rfl) (wants_tf g60 (by kernel_rfl)) ?_
        refine WpOps.unmet 59 (by kernel_rfl) (by kernel_rfl) (wants_tf g60 (by kernel_rfl)) ?_
        refine WpOps.keep 60 (Value.bool true) (by kernel_rfl) (by kernel_rfl) (by kernel_rfl) ?_ (fun cf => o_pickT g60 (by kernel_rfl) (by kernel_rfl))
        refine WpOps.nil ?_
        exact ⟨rfl, (.upd rfl (.upd rfl (.upd rfl .refl))), (by kernel_rfl)⟩
      · refine WpOps.keep 58 (Value.int IntKind.i64 k) (by kernel_rfl) (by kernel_rfl) (wants_ff g60 (by kernel_rfl)) ?_ (fun cf => (by kernel_rfl))
        refine WpOps.keep 59 (Value.bool (k == 4)) (by kernel_rfl) (by kernel_rfl) (wants_ff g60 (by kernel_rfl)) ?_ (fun cf => (by kernel_rfl))
        refine WpOps.keep 60 (Value.bool (k == 4)) (by kernel_rfl) (by kernel_rfl) (by kernel_rfl) ?_ (fun cf => o_pickF g60 (by kernel_rfl) (by kernel_rfl))
        refine WpOps.nil ?_
        exact ⟨rfl, (.upd rfl (.upd rfl (.upd rfl .refl))), (by kernel_rfl)⟩
      refine WpOps.keep 61 (Value.bool b60) (by kernel_rfl) (by kernel_rfl) (by kernel_rfl) ?_ (fun cf => (by kernel_rfl))
      refine WpOps.fork 3 (b60) [62, 63, 64] 64 (true) (k == 5) (by kernel_rfl) (fun g64 => ?_) (fun g64 => ?_) (fun f_64 b64 hb64 => ?_)
      · refine WpOps.unmet 62 (by kernel_rfl) (by kernel_rfl) (wants_tf g64 (by kernel_rfl)) ?_
        refine WpOps.unmet 63 (by kernel_rfl) (by kernel_rfl) (wants_tf g64 (by kernel_rfl)) ?_
        refine WpOps.keep 64 (Value.bool true) (by kernel_rfl) (by kernel_rfl) (by kernel_rfl) ?_ (fun cf => o_pickT g64 (by kernel_rfl) (by kernel_rfl))
        refine WpOps.nil ?_
        exact ⟨rfl, (.upd rfl (.upd rfl (.upd rfl .refl))), (by kernel_rfl)⟩
      · refine WpOps.keep 62 (Value.int IntKind.i64 k) (by kernel_rfl) (by kernel_rfl) (wants_ff g64 (by kernel_rfl)) ?_ (fun cf => (by kernel_rfl))
        refine WpOps.keep 63 (Value.bool (k == 5)) (by kernel_rfl) (by kernel_rfl) (wants_ff g64 (by kernel_rfl)) ?_ (fun cf => (by kernel_rfl))
        refine WpOps.keep 64 (Value.bool (k == 5)) (by kernel_rfl) (by kernel_rfl) (by kernel_rfl) ?_ (fun cf => o_pickF g64 (by kernel_rfl) (by kernel_rfl))
        refine WpOps.nil ?_
        exact ⟨rfl, (.upd rfl (.upd rfl (.upd rfl .refl))), (by kernel_rfl)⟩
      refine WpOps.keep 65 (Value.bool b64) (by kernel_rfl) (by kernel_rfl) (by kernel_rfl) ?_ (fun cf => (by kernel_rfl))
      refine WpOps.fork 4 (b64) [66, 67, 68, 69] 69 (decide ((↑(ByteArray.size d) : Int) ≤ 1000)) (false) (by kernel_rfl) (fun g69 => ?_) (fun g69 => ?_) (fun f_69 b69 hb69 => ?_)
      · refine WpOps.keep 66 (Value.string d) (by kernel_rfl) (by kernel_rfl) (wants_tt g69 (by kernel_rfl)) ?_ (fun cf => (by kernel_rfl))
        refine WpOps.keep 67 (Value.int IntKind.i64 (↑(ByteArray.size d) : Int)) (by kernel_rfl) (by kernel_rfl) (wants_tt g69 (by kernel_rfl)) ?_ (fun cf => (by kernel_rfl))
        refine WpOps.keep 68 (Value.bool (decide ((↑(ByteArray.size d) : Int) ≤ 1000))) (by kernel_rfl) (by kernel_rfl) (wants_tt g69 (by kernel_rfl)) ?_ (fun cf => (by kernel_rfl))
        refine WpOps.keep 69 (Value.bool (decide ((↑(ByteArray.size d) : Int) ≤ 1000))) (by kernel_rfl) (by kernel_rfl) (by kernel_rfl) ?_ (fun cf => o_pickT g69 (by kernel_rfl) (by kernel_rfl))
        refine WpOps.nil ?_
        exact ⟨rfl, (.upd rfl (.upd rfl (.upd rfl (.upd rfl .refl)))), (by kernel_rfl)⟩
      · refine WpOps.unmet 66 (by kernel_rfl) (by kernel_rfl) (wants_ft g69 (by kernel_rfl)) ?_
        refine WpOps.unmet 67 (by kernel_rfl) (by kernel_rfl) (wants_ft g69 (by kernel_rfl)) ?_
        refine WpOps.unmet 68 (by kernel_rfl) (by kernel_rfl) (wants_ft g69 (by kernel_rfl)) ?_
        refine WpOps.keep 69 (Value.bool false) (by kernel_rfl) (by kernel_rfl) (by kernel_rfl) ?_ (fun cf => o_pickF g69 (by kernel_rfl) (by kernel_rfl))
        refine WpOps.nil ?_
        exact ⟨rfl, (.upd rfl (.upd rfl (.upd rfl (.upd rfl .refl)))), (by kernel_rfl)⟩
      refine WpOps.keep 10 (Value.bool b69) (by kernel_rfl) (by kernel_rfl) (by kernel_rfl) ?_ (fun cf => (by kernel_rfl))
      refine WpOps.nil ?_
      refine thenK_at ?_
      refine Wp.ret ?_
      refine endK_retn [Value.bool b69] (Value.bool b69) (by kernel_rfl) (by kernel_rfl) ?_
      have e : b69 = decide (Fit k g s r d.size) := by
        rw [hb69, Bool.eq_iff_iff]
        simp only [hb64, hb60, hb56, cond_or, cond_and, Bool.or_eq_true, Bool.and_eq_true, decide_eq_true_eq, beq_iff_eq]
        unfold Fit
        omega
      rw [← e]
      rfl
def fr3 (k g s r : Int) : ByteArray := ⟨#[UInt8.ofNat (IntKind.u8.wrap k).toNat, UInt8.ofNat (IntKind.u8.wrap g).toNat, UInt8.ofNat (IntKind.u8.wrap (IntKind.i64.wrap (IntKind.i64.wrap (8 * s) + r))).toNat]⟩
def frame (k g s r : Int) (d : ByteArray) : Value := if Fit k g s r d.size then .tuple #[.string (summed (fr3 k g s r ++ d)), .int .i64 0] else .tuple #[.string ByteArray.empty, .int .i64 1]
theorem fr3_size (k g s r : Int) : (fr3 k g s r).size = 3 := rfl
theorem fr3_le (k g s r : Int) (d : ByteArray) (hd : d.size ≤ 1000) : (((fr3 k g s r).size + d.size : Nat) : Int) ≤ 9223372036854775807 := by
  rw [fr3_size]
  omega
theorem fr3_le2 (k g s r : Int) (d : ByteArray) (hd : d.size ≤ 1000) : (((fr3 k g s r ++ d).size + (sumS (fr3 k g s r ++ d)).size : Nat) : Int) ≤ 9223372036854775807 := by
  rw [ByteArray.size_append, fr3_size]
  show ((_ + 2 : Nat) : Int) ≤ _
  omega
theorem fr3_sz (k g s r : Int) (d : ByteArray) (hd : d.size ≤ 1000) : (fr3 k g s r ++ d).size ≤ 4000 := by
  rw [ByteArray.size_append, fr3_size]
  omega
theorem cond_gen (a b c : Bool) : (bif a then b else c) = ((a && b) || (!a && c)) := by cases a <;> simp
theorem wu8 (k : Int) (h0 : 0 ≤ k) (h1 : k < 256) : IntKind.u8.wrap k = k := by
  obtain ⟨n, rfl⟩ : ∃ n : Nat, k = n := ⟨k.toNat, by omega⟩
  exact u8_all n (by omega)
theorem f10 : E.funcs 10 = some Try.f10 := by kernel_rfl
theorem frame10 (k g s r : Int) (d : ByteArray) : Fun E 10 [.int .i64 k, .int .i64 g, .int .i64 s, .int .i64 r, .string d] (frame k g s r d) := by
  refine Fun.of f10 rfl (of_decide_eq_true (by kernel_rfl)) (by unfold frame; split <;> rfl) ?_
  refine Wp.seq ?_
  refine Wp.text ?_
  refine WpOps.keep 10 (Value.string (ByteArray.mk #[])) (by kernel_rfl) (by kernel_rfl) (by kernel_rfl) ?_ (fun cf => (by kernel_rfl))
  refine WpOps.keep 11 (Value.int IntKind.i64 0) (by kernel_rfl) (by kernel_rfl) (by kernel_rfl) ?_ (fun cf => (by kernel_rfl))
  refine WpOps.nil ?_
  refine thenK_at ?_
  refine Wp.seq ?_
  refine Wp.text ?_
  refine WpOps.keep 17 (Value.int IntKind.i64 k) (by kernel_rfl) (by kernel_rfl) (by kernel_rfl) ?_ (fun cf => (by kernel_rfl))
  refine WpOps.keep 18 (Value.int IntKind.u8 (IntKind.wrap IntKind.u8 k)) (by kernel_rfl) (by kernel_rfl) (by kernel_rfl) ?_ (fun cf => (by kernel_rfl))
  refine WpOps.keep 12 (Value.int IntKind.u8 (IntKind.wrap IntKind.u8 k)) (by kernel_rfl) (by kernel_rfl) (by kernel_rfl) ?_ (fun cf => (by kernel_rfl))
  refine WpOps.nil ?_
  refine thenK_at ?_
  refine Wp.seq ?_
  refine Wp.text ?_
  refine WpOps.keep 19 (Value.int IntKind.i64 k) (by kernel_rfl) (by kernel_rfl) (by kernel_rfl) ?_ (fun cf => (by kernel_rfl))
  refine WpOps.keep 20 (Value.bool (decide (k < 1))) (by kernel_rfl) (by kernel_rfl) (by kernel_rfl) ?_ (fun cf => (by kernel_rfl))
  refine WpOps.keep 21 (Value.bool (decide (k < 1))) (by kernel_rfl) (by kernel_rfl) (by kernel_rfl) ?_ (fun cf => (by kernel_rfl))
  refine WpOps.fork 3 (decide (k < 1)) [22, 23, 24] 24 (true) (decide (k > 8)) (by kernel_rfl) (fun g24 => ?_) (fun g24 => ?_) (fun f_24 b24 hb24 => ?_)
  · refine WpOps.unmet 22 (by kernel_rfl) (by kernel_rfl) (wants_tf g24 (by kernel_rfl)) ?_
    refine WpOps.unmet 23 (by kernel_rfl) (by kernel_rfl) (wants_tf g24 (by kernel_rfl)) ?_
    refine WpOps.keep 24 (Value.bool true) (by kernel_rfl) (by kernel_rfl) (by kernel_rfl) ?_ (fun cf => o_pickT g24 (by kernel_rfl) (by kernel_rfl))
    refine WpOps.nil ?_
    exact ⟨rfl, (.upd rfl (.upd rfl (.upd rfl .refl))), (by kernel_rfl)⟩
  · refine WpOps.keep 22 (Value.int IntKind.i64 k) (by kernel_rfl) (by kernel_rfl) (wants_ff g24 (by kernel_rfl)) ?_ (fun cf => (by kernel_rfl))
    refine WpOps.keep 23 (Value.bool (decide (k > 8))) (by kernel_rfl) (by kernel_rfl) (wants_ff g24 (by kernel_rfl)) ?_ (fun cf => (by kernel_rfl))
    refine WpOps.keep 24 (Value.bool (decide (k > 8))) (by kernel_rfl) (by kernel_rfl) (by kernel_rfl) ?_ (fun cf => o_pickF g24 (by kernel_rfl) (by kernel_rfl))
    refine WpOps.nil ?_
    exact ⟨rfl, (.upd rfl (.upd rfl (.upd rfl .refl))), (by kernel_rfl)⟩
  refine WpOps.keep 25 (Value.bool b24) (by kernel_rfl) (by kernel_rfl) (by kernel_rfl) ?_ (fun cf => (by kernel_rfl))
  refine WpOps.fork 3 (b24) [26, 27, 28] 28 (true) (decide (g < 0)) (by kernel_rfl) (fun g28 => ?_) (fun g28 => ?_) (fun f_28 b28 hb28 => ?_)
  · refine WpOps.unmet 26 (by kernel_rfl) (by kernel_rfl) (wants_tf g28 (by kernel_rfl)) ?_
    refine WpOps.unmet 27 (by kernel_rfl) (by kernel_rfl) (wants_tf g28 (by kernel_rfl)) ?_
    refine WpOps.keep 28 (Value.bool true) (by kernel_rfl) (by kernel_rfl) (by kernel_rfl) ?_ (fun cf => o_pickT g28 (by kernel_rfl) (by kernel_rfl))
    refine WpOps.nil ?_
    exact ⟨rfl, (.upd rfl (.upd rfl (.upd rfl .refl))), (by kernel_rfl)⟩
  · refine WpOps.keep 26 (Value.int IntKind.i64 g) (by kernel_rfl) (by kernel_rfl) (wants_ff g28 (by kernel_rfl)) ?_ (fun cf => (by kernel_rfl))
    refine WpOps.keep 27 (Value.bool (decide (g < 0))) (by kernel_rfl) (by kernel_rfl) (wants_ff g28 (by kernel_rfl)) ?_ (fun cf => (by kernel_rfl))
    refine WpOps.keep 28 (Value.bool (decide (g < 0))) (by kernel_rfl) (by kernel_rfl) (by kernel_rfl) ?_ (fun cf => o_pickF g28 (by kernel_rfl) (by kernel_rfl))
    refine WpOps.nil ?_
    exact ⟨rfl, (.upd rfl (.upd rfl (.upd rfl .refl))), (by kernel_rfl)⟩
  refine WpOps.keep 29 (Value.bool b28) (by kernel_rfl) (by kernel_rfl) (by kernel_rfl) ?_ (fun cf => (by kernel_rfl))
  refine WpOps.fork 3 (b28) [30, 31, 32] 32 (true) (decide (g > 255)) (by kernel_rfl) (fun g32 => ?_) (fun g32 => ?_) (fun f_32 b32 hb32 => ?_)
  · refine WpOps.unmet 30 (by kernel_rfl) (by kernel_rfl) (wants_tf g32 (by kernel_rfl)) ?_
    refine WpOps.unmet 31 (by kernel_rfl) (by kernel_rfl) (wants_tf g32 (by kernel_rfl)) ?_
    refine WpOps.keep 32 (Value.bool true) (by kernel_rfl) (by kernel_rfl) (by kernel_rfl) ?_ (fun cf => o_pickT g32 (by kernel_rfl) (by kernel_rfl))
    refine WpOps.nil ?_
    exact ⟨rfl, (.upd rfl (.upd rfl (.upd rfl .refl))), (by kernel_rfl)⟩
  · refine WpOps.keep 30 (Value.int IntKind.i64 g) (by kernel_rfl) (by kernel_rfl) (wants_ff g32 (by kernel_rfl)) ?_ (fun cf => (by kernel_rfl))
    refine WpOps.keep 31 (Value.bool (decide (g > 255))) (by kernel_rfl) (by kernel_rfl) (wants_ff g32 (by kernel_rfl)) ?_ (fun cf => (by kernel_rfl))
    refine WpOps.keep 32 (Value.bool (decide (g > 255))) (by kernel_rfl) (by kernel_rfl) (by kernel_rfl) ?_ (fun cf => o_pickF g32 (by kernel_rfl) (by kernel_rfl))
    refine WpOps.nil ?_
    exact ⟨rfl, (.upd rfl (.upd rfl (.upd rfl .refl))), (by kernel_rfl)⟩
  refine WpOps.keep 33 (Value.bool b32) (by kernel_rfl) (by kernel_rfl) (by kernel_rfl) ?_ (fun cf => (by kernel_rfl))
  refine WpOps.fork 3 (b32) [34, 35, 36] 36 (true) (decide (s < 0)) (by kernel_rfl) (fun g36 => ?_) (fun g36 => ?_) (fun f_36 b36 hb36 => ?_)
  · refine WpOps.unmet 34 (by kernel_rfl) (by kernel_rfl) (wants_tf g36 (by kernel_rfl)) ?_
    refine WpOps.unmet 35 (by kernel_rfl) (by kernel_rfl) (wants_tf g36 (by kernel_rfl)) ?_
    refine WpOps.keep 36 (Value.bool true) (by kernel_rfl) (by kernel_rfl) (by kernel_rfl) ?_ (fun cf => o_pickT g36 (by kernel_rfl) (by kernel_rfl))
    refine WpOps.nil ?_
    exact ⟨rfl, (.upd rfl (.upd rfl (.upd rfl .refl))), (by kernel_rfl)⟩
  · refine WpOps.keep 34 (Value.int IntKind.i64 s) (by kernel_rfl) (by kernel_rfl) (wants_ff g36 (by kernel_rfl)) ?_ (fun cf => (by kernel_rfl))
    refine WpOps.keep 35 (Value.bool (decide (s < 0))) (by kernel_rfl) (by kernel_rfl) (wants_ff g36 (by kernel_rfl)) ?_ (fun cf => (by kernel_rfl))
    refine WpOps.keep 36 (Value.bool (decide (s < 0))) (by kernel_rfl) (by kernel_rfl) (by kernel_rfl) ?_ (fun cf => o_pickF g36 (by kernel_rfl) (by kernel_rfl))
    refine WpOps.nil ?_
    exact ⟨rfl, (.upd rfl (.upd rfl (.upd rfl .refl))), (by kernel_rfl)⟩
  refine WpOps.keep 37 (Value.bool b36) (by kernel_rfl) (by kernel_rfl) (by kernel_rfl) ?_ (fun cf => (by kernel_rfl))
  refine WpOps.fork 3 (b36) [38, 39, 40] 40 (true) (decide (s ≥ 8)) (by kernel_rfl) (fun g40 => ?_) (fun g40 => ?_) (fun f_40 b40 hb40 => ?_)
  · refine WpOps.unmet 38 (by kernel_rfl) (by kernel_rfl) (wants_tf g40 (by kernel_rfl)) ?_
    refine WpOps.unmet 39 (by kernel_rfl) (by kernel_rfl) (wants_tf g40 (by kernel_rfl)) ?_
    refine WpOps.keep 40 (Value.bool true) (by kernel_rfl) (by kernel_rfl) (by kernel_rfl) ?_ (fun cf => o_pickT g40 (by kernel_rfl) (by kernel_rfl))
    refine WpOps.nil ?_
    exact ⟨rfl, (.upd rfl (.upd rfl (.upd rfl .refl))), (by kernel_rfl)⟩
  · refine WpOps.keep 38 (Value.int IntKind.i64 s) (by kernel_rfl) (by kernel_rfl) (wants_ff g40 (by kernel_rfl)) ?_ (fun cf => (by kernel_rfl))
    refine WpOps.keep 39 (Value.bool (decide (s ≥ 8))) (by kernel_rfl) (by kernel_rfl) (wants_ff g40 (by kernel_rfl)) ?_ (fun cf => (by kernel_rfl))
    refine WpOps.keep 40 (Value.bool (decide (s ≥ 8))) (by kernel_rfl) (by kernel_rfl) (by kernel_rfl) ?_ (fun cf => o_pickF g40 (by kernel_rfl) (by kernel_rfl))
    refine WpOps.nil ?_
    exact ⟨rfl, (.upd rfl (.upd rfl (.upd rfl .refl))), (by kernel_rfl)⟩
  refine WpOps.keep 41 (Value.bool b40) (by kernel_rfl) (by kernel_rfl) (by kernel_rfl) ?_ (fun cf => (by kernel_rfl))
  refine WpOps.fork 3 (b40) [42, 43, 44] 44 (true) (decide (r < 0)) (by kernel_rfl) (fun g44 => ?_) (fun g44 => ?_) (fun f_44 b44 hb44 => ?_)
  · refine WpOps.unmet 42 (by kernel_rfl) (by kernel_rfl) (wants_tf g44 (by kernel_rfl)) ?_
    refine WpOps.unmet 43 (by kernel_rfl) (by kernel_rfl) (wants_tf g44 (by kernel_rfl)) ?_
    refine WpOps.keep 44 (Value.bool true) (by kernel_rfl) (by kernel_rfl) (by kernel_rfl) ?_ (fun cf => o_pickT g44 (by kernel_rfl) (by kernel_rfl))
    refine WpOps.nil ?_
    exact ⟨rfl, (.upd rfl (.upd rfl (.upd rfl .refl))), (by kernel_rfl)⟩
  · refine WpOps.keep 42 (Value.int IntKind.i64 r) (by kernel_rfl) (by kernel_rfl) (wants_ff g44 (by kernel_rfl)) ?_ (fun cf => (by kernel_rfl))
    refine WpOps.keep 43 (Value.bool (decide (r < 0))) (by kernel_rfl) (by kernel_rfl) (wants_ff g44 (by kernel_rfl)) ?_ (fun cf => (by kernel_rfl))
    refine WpOps.keep 44 (Value.bool (decide (r < 0))) (by kernel_rfl) (by kernel_rfl) (by kernel_rfl) ?_ (fun cf => o_pickF g44 (by kernel_rfl) (by kernel_rfl))
    refine WpOps.nil ?_
    exact ⟨rfl, (.upd rfl (.upd rfl (.upd rfl .refl))), (by kernel_rfl)⟩
  refine WpOps.keep 45 (Value.bool b44) (by kernel_rfl) (by kernel_rfl) (by kernel_rfl) ?_ (fun cf => (by kernel_rfl))
  refine WpOps.fork 3 (b44) [46, 47, 48] 48 (true) (decide (r ≥ 8)) (by kernel_rfl) (fun g48 => ?_) (fun g48 => ?_) (fun f_48 b48 hb48 => ?_)
  · refine WpOps.unmet 46 (by kernel_rfl) (by kernel_rfl) (wants_tf g48 (by kernel_rfl)) ?_
    refine WpOps.unmet 47 (by kernel_rfl) (by kernel_rfl) (wants_tf g48 (by kernel_rfl)) ?_
    refine WpOps.keep 48 (Value.bool true) (by kernel_rfl) (by kernel_rfl) (by kernel_rfl) ?_ (fun cf => o_pickT g48 (by kernel_rfl) (by kernel_rfl))
    refine WpOps.nil ?_
    exact ⟨rfl, (.upd rfl (.upd rfl (.upd rfl .refl))), (by kernel_rfl)⟩
  · refine WpOps.keep 46 (Value.int IntKind.i64 r) (by kernel_rfl) (by kernel_rfl) (wants_ff g48 (by kernel_rfl)) ?_ (fun cf => (by kernel_rfl))
    refine WpOps.keep 47 (Value.bool (decide (r ≥ 8))) (by kernel_rfl) (by kernel_rfl) (wants_ff g48 (by kernel_rfl)) ?_ (fun cf => (by kernel_rfl))
    refine WpOps.keep 48 (Value.bool (decide (r ≥ 8))) (by kernel_rfl) (by kernel_rfl) (by kernel_rfl) ?_ (fun cf => o_pickF g48 (by kernel_rfl) (by kernel_rfl))
    refine WpOps.nil ?_
    exact ⟨rfl, (.upd rfl (.upd rfl (.upd rfl .refl))), (by kernel_rfl)⟩
  refine WpOps.keep 49 (Value.bool b48) (by kernel_rfl) (by kernel_rfl) (by kernel_rfl) ?_ (fun cf => (by kernel_rfl))
  refine WpOps.fork 4 (b48) [50, 51, 52, 53] 53 (true) (decide ((↑(ByteArray.size d) : Int) > 1000)) (by kernel_rfl) (fun g53 => ?_) (fun g53 => ?_) (fun f_53 b53 hb53 => ?_)
  · refine WpOps.unmet 50 (by kernel_rfl) (by kernel_rfl) (wants_tf g53 (by kernel_rfl)) ?_
    refine WpOps.unmet 51 (by kernel_rfl) (by kernel_rfl) (wants_tf g53 (by kernel_rfl)) ?_
    refine WpOps.unmet 52 (by kernel_rfl) (by kernel_rfl) (wants_tf g53 (by kernel_rfl)) ?_
    refine WpOps.keep 53 (Value.bool true) (by kernel_rfl) (by kernel_rfl) (by kernel_rfl) ?_ (fun cf => o_pickT g53 (by kernel_rfl) (by kernel_rfl))
    refine WpOps.nil ?_
    exact ⟨rfl, (.upd rfl (.upd rfl (.upd rfl (.upd rfl .refl)))), (by kernel_rfl)⟩
  · refine WpOps.keep 50 (Value.string d) (by kernel_rfl) (by kernel_rfl) (wants_ff g53 (by kernel_rfl)) ?_ (fun cf => (by kernel_rfl))
    refine WpOps.keep 51 (Value.int IntKind.i64 (↑(ByteArray.size d) : Int)) (by kernel_rfl) (by kernel_rfl) (wants_ff g53 (by kernel_rfl)) ?_ (fun cf => (by kernel_rfl))
    refine WpOps.keep 52 (Value.bool (decide ((↑(ByteArray.size d) : Int) > 1000))) (by kernel_rfl) (by kernel_rfl) (wants_ff g53 (by kernel_rfl)) ?_ (fun cf => (by kernel_rfl))
    refine WpOps.keep 53 (Value.bool (decide ((↑(ByteArray.size d) : Int) > 1000))) (by kernel_rfl) (by kernel_rfl) (by kernel_rfl) ?_ (fun cf => o_pickF g53 (by kernel_rfl) (by kernel_rfl))
    refine WpOps.nil ?_
    exact ⟨rfl, (.upd rfl (.upd rfl (.upd rfl (.upd rfl .refl)))), (by kernel_rfl)⟩
  refine WpOps.keep 13 (Value.bool b53) (by kernel_rfl) (by kernel_rfl) (by kernel_rfl) ?_ (fun cf => (by kernel_rfl))
  refine WpOps.nil ?_
  refine thenK_at ?_
  refine Wp.seq ?_
  refine Wp.seq ?_
  refine Wp.text ?_
  refine WpOps.keep 54 (Value.bool b53) (by kernel_rfl) (by kernel_rfl) (by kernel_rfl) ?_ (fun cf => (by kernel_rfl))
  refine WpOps.keep 55 (Value.bool b53) (by kernel_rfl) (by kernel_rfl) (by kernel_rfl) ?_ (fun cf => (by kernel_rfl))
  refine WpOps.fork 11 (b53) [56, 57, 58, 59, 60, 61, 62, 63, 64, 65, 66] 66 (true) (bif IntKind.wrap IntKind.u8 k != 3 then bif s != 0 then true else !ByteArray.toList d == ByteArray.toList (ByteArray.mk #[]) else false) (by kernel_rfl) (fun g66 => ?_) (fun g66 => ?_) (fun f_66 b66 hb66 => ?_)
  · refine WpOps.unmet 56 (by kernel_rfl) (by kernel_rfl) (wants_tf g66 (by kernel_rfl)) ?_
    refine WpOps.unmet 57 (by kernel_rfl) (by kernel_rfl) (wants_tf g66 (by kernel_rfl)) ?_
    refine WpOps.unmet 58 (by kernel_rfl) (by kernel_rfl) (wants_tf g66 (by kernel_rfl)) ?_
    refine WpOps.unmet 59 (by kernel_rfl) (by kernel_rfl) (by kernel_rfl) ?_
    refine WpOps.unmet 60 (by kernel_rfl) (by kernel_rfl) (by kernel_rfl) ?_
    refine WpOps.unmet 61 (by kernel_rfl) (by kernel_rfl) (by kernel_rfl) ?_
    refine WpOps.unmet 62 (by kernel_rfl) (by kernel_rfl) (by kernel_rfl) ?_
    refine WpOps.unmet 63 (by kernel_rfl) (by kernel_rfl) (by kernel_rfl) ?_
    refine WpOps.unmet 64 (by kernel_rfl) (by kernel_rfl) (by kernel_rfl) ?_
    refine WpOps.unmet 65 (by kernel_rfl) (by kernel_rfl) (wants_tf g66 (by kernel_rfl)) ?_
    refine WpOps.keep 66 (Value.bool true) (by kernel_rfl) (by kernel_rfl) (by kernel_rfl) ?_ (fun cf => o_pickT g66 (by kernel_rfl) (by kernel_rfl))
    refine WpOps.nil ?_
    exact ⟨rfl, (.upd rfl (.upd rfl (.upd rfl (.upd rfl (.upd rfl (.upd rfl (.upd rfl (.upd rfl (.upd rfl (.upd rfl (.upd rfl .refl))))))))))), (by kernel_rfl)⟩
  · refine WpOps.keep 56 (Value.int IntKind.u8 (IntKind.wrap IntKind.u8 k)) (by kernel_rfl) (by kernel_rfl) (wants_ff g66 (by kernel_rfl)) ?_ (fun cf => (by kernel_rfl))
    refine WpOps.keep 57 (Value.bool (IntKind.wrap IntKind.u8 k != 3)) (by kernel_rfl) (by kernel_rfl) (wants_ff g66 (by kernel_rfl)) ?_ (fun cf => (by kernel_rfl))
    refine WpOps.keep 58 (Value.bool (IntKind.wrap IntKind.u8 k != 3)) (by kernel_rfl) (by kernel_rfl) (wants_ff g66 (by kernel_rfl)) ?_ (fun cf => (by kernel_rfl))
    refine WpOps.forkE 8 (IntKind.wrap IntKind.u8 k != 3) [59, 60, 61, 62, 63, 64, 65, 66] 66 (bif s != 0 then true else !ByteArray.toList d == ByteArray.toList (ByteArray.mk #[])) (false) (by kernel_rfl) (fun g66' => ?_) (fun g66' => ?_) (fun f_66 => ?_)
    · refine WpOps.keep 59 (Value.int IntKind.i64 s) (by kernel_rfl) (by kernel_rfl) (wants_tt g66' (by kernel_rfl)) ?_ (fun cf => (by kernel_rfl))
      refine WpOps.keep 60 (Value.bool (s != 0)) (by kernel_rfl) (by kernel_rfl) (wants_tt g66' (by kernel_rfl)) ?_ (fun cf => (by kernel_rfl))
      refine WpOps.keep 61 (Value.bool (s != 0)) (by kernel_rfl) (by kernel_rfl) (wants_tt g66' (by kernel_rfl)) ?_ (fun cf => (by kernel_rfl))
      refine WpOps.forkE 5 (s != 0) [62, 63, 64, 65, 66] 66 (true) (!ByteArray.toList d == ByteArray.toList (ByteArray.mk #[])) (by kernel_rfl) (fun g66'' => ?_) (fun g66'' => ?_) (fun f_66 => ?_)
      · refine WpOps.unmet 62 (by kernel_rfl) (by kernel_rfl) (wants_tf g66'' (by kernel_rfl)) ?_
        refine WpOps.unmet 63 (by kernel_rfl) (by kernel_rfl) (wants_tf g66'' (by kernel_rfl)) ?_
        refine WpOps.keep 64 (Value.bool true) (by kernel_rfl) (by kernel_rfl) (wants_tt g66' (by kernel_rfl)) ?_ (fun cf => o_pickT g66'' (by kernel_rfl) (by kernel_rfl))
        refine WpOps.keep 65 (Value.bool true) (by kernel_rfl) (by kernel_rfl) (wants_ff g66 (by kernel_rfl)) ?_ (fun cf => o_pickT g66' (by kernel_rfl) (by kernel_rfl))
        refine WpOps.keep 66 (Value.bool true) (by kernel_rfl) (by kernel_rfl) (by kernel_rfl) ?_ (fun cf => o_pickF g66 (by kernel_rfl) (by kernel_rfl))
        refine WpOps.nil ?_
        exact ⟨rfl, (.upd rfl (.upd rfl (.upd rfl (.upd rfl (.upd rfl .refl))))), (by kernel_rfl)⟩
      · refine WpOps.keep 62 (Value.string d) (by kernel_rfl) (by kernel_rfl) (wants_ff g66'' (by kernel_rfl)) ?_ (fun cf => (by kernel_rfl))
        refine WpOps.keep 63 (Value.bool !ByteArray.toList d == ByteArray.toList (ByteArray.mk #[])) (by kernel_rfl) (by kernel_rfl) (wants_ff g66'' (by kernel_rfl)) ?_ (fun cf => (by kernel_rfl))
        refine WpOps.keep 64 (Value.bool !ByteArray.toList d == ByteArray.toList (ByteArray.mk #[])) (by kernel_rfl) (by kernel_rfl) (wants_tt g66' (by kernel_rfl)) ?_ (fun cf => o_pickF g66'' (by kernel_rfl) (by kernel_rfl))
        refine WpOps.keep 65 (Value.bool !ByteArray.toList d == ByteArray.toList (ByteArray.mk #[])) (by kernel_rfl) (by kernel_rfl) (wants_ff g66 (by kernel_rfl)) ?_ (fun cf => o_pickT g66' (by kernel_rfl) (by kernel_rfl))
        refine WpOps.keep 66 (Value.bool !ByteArray.toList d == ByteArray.toList (ByteArray.mk #[])) (by kernel_rfl) (by kernel_rfl) (by kernel_rfl) ?_ (fun cf => o_pickF g66 (by kernel_rfl) (by kernel_rfl))
        refine WpOps.nil ?_
        exact ⟨rfl, (.upd rfl (.upd rfl (.upd rfl (.upd rfl (.upd rfl .refl))))), (by kernel_rfl)⟩
      refine WpOps.nil ?_
      exact ⟨rfl, (.upd rfl (.mix rfl (.upd rfl (.upd rfl (.upd rfl .refl))))), (by kernel_rfl)⟩
    · refine WpOps.unmet 59 (by kernel_rfl) (by kernel_rfl) (wants_ft g66' (by kernel_rfl)) ?_
      refine WpOps.unmet 60 (by kernel_rfl) (by kernel_rfl) (wants_ft g66' (by kernel_rfl)) ?_
      refine WpOps.unmet 61 (by kernel_rfl) (by kernel_rfl) (wants_ft g66' (by kernel_rfl)) ?_
      refine WpOps.unmet 62 (by kernel_rfl) (by kernel_rfl) (by kernel_rfl) ?_
      refine WpOps.unmet 63 (by kernel_rfl) (by kernel_rfl) (by kernel_rfl) ?_
      refine WpOps.unmet 64 (by kernel_rfl) (by kernel_rfl) (wants_ft g66' (by kernel_rfl)) ?_
      refine WpOps.keep 65 (Value.bool false) (by kernel_rfl) (by kernel_rfl) (wants_ff g66 (by kernel_rfl)) ?_ (fun cf => o_pickF g66' (by kernel_rfl) (by kernel_rfl))
      refine WpOps.keep 66 (Value.bool false) (by kernel_rfl) (by kernel_rfl) (by kernel_rfl) ?_ (fun cf => o_pickF g66 (by kernel_rfl) (by kernel_rfl))
      refine WpOps.nil ?_
      exact ⟨rfl, (.upd rfl (.upd rfl (.upd rfl (.upd rfl (.upd rfl (.upd rfl (.upd rfl (.upd rfl .refl)))))))), (by kernel_rfl)⟩
    refine WpOps.nil ?_
    exact ⟨rfl, (.upd rfl (.mix rfl (.upd rfl (.upd rfl (.upd rfl .refl))))), (by kernel_rfl)⟩
  refine WpOps.keep 67 (Value.bool b66) (by kernel_rfl) (by kernel_rfl) (by kernel_rfl) ?_ (fun cf => (by kernel_rfl))
  refine WpOps.fork 11 (b66) [68, 69, 70, 71, 72, 73, 74, 75, 76, 77, 78] 78 (true) (bif decide (IntKind.wrap IntKind.u8 k < 3) then r != 0 else bif decide (IntKind.wrap IntKind.u8 k > 5) then r != 0 else false) (by kernel_rfl) (fun g78 => ?_) (fun g78 => ?_) (fun f_78 b78 hb78 => ?_)
  · refine WpOps.unmet 68 (by kernel_rfl) (by kernel_rfl) (wants_tf g78 (by kernel_rfl)) ?_
    refine WpOps.unmet 69 (by kernel_rfl) (by kernel_rfl) (wants_tf g78 (by kernel_rfl)) ?_
    refine WpOps.unmet 70 (by kernel_rfl) (by kernel_rfl) (wants_tf g78 (by kernel_rfl)) ?_
    refine WpOps.unmet 71 (by kernel_rfl) (by kernel_rfl) (by kernel_rfl) ?_
    refine WpOps.unmet 72 (by kernel_rfl) (by kernel_rfl) (by kernel_rfl) ?_
    refine WpOps.unmet 73 (by kernel_rfl) (by kernel_rfl) (wants_tf g78 (by kernel_rfl)) ?_
    refine WpOps.unmet 74 (by kernel_rfl) (by kernel_rfl) (wants_tf g78 (by kernel_rfl)) ?_
    refine WpOps.unmet 75 (by kernel_rfl) (by kernel_rfl) (by kernel_rfl) ?_
    refine WpOps.unmet 76 (by kernel_rfl) (by kernel_rfl) (by kernel_rfl) ?_
    refine WpOps.unmet 77 (by kernel_rfl) (by kernel_rfl) (wants_tf g78 (by kernel_rfl)) ?_
    refine WpOps.keep 78 (Value.bool true) (by kernel_rfl) (by kernel_rfl) (by kernel_rfl) ?_ (fun cf => o_pickT g78 (by kernel_rfl) (by kernel_rfl))
    refine WpOps.nil ?_
    exact ⟨rfl, (.upd rfl (.upd rfl (.upd rfl (.upd rfl (.upd rfl (.upd rfl (.upd rfl (.upd rfl (.upd rfl (.upd rfl (.upd rfl .refl))))))))))), (by kernel_rfl)⟩
  · refine WpOps.keep 68 (Value.int IntKind.u8 (IntKind.wrap IntKind.u8 k)) (by kernel_rfl) (by kernel_rfl) (wants_ff g78 (by kernel_rfl)) ?_ (fun cf => (by kernel_rfl))
    refine WpOps.keep 69 (Value.bool (decide (IntKind.wrap IntKind.u8 k < 3))) (by kernel_rfl) (by kernel_rfl) (wants_ff g78 (by kernel_rfl)) ?_ (fun cf => (by kernel_rfl))
    refine WpOps.keep 70 (Value.bool (decide (IntKind.wrap IntKind.u8 k < 3))) (by kernel_rfl) (by kernel_rfl) (wants_ff g78 (by kernel_rfl)) ?_ (fun cf => (by kernel_rfl))
    refine WpOps.forkE 8 (decide (IntKind.wrap IntKind.u8 k < 3)) [71, 72, 73, 74, 75, 76, 77, 78] 78 (r != 0) (bif decide (IntKind.wrap IntKind.u8 k > 5) then r != 0 else false) (by kernel_rfl) (fun g78' => ?_) (fun g78' => ?_) (fun f_78 => ?_)
    · refine WpOps.unmet 71 (by kernel_rfl) (by kernel_rfl) (wants_tf g78' (by kernel_rfl)) ?_
      refine WpOps.unmet 72 (by kernel_rfl) (by kernel_rfl) (wants_tf g78' (by kernel_rfl)) ?_
      refine WpOps.keep 73 (Value.bool true) (by kernel_rfl) (by kernel_rfl) (wants_ff g78 (by kernel_rfl)) ?_ (fun cf => o_pickT g78' (by kernel_rfl) (by kernel_rfl))
      refine WpOps.keep 74 (Value.bool true) (by kernel_rfl) (by kernel_rfl) (wants_ff g78 (by kernel_rfl)) ?_ (fun cf => (by kernel_rfl))
      refine WpOps.keep 75 (Value.int IntKind.i64 r) (by kernel_rfl) (by kernel_rfl) (by kernel_rfl) ?_ (fun cf => (by kernel_rfl))
      refine WpOps.keep 76 (Value.bool (r != 0)) (by kernel_rfl) (by kernel_rfl) (by kernel_rfl) ?_ (fun cf => (by kernel_rfl))
      refine WpOps.keep 77 (Value.bool (r != 0)) (by kernel_rfl) (by kernel_rfl) (wants_ff g78 (by kernel_rfl)) ?_ (fun cf => (by kernel_rfl))
      refine WpOps.keep 78 (Value.bool (r != 0)) (by kernel_rfl) (by kernel_rfl) (by kernel_rfl) ?_ (fun cf => o_pickF g78 (by kernel_rfl) (by kernel_rfl))
      refine WpOps.nil ?_
      exact ⟨rfl, (.upd rfl (.upd rfl (.upd rfl (.upd rfl (.upd rfl (.upd rfl (.upd rfl (.upd rfl .refl)))))))), (by kernel_rfl)⟩
    · refine WpOps.keep 71 (Value.int IntKind.u8 (IntKind.wrap IntKind.u8 k)) (by kernel_rfl) (by kernel_rfl) (wants_ff g78' (by kernel_rfl)) ?_ (fun cf => (by kernel_rfl))
      refine WpOps.keep 72 (Value.bool (decide (IntKind.wrap IntKind.u8 k > 5))) (by kernel_rfl) (by kernel_rfl) (wants_ff g78' (by kernel_rfl)) ?_ (fun cf => (by kernel_rfl))
      refine WpOps.keep 73 (Value.bool (decide (IntKind.wrap IntKind.u8 k > 5))) (by kernel_rfl) (by kernel_rfl) (wants_ff g78 (by kernel_rfl)) ?_ (fun cf => o_pickF g78' (by kernel_rfl) (by kernel_rfl))
      refine WpOps.keep 74 (Value.bool (decide (IntKind.wrap IntKind.u8 k > 5))) (by kernel_rfl) (by kernel_rfl) (wants_ff g78 (by kernel_rfl)) ?_ (fun cf => (by kernel_rfl))
      refine WpOps.forkE 4 (decide (IntKind.wrap IntKind.u8 k > 5)) [75, 76, 77, 78] 78 (r != 0) (false) (by kernel_rfl) (fun g78'' => ?_) (fun g78'' => ?_) (fun f_78 => ?_)
      · refine WpOps.keep 75 (Value.int IntKind.i64 r) (by kernel_rfl) (by kernel_rfl) (wants_tt g78'' (by kernel_rfl)) ?_ (fun cf => (by kernel_rfl))
        refine WpOps.keep 76 (Value.bool (r != 0)) (by kernel_rfl) (by kernel_rfl) (wants_tt g78'' (by kernel_rfl)) ?_ (fun cf => (by kernel_rfl))
        refine WpOps.keep 77 (Value.bool (r != 0)) (by kernel_rfl) (by kernel_rfl) (wants_ff g78 (by kernel_rfl)) ?_ (fun cf => o_pickT g78'' (by kernel_rfl) (by kernel_rfl))
        refine WpOps.keep 78 (Value.bool (r != 0)) (by kernel_rfl) (by kernel_rfl) (by kernel_rfl) ?_ (fun cf => o_pickF g78 (by kernel_rfl) (by kernel_rfl))
        refine WpOps.nil ?_
        exact ⟨rfl, (.upd rfl (.upd rfl (.upd rfl (.upd rfl .refl)))), (by kernel_rfl)⟩
      · refine WpOps.unmet 75 (by kernel_rfl) (by kernel_rfl) (wants_ft g78'' (by kernel_rfl)) ?_
        refine WpOps.unmet 76 (by kernel_rfl) (by kernel_rfl) (wants_ft g78'' (by kernel_rfl)) ?_
        refine WpOps.keep 77 (Value.bool false) (by kernel_rfl) (by kernel_rfl) (wants_ff g78 (by kernel_rfl)) ?_ (fun cf => o_pickF g78'' (by kernel_rfl) (by kernel_rfl))
        refine WpOps.keep 78 (Value.bool false) (by kernel_rfl) (by kernel_rfl) (by kernel_rfl) ?_ (fun cf => o_pickF g78 (by kernel_rfl) (by kernel_rfl))
        refine WpOps.nil ?_
        exact ⟨rfl, (.upd rfl (.upd rfl (.upd rfl (.upd rfl .refl)))), (by kernel_rfl)⟩
      refine WpOps.nil ?_
      exact ⟨rfl, (.upd rfl (.mix rfl (.upd rfl (.upd rfl (.upd rfl (.upd rfl .refl)))))), (by kernel_rfl)⟩
    refine WpOps.nil ?_
    exact ⟨rfl, (.upd rfl (.mix rfl (.upd rfl (.upd rfl (.upd rfl .refl))))), (by kernel_rfl)⟩
  refine WpOps.nil ?_
  refine thenK_at ?_
  have he : b78 = !decide (Fit k g s r d.size) := by
    rw [Bool.eq_iff_iff, hb78, hb66, hb53, hb48, hb44, hb40, hb36, hb32, hb28, hb24, empty_ne]
    by_cases hk : 1 ≤ k ∧ k ≤ 8
    · rw [wu8 k (by omega) (by omega)]
      simp only [cond_or, cond_and]
      simp only [cond_gen, Bool.or_eq_true, Bool.and_eq_true, decide_eq_true_eq, bne_iff_ne, ne_eq, Bool.not_eq_true', decide_eq_false_iff_not]
      unfold Fit
      omega
    · simp only [cond_or, cond_and]
      simp only [cond_gen, Bool.or_eq_true, Bool.and_eq_true, decide_eq_true_eq, bne_iff_ne, ne_eq, Bool.not_eq_true', decide_eq_false_iff_not]
      unfold Fit
      omega
  clear hb78 hb66 hb53 hb48 hb44 hb40 hb36 hb32 hb28 hb24
  refine Wp.split (b78) (by kernel_rfl) (fun hc => ?_) (fun hc => ?_)
  · have h : ¬ Fit k g s r d.size := by
      intro h
      rw [decide_eq_true h, hc] at he
      cases he
    refine Wp.seq ?_
    refine Wp.text ?_
    refine WpOps.keep 10 (Value.string (ByteArray.mk #[])) (by kernel_rfl) (by kernel_rfl) (by kernel_rfl) ?_ (fun cf => (by kernel_rfl))
    refine WpOps.keep 11 (Value.int IntKind.i64 1) (by kernel_rfl) (by kernel_rfl) (by kernel_rfl) ?_ (fun cf => (by kernel_rfl))
    refine WpOps.nil ?_
    refine thenK_at ?_
    refine Wp.ret ?_
    refine thenK_ret ?_
    refine endK_retn [Value.string (ByteArray.mk #[]), Value.int IntKind.i64 1] (Value.tuple #[Value.string (ByteArray.mk #[]), Value.int IntKind.i64 1]) (by kernel_rfl) (by kernel_rfl) ?_
    rw [frame, if_neg h]
    kernel_rfl
  · have h : Fit k g s r d.size := by
      rw [hc] at he
      exact of_decide_eq_true (by simpa using he.symm)
    have hd := h.2.2.2.2.2.2
    have h1 := fr3_le k g s r d hd
    have h2 := fr3_le2 k g s r d hd
    have c : Fun E 32 [.string (fr3 k g s r ++ d)] (.tuple #[.string (sumS (fr3 k g s r ++ d)), .int .i64 0]) := sum32 _ (fr3_sz k g s r d hd)
    unfold fr3 at c h1 h2
    refine Wp.skip ?_
    refine thenK_at ?_
    refine Wp.seq ?_
    refine Wp.text ?_
    refine WpOps.keep 79 (Value.int IntKind.u8 (IntKind.wrap IntKind.u8 k)) (by kernel_rfl) (by kernel_rfl) (by kernel_rfl) ?_ (fun cf => (by kernel_rfl))
    refine WpOps.keep 80 (Value.int IntKind.i64 g) (by kernel_rfl) (by kernel_rfl) (by kernel_rfl) ?_ (fun cf => (by kernel_rfl))
    refine WpOps.keep 81 (Value.int IntKind.u8 (IntKind.wrap IntKind.u8 g)) (by kernel_rfl) (by kernel_rfl) (by kernel_rfl) ?_ (fun cf => (by kernel_rfl))
    refine WpOps.keep 82 (Value.int IntKind.i64 s) (by kernel_rfl) (by kernel_rfl) (by kernel_rfl) ?_ (fun cf => (by kernel_rfl))
    refine WpOps.keep 83 (Value.int IntKind.i64 (IntKind.wrap IntKind.i64 (8 * s))) (by kernel_rfl) (by kernel_rfl) (by kernel_rfl) ?_ (fun cf => (by kernel_rfl))
    refine WpOps.keep 84 (Value.int IntKind.i64 r) (by kernel_rfl) (by kernel_rfl) (by kernel_rfl) ?_ (fun cf => (by kernel_rfl))
    refine WpOps.keep 85 (Value.int IntKind.i64 (IntKind.wrap IntKind.i64 (IntKind.wrap IntKind.i64 (8 * s) + r))) (by kernel_rfl) (by kernel_rfl) (by kernel_rfl) ?_ (fun cf => (by kernel_rfl))
    refine WpOps.keep 86 (Value.int IntKind.u8 (IntKind.wrap IntKind.u8 (IntKind.wrap IntKind.i64 (IntKind.wrap IntKind.i64 (8 * s) + r)))) (by kernel_rfl) (by kernel_rfl) (by kernel_rfl) ?_ (fun cf => (by kernel_rfl))
    refine WpOps.made 87 (Value.slice (some (Addr.mk 0 0 none)) 3 3) (Blk.mk 5 true [Value.int IntKind.u8 (IntKind.wrap IntKind.u8 k), Value.int IntKind.u8 (IntKind.wrap IntKind.u8 g), Value.int IntKind.u8 (IntKind.wrap IntKind.u8 (IntKind.wrap IntKind.i64 (IntKind.wrap IntKind.i64 (8 * s) + r)))]) (by kernel_rfl) (by kernel_rfl) (by kernel_rfl) ?_ (fun cf => (by kernel_rfl))
    refine WpOps.keep 88 (Value.string (ByteArray.mk #[UInt8.ofNat (Int.toNat (IntKind.wrap IntKind.u8 k)), UInt8.ofNat (Int.toNat (IntKind.wrap IntKind.u8 g)), UInt8.ofNat (Int.toNat (IntKind.wrap IntKind.u8 (IntKind.wrap IntKind.i64 (IntKind.wrap IntKind.i64 (8 * s) + r))))])) (by kernel_rfl) (by kernel_rfl) (by kernel_rfl) ?_ (fun cf => (by kernel_rfl))
    refine WpOps.keep 89 (Value.string d) (by kernel_rfl) (by kernel_rfl) (by kernel_rfl) ?_ (fun cf => (by kernel_rfl))
    refine WpOps.keep 90 (Value.string (ByteArray.mk #[UInt8.ofNat (Int.toNat (IntKind.wrap IntKind.u8 k)), UInt8.ofNat (Int.toNat (IntKind.wrap IntKind.u8 g)), UInt8.ofNat (Int.toNat (IntKind.wrap IntKind.u8 (IntKind.wrap IntKind.i64 (IntKind.wrap IntKind.i64 (8 * s) + r))))] ++ d)) (by kernel_rfl) (by kernel_rfl) (by kernel_rfl) ?_ (fun cf => o_add h1 (by kernel_rfl) (by kernel_rfl))
    refine WpOps.keep 14 (Value.string (ByteArray.mk #[UInt8.ofNat (Int.toNat (IntKind.wrap IntKind.u8 k)), UInt8.ofNat (Int.toNat (IntKind.wrap IntKind.u8 g)), UInt8.ofNat (Int.toNat (IntKind.wrap IntKind.u8 (IntKind.wrap IntKind.i64 (IntKind.wrap IntKind.i64 (8 * s) + r))))] ++ d)) (by kernel_rfl) (by kernel_rfl) (by kernel_rfl) ?_ (fun cf => (by kernel_rfl))
    refine WpOps.nil ?_
    refine thenK_at ?_
    refine Wp.seq ?_
    refine Wp.text ?_
    refine WpOps.keep 92 (Value.string (ByteArray.mk #[UInt8.ofNat (Int.toNat (IntKind.wrap IntKind.u8 k)), UInt8.ofNat (Int.toNat (IntKind.wrap IntKind.u8 g)), UInt8.ofNat (Int.toNat (IntKind.wrap IntKind.u8 (IntKind.wrap IntKind.i64 (IntKind.wrap IntKind.i64 (8 * s) + r))))] ++ d)) (by kernel_rfl) (by kernel_rfl) (by kernel_rfl) ?_ (fun cf => (by kernel_rfl))
    refine WpOps.framed 93 32 [Value.string (ByteArray.mk #[UInt8.ofNat (Int.toNat (IntKind.wrap IntKind.u8 k)), UInt8.ofNat (Int.toNat (IntKind.wrap IntKind.u8 g)), UInt8.ofNat (Int.toNat (IntKind.wrap IntKind.u8 (IntKind.wrap IntKind.i64 (IntKind.wrap IntKind.i64 (8 * s) + r))))] ++ d)] (by kernel_rfl) (by kernel_rfl) (by kernel_rfl) (by kernel_rfl) (by kernel_rfl) (fun cf => (by kernel_rfl)) ?_
    refine WpFun.of (c) ?_
    refine WpOps.keep 91 (Value.tuple #[Value.string (sumS (ByteArray.mk #[UInt8.ofNat (Int.toNat (IntKind.wrap IntKind.u8 k)), UInt8.ofNat (Int.toNat (IntKind.wrap IntKind.u8 g)), UInt8.ofNat (Int.toNat (IntKind.wrap IntKind.u8 (IntKind.wrap IntKind.i64 (IntKind.wrap IntKind.i64 (8 * s) + r))))] ++ d)), Value.int IntKind.i64 0]) (by kernel_rfl) (by kernel_rfl) (by kernel_rfl) ?_ (fun cf => (by kernel_rfl))
    refine WpOps.keep 94 (Value.string (sumS (ByteArray.mk #[UInt8.ofNat (Int.toNat (IntKind.wrap IntKind.u8 k)), UInt8.ofNat (Int.toNat (IntKind.wrap IntKind.u8 g)), UInt8.ofNat (Int.toNat (IntKind.wrap IntKind.u8 (IntKind.wrap IntKind.i64 (IntKind.wrap IntKind.i64 (8 * s) + r))))] ++ d))) (by kernel_rfl) (by kernel_rfl) (by kernel_rfl) ?_ (fun cf => (by kernel_rfl))
    refine WpOps.keep 95 (Value.int IntKind.i64 0) (by kernel_rfl) (by kernel_rfl) (by kernel_rfl) ?_ (fun cf => (by kernel_rfl))
    refine WpOps.keep 15 (Value.string (sumS (ByteArray.mk #[UInt8.ofNat (Int.toNat (IntKind.wrap IntKind.u8 k)), UInt8.ofNat (Int.toNat (IntKind.wrap IntKind.u8 g)), UInt8.ofNat (Int.toNat (IntKind.wrap IntKind.u8 (IntKind.wrap IntKind.i64 (IntKind.wrap IntKind.i64 (8 * s) + r))))] ++ d))) (by kernel_rfl) (by kernel_rfl) (by kernel_rfl) ?_ (fun cf => (by kernel_rfl))
    refine WpOps.keep 16 (Value.int IntKind.i64 0) (by kernel_rfl) (by kernel_rfl) (by kernel_rfl) ?_ (fun cf => (by kernel_rfl))
    refine WpOps.nil ?_
    refine thenK_at ?_
    refine Wp.seq ?_
    refine Wp.text ?_
    refine WpOps.keep 96 (Value.string (ByteArray.mk #[UInt8.ofNat (Int.toNat (IntKind.wrap IntKind.u8 k)), UInt8.ofNat (Int.toNat (IntKind.wrap IntKind.u8 g)), UInt8.ofNat (Int.toNat (IntKind.wrap IntKind.u8 (IntKind.wrap IntKind.i64 (IntKind.wrap IntKind.i64 (8 * s) + r))))] ++ d)) (by kernel_rfl) (by kernel_rfl) (by kernel_rfl) ?_ (fun cf => (by kernel_rfl))
    refine WpOps.keep 97 (Value.string (sumS (ByteArray.mk #[UInt8.ofNat (Int.toNat (IntKind.wrap IntKind.u8 k)), UInt8.ofNat (Int.toNat (IntKind.wrap IntKind.u8 g)), UInt8.ofNat (Int.toNat (IntKind.wrap IntKind.u8 (IntKind.wrap IntKind.i64 (IntKind.wrap IntKind.i64 (8 * s) + r))))] ++ d))) (by kernel_rfl) (by kernel_rfl) (by kernel_rfl) ?_ (fun cf => (by kernel_rfl))
    refine WpOps.keep 98 (Value.string (ByteArray.mk #[UInt8.ofNat (Int.toNat (IntKind.wrap IntKind.u8 k)), UInt8.ofNat (Int.toNat (IntKind.wrap IntKind.u8 g)), UInt8.ofNat (Int.toNat (IntKind.wrap IntKind.u8 (IntKind.wrap IntKind.i64 (IntKind.wrap IntKind.i64 (8 * s) + r))))] ++ d ++ sumS (ByteArray.mk #[UInt8.ofNat (Int.toNat (IntKind.wrap IntKind.u8 k)), UInt8.ofNat (Int.toNat (IntKind.wrap IntKind.u8 g)), UInt8.ofNat (Int.toNat (IntKind.wrap IntKind.u8 (IntKind.wrap IntKind.i64 (IntKind.wrap IntKind.i64 (8 * s) + r))))] ++ d))) (by kernel_rfl) (by kernel_rfl) (by kernel_rfl) ?_ (fun cf => o_add h2 (by kernel_rfl) (by kernel_rfl))
    refine WpOps.keep 10 (Value.string (ByteArray.mk #[UInt8.ofNat (Int.toNat (IntKind.wrap IntKind.u8 k)), UInt8.ofNat (Int.toNat (IntKind.wrap IntKind.u8 g)), UInt8.ofNat (Int.toNat (IntKind.wrap IntKind.u8 (IntKind.wrap IntKind.i64 (IntKind.wrap IntKind.i64 (8 * s) + r))))] ++ d ++ sumS (ByteArray.mk #[UInt8.ofNat (Int.toNat (IntKind.wrap IntKind.u8 k)), UInt8.ofNat (Int.toNat (IntKind.wrap IntKind.u8 g)), UInt8.ofNat (Int.toNat (IntKind.wrap IntKind.u8 (IntKind.wrap IntKind.i64 (IntKind.wrap IntKind.i64 (8 * s) + r))))] ++ d))) (by kernel_rfl) (by kernel_rfl) (by kernel_rfl) ?_ (fun cf => (by kernel_rfl))
    refine WpOps.keep 11 (Value.int IntKind.i64 0) (by kernel_rfl) (by kernel_rfl) (by kernel_rfl) ?_ (fun cf => (by kernel_rfl))
    refine WpOps.nil ?_
    refine thenK_at ?_
    refine Wp.ret ?_
    refine endK_retn [Value.string (ByteArray.mk #[UInt8.ofNat (Int.toNat (IntKind.wrap IntKind.u8 k)), UInt8.ofNat (Int.toNat (IntKind.wrap IntKind.u8 g)), UInt8.ofNat (Int.toNat (IntKind.wrap IntKind.u8 (IntKind.wrap IntKind.i64 (IntKind.wrap IntKind.i64 (8 * s) + r))))] ++ d ++ sumS (ByteArray.mk #[UInt8.ofNat (Int.toNat (IntKind.wrap IntKind.u8 k)), UInt8.ofNat (Int.toNat (IntKind.wrap IntKind.u8 g)), UInt8.ofNat (Int.toNat (IntKind.wrap IntKind.u8 (IntKind.wrap IntKind.i64 (IntKind.wrap IntKind.i64 (8 * s) + r))))] ++ d)), Value.int IntKind.i64 0] (Value.tuple #[Value.string (ByteArray.mk #[UInt8.ofNat (Int.toNat (IntKind.wrap IntKind.u8 k)), UInt8.ofNat (Int.toNat (IntKind.wrap IntKind.u8 g)), UInt8.ofNat (Int.toNat (IntKind.wrap IntKind.u8 (IntKind.wrap IntKind.i64 (IntKind.wrap IntKind.i64 (8 * s) + r))))] ++ d ++ sumS (ByteArray.mk #[UInt8.ofNat (Int.toNat (IntKind.wrap IntKind.u8 k)), UInt8.ofNat (Int.toNat (IntKind.wrap IntKind.u8 g)), UInt8.ofNat (Int.toNat (IntKind.wrap IntKind.u8 (IntKind.wrap IntKind.i64 (IntKind.wrap IntKind.i64 (8 * s) + r))))] ++ d)), Value.int IntKind.i64 0]) (by kernel_rfl) (by kernel_rfl) ?_
    rw [frame, if_pos h]
    kernel_rfl
theorem f11 : E.funcs 11 = some Try.f11 := by kernel_rfl
theorem frame11 (k g s r : Int) (d : ByteArray) : Fun E 11 [.int .i64 k, .int .i64 g, .int .i64 s, .int .i64 r, .string d] (frame k g s r d) := by
  refine Fun.of f11 rfl (of_decide_eq_true (by kernel_rfl)) (by unfold frame; split <;> rfl) ?_
  have c0 := fits33 k g s r d
  by_cases h : Fit k g s r d.size
  · rw [decide_eq_true h] at c0
    have hd := h.2.2.2.2.2.2
    have h1 := fr3_le k g s r d hd
    have h2 := fr3_le2 k g s r d hd
    have c : Fun E 34 [.string (fr3 k g s r ++ d)] (.tuple #[.string (sumS (fr3 k g s r ++ d)), .int .i64 0]) := sum34 _ (fr3_sz k g s r d hd)
    unfold fr3 at c h1 h2
    refine Wp.seq ?_
    refine Wp.text ?_
    refine WpOps.keep 10 (Value.string (ByteArray.mk #[])) (by kernel_rfl) (by kernel_rfl) (by kernel_rfl) ?_ (fun cf => (by kernel_rfl))
    refine WpOps.keep 11 (Value.int IntKind.i64 0) (by kernel_rfl) (by kernel_rfl) (by kernel_rfl) ?_ (fun cf => (by kernel_rfl))
    refine WpOps.nil ?_
    refine thenK_at ?_
    refine Wp.seq ?_
    refine Wp.seq ?_
    refine Wp.text ?_
    refine WpOps.keep 15 (Value.int IntKind.i64 k) (by kernel_rfl) (by kernel_rfl) (by kernel_rfl) ?_ (fun cf => (by kernel_rfl))
    refine WpOps.keep 16 (Value.int IntKind.i64 g) (by kernel_rfl) (by kernel_rfl) (by kernel_rfl) ?_ (fun cf => (by kernel_rfl))
    refine WpOps.keep 17 (Value.int IntKind.i64 s) (by kernel_rfl) (by kernel_rfl) (by kernel_rfl) ?_ (fun cf => (by kernel_rfl))
    refine WpOps.keep 18 (Value.int IntKind.i64 r) (by kernel_rfl) (by kernel_rfl) (by kernel_rfl) ?_ (fun cf => (by kernel_rfl))
    refine WpOps.keep 19 (Value.string d) (by kernel_rfl) (by kernel_rfl) (by kernel_rfl) ?_ (fun cf => (by kernel_rfl))
    refine WpOps.framed 20 33 [Value.int IntKind.i64 k, Value.int IntKind.i64 g, Value.int IntKind.i64 s, Value.int IntKind.i64 r, Value.string d] (by kernel_rfl) (by kernel_rfl) (by kernel_rfl) (by kernel_rfl) (by kernel_rfl) (fun cf => (by kernel_rfl)) ?_
    refine WpFun.of (c0) ?_
    refine WpOps.keep 21 (Value.bool false) (by kernel_rfl) (by kernel_rfl) (by kernel_rfl) ?_ (fun cf => (by kernel_rfl))
    refine WpOps.nil ?_
    refine thenK_at ?_
    refine Wp.off (by kernel_rfl) ?_
    refine Wp.skip ?_
    refine thenK_at ?_
    refine Wp.seq ?_
    refine Wp.text ?_
    refine WpOps.keep 22 (Value.int IntKind.i64 k) (by kernel_rfl) (by kernel_rfl) (by kernel_rfl) ?_ (fun cf => (by kernel_rfl))
    refine WpOps.keep 23 (Value.int IntKind.u8 (IntKind.wrap IntKind.u8 k)) (by kernel_rfl) (by kernel_rfl) (by kernel_rfl) ?_ (fun cf => (by kernel_rfl))
    refine WpOps.keep 24 (Value.int IntKind.i64 g) (by kernel_rfl) (by kernel_rfl) (by kernel_rfl) ?_ (fun cf => (by kernel_rfl))
    refine WpOps.keep 25 (Value.int IntKind.u8 (IntKind.wrap IntKind.u8 g)) (by kernel_rfl) (by kernel_rfl) (by kernel_rfl) ?_ (fun cf => (by kernel_rfl))
    refine WpOps.keep 26 (Value.int IntKind.i64 s) (by kernel_rfl) (by kernel_rfl) (by kernel_rfl) ?_ (fun cf => (by kernel_rfl))
    refine WpOps.keep 27 (Value.int IntKind.i64 (IntKind.wrap IntKind.i64 (8 * s))) (by kernel_rfl) (by kernel_rfl) (by kernel_rfl) ?_ (fun cf => (by kernel_rfl))
    refine WpOps.keep 28 (Value.int IntKind.i64 r) (by kernel_rfl) (by kernel_rfl) (by kernel_rfl) ?_ (fun cf => (by kernel_rfl))
    refine WpOps.keep 29 (Value.int IntKind.i64 (IntKind.wrap IntKind.i64 (IntKind.wrap IntKind.i64 (8 * s) + r))) (by kernel_rfl) (by kernel_rfl) (by kernel_rfl) ?_ (fun cf => (by kernel_rfl))
    refine WpOps.keep 30 (Value.int IntKind.u8 (IntKind.wrap IntKind.u8 (IntKind.wrap IntKind.i64 (IntKind.wrap IntKind.i64 (8 * s) + r)))) (by kernel_rfl) (by kernel_rfl) (by kernel_rfl) ?_ (fun cf => (by kernel_rfl))
    refine WpOps.made 31 (Value.slice (some (Addr.mk 0 0 none)) 3 3) (Blk.mk 5 true [Value.int IntKind.u8 (IntKind.wrap IntKind.u8 k), Value.int IntKind.u8 (IntKind.wrap IntKind.u8 g), Value.int IntKind.u8 (IntKind.wrap IntKind.u8 (IntKind.wrap IntKind.i64 (IntKind.wrap IntKind.i64 (8 * s) + r)))]) (by kernel_rfl) (by kernel_rfl) (by kernel_rfl) ?_ (fun cf => (by kernel_rfl))
    refine WpOps.keep 32 (Value.string (ByteArray.mk #[UInt8.ofNat (Int.toNat (IntKind.wrap IntKind.u8 k)), UInt8.ofNat (Int.toNat (IntKind.wrap IntKind.u8 g)), UInt8.ofNat (Int.toNat (IntKind.wrap IntKind.u8 (IntKind.wrap IntKind.i64 (IntKind.wrap IntKind.i64 (8 * s) + r))))])) (by kernel_rfl) (by kernel_rfl) (by kernel_rfl) ?_ (fun cf => (by kernel_rfl))
    refine WpOps.keep 33 (Value.string d) (by kernel_rfl) (by kernel_rfl) (by kernel_rfl) ?_ (fun cf => (by kernel_rfl))
    refine WpOps.keep 34 (Value.string (ByteArray.mk #[UInt8.ofNat (Int.toNat (IntKind.wrap IntKind.u8 k)), UInt8.ofNat (Int.toNat (IntKind.wrap IntKind.u8 g)), UInt8.ofNat (Int.toNat (IntKind.wrap IntKind.u8 (IntKind.wrap IntKind.i64 (IntKind.wrap IntKind.i64 (8 * s) + r))))] ++ d)) (by kernel_rfl) (by kernel_rfl) (by kernel_rfl) ?_ (fun cf => o_add h1 (by kernel_rfl) (by kernel_rfl))
    refine WpOps.keep 12 (Value.string (ByteArray.mk #[UInt8.ofNat (Int.toNat (IntKind.wrap IntKind.u8 k)), UInt8.ofNat (Int.toNat (IntKind.wrap IntKind.u8 g)), UInt8.ofNat (Int.toNat (IntKind.wrap IntKind.u8 (IntKind.wrap IntKind.i64 (IntKind.wrap IntKind.i64 (8 * s) + r))))] ++ d)) (by kernel_rfl) (by kernel_rfl) (by kernel_rfl) ?_ (fun cf => (by kernel_rfl))
    refine WpOps.nil ?_
    refine thenK_at ?_
    refine Wp.seq ?_
    refine Wp.text ?_
    refine WpOps.keep 36 (Value.string (ByteArray.mk #[UInt8.ofNat (Int.toNat (IntKind.wrap IntKind.u8 k)), UInt8.ofNat (Int.toNat (IntKind.wrap IntKind.u8 g)), UInt8.ofNat (Int.toNat (IntKind.wrap IntKind.u8 (IntKind.wrap IntKind.i64 (IntKind.wrap IntKind.i64 (8 * s) + r))))] ++ d)) (by kernel_rfl) (by kernel_rfl) (by kernel_rfl) ?_ (fun cf => (by kernel_rfl))
    refine WpOps.framed 37 34 [Value.string (ByteArray.mk #[UInt8.ofNat (Int.toNat (IntKind.wrap IntKind.u8 k)), UInt8.ofNat (Int.toNat (IntKind.wrap IntKind.u8 g)), UInt8.ofNat (Int.toNat (IntKind.wrap IntKind.u8 (IntKind.wrap IntKind.i64 (IntKind.wrap IntKind.i64 (8 * s) + r))))] ++ d)] (by kernel_rfl) (by kernel_rfl) (by kernel_rfl) (by kernel_rfl) (by kernel_rfl) (fun cf => (by kernel_rfl)) ?_
    refine WpFun.of (c) ?_
    refine WpOps.keep 35 (Value.tuple #[Value.string (sumS (ByteArray.mk #[UInt8.ofNat (Int.toNat (IntKind.wrap IntKind.u8 k)), UInt8.ofNat (Int.toNat (IntKind.wrap IntKind.u8 g)), UInt8.ofNat (Int.toNat (IntKind.wrap IntKind.u8 (IntKind.wrap IntKind.i64 (IntKind.wrap IntKind.i64 (8 * s) + r))))] ++ d)), Value.int IntKind.i64 0]) (by kernel_rfl) (by kernel_rfl) (by kernel_rfl) ?_ (fun cf => (by kernel_rfl))
    refine WpOps.keep 38 (Value.string (sumS (ByteArray.mk #[UInt8.ofNat (Int.toNat (IntKind.wrap IntKind.u8 k)), UInt8.ofNat (Int.toNat (IntKind.wrap IntKind.u8 g)), UInt8.ofNat (Int.toNat (IntKind.wrap IntKind.u8 (IntKind.wrap IntKind.i64 (IntKind.wrap IntKind.i64 (8 * s) + r))))] ++ d))) (by kernel_rfl) (by kernel_rfl) (by kernel_rfl) ?_ (fun cf => (by kernel_rfl))
    refine WpOps.keep 39 (Value.int IntKind.i64 0) (by kernel_rfl) (by kernel_rfl) (by kernel_rfl) ?_ (fun cf => (by kernel_rfl))
    refine WpOps.keep 13 (Value.string (sumS (ByteArray.mk #[UInt8.ofNat (Int.toNat (IntKind.wrap IntKind.u8 k)), UInt8.ofNat (Int.toNat (IntKind.wrap IntKind.u8 g)), UInt8.ofNat (Int.toNat (IntKind.wrap IntKind.u8 (IntKind.wrap IntKind.i64 (IntKind.wrap IntKind.i64 (8 * s) + r))))] ++ d))) (by kernel_rfl) (by kernel_rfl) (by kernel_rfl) ?_ (fun cf => (by kernel_rfl))
    refine WpOps.keep 14 (Value.int IntKind.i64 0) (by kernel_rfl) (by kernel_rfl) (by kernel_rfl) ?_ (fun cf => (by kernel_rfl))
    refine WpOps.nil ?_
    refine thenK_at ?_
    refine Wp.seq ?_
    refine Wp.text ?_
    refine WpOps.keep 40 (Value.string (ByteArray.mk #[UInt8.ofNat (Int.toNat (IntKind.wrap IntKind.u8 k)), UInt8.ofNat (Int.toNat (IntKind.wrap IntKind.u8 g)), UInt8.ofNat (Int.toNat (IntKind.wrap IntKind.u8 (IntKind.wrap IntKind.i64 (IntKind.wrap IntKind.i64 (8 * s) + r))))] ++ d)) (by kernel_rfl) (by kernel_rfl) (by kernel_rfl) ?_ (fun cf => (by kernel_rfl))
    refine WpOps.keep 41 (Value.string (sumS (ByteArray.mk #[UInt8.ofNat (Int.toNat (IntKind.wrap IntKind.u8 k)), UInt8.ofNat (Int.toNat (IntKind.wrap IntKind.u8 g)), UInt8.ofNat (Int.toNat (IntKind.wrap IntKind.u8 (IntKind.wrap IntKind.i64 (IntKind.wrap IntKind.i64 (8 * s) + r))))] ++ d))) (by kernel_rfl) (by kernel_rfl) (by kernel_rfl) ?_ (fun cf => (by kernel_rfl))
    refine WpOps.keep 42 (Value.string (ByteArray.mk #[UInt8.ofNat (Int.toNat (IntKind.wrap IntKind.u8 k)), UInt8.ofNat (Int.toNat (IntKind.wrap IntKind.u8 g)), UInt8.ofNat (Int.toNat (IntKind.wrap IntKind.u8 (IntKind.wrap IntKind.i64 (IntKind.wrap IntKind.i64 (8 * s) + r))))] ++ d ++ sumS (ByteArray.mk #[UInt8.ofNat (Int.toNat (IntKind.wrap IntKind.u8 k)), UInt8.ofNat (Int.toNat (IntKind.wrap IntKind.u8 g)), UInt8.ofNat (Int.toNat (IntKind.wrap IntKind.u8 (IntKind.wrap IntKind.i64 (IntKind.wrap IntKind.i64 (8 * s) + r))))] ++ d))) (by kernel_rfl) (by kernel_rfl) (by kernel_rfl) ?_ (fun cf => o_add h2 (by kernel_rfl) (by kernel_rfl))
    refine WpOps.keep 10 (Value.string (ByteArray.mk #[UInt8.ofNat (Int.toNat (IntKind.wrap IntKind.u8 k)), UInt8.ofNat (Int.toNat (IntKind.wrap IntKind.u8 g)), UInt8.ofNat (Int.toNat (IntKind.wrap IntKind.u8 (IntKind.wrap IntKind.i64 (IntKind.wrap IntKind.i64 (8 * s) + r))))] ++ d ++ sumS (ByteArray.mk #[UInt8.ofNat (Int.toNat (IntKind.wrap IntKind.u8 k)), UInt8.ofNat (Int.toNat (IntKind.wrap IntKind.u8 g)), UInt8.ofNat (Int.toNat (IntKind.wrap IntKind.u8 (IntKind.wrap IntKind.i64 (IntKind.wrap IntKind.i64 (8 * s) + r))))] ++ d))) (by kernel_rfl) (by kernel_rfl) (by kernel_rfl) ?_ (fun cf => (by kernel_rfl))
    refine WpOps.keep 11 (Value.int IntKind.i64 0) (by kernel_rfl) (by kernel_rfl) (by kernel_rfl) ?_ (fun cf => (by kernel_rfl))
    refine WpOps.nil ?_
    refine thenK_at ?_
    refine Wp.ret ?_
    refine endK_retn [Value.string (ByteArray.mk #[UInt8.ofNat (Int.toNat (IntKind.wrap IntKind.u8 k)), UInt8.ofNat (Int.toNat (IntKind.wrap IntKind.u8 g)), UInt8.ofNat (Int.toNat (IntKind.wrap IntKind.u8 (IntKind.wrap IntKind.i64 (IntKind.wrap IntKind.i64 (8 * s) + r))))] ++ d ++ sumS (ByteArray.mk #[UInt8.ofNat (Int.toNat (IntKind.wrap IntKind.u8 k)), UInt8.ofNat (Int.toNat (IntKind.wrap IntKind.u8 g)), UInt8.ofNat (Int.toNat (IntKind.wrap IntKind.u8 (IntKind.wrap IntKind.i64 (IntKind.wrap IntKind.i64 (8 * s) + r))))] ++ d)), Value.int IntKind.i64 0] (Value.tuple #[Value.string (ByteArray.mk #[UInt8.ofNat (Int.toNat (IntKind.wrap IntKind.u8 k)), UInt8.ofNat (Int.toNat (IntKind.wrap IntKind.u8 g)), UInt8.ofNat (Int.toNat (IntKind.wrap IntKind.u8 (IntKind.wrap IntKind.i64 (IntKind.wrap IntKind.i64 (8 * s) + r))))] ++ d ++ sumS (ByteArray.mk #[UInt8.ofNat (Int.toNat (IntKind.wrap IntKind.u8 k)), UInt8.ofNat (Int.toNat (IntKind.wrap IntKind.u8 g)), UInt8.ofNat (Int.toNat (IntKind.wrap IntKind.u8 (IntKind.wrap IntKind.i64 (IntKind.wrap IntKind.i64 (8 * s) + r))))] ++ d)), Value.int IntKind.i64 0]) (by kernel_rfl) (by kernel_rfl) ?_
    rw [frame, if_pos h]
    kernel_rfl
  · rw [decide_eq_false h] at c0
    refine Wp.seq ?_
    refine Wp.text ?_
    refine WpOps.keep 10 (Value.string (ByteArray.mk #[])) (by kernel_rfl) (by kernel_rfl) (by kernel_rfl) ?_ (fun cf => (by kernel_rfl))
    refine WpOps.keep 11 (Value.int IntKind.i64 0) (by kernel_rfl) (by kernel_rfl) (by kernel_rfl) ?_ (fun cf => (by kernel_rfl))
    refine WpOps.nil ?_
    refine thenK_at ?_
    refine Wp.seq ?_
    refine Wp.seq ?_
    refine Wp.text ?_
    refine WpOps.keep 15 (Value.int IntKind.i64 k) (by kernel_rfl) (by kernel_rfl) (by kernel_rfl) ?_ (fun cf => (by kernel_rfl))
    refine WpOps.keep 16 (Value.int IntKind.i64 g) (by kernel_rfl) (by kernel_rfl) (by kernel_rfl) ?_ (fun cf => (by kernel_rfl))
    refine WpOps.keep 17 (Value.int IntKind.i64 s) (by kernel_rfl) (by kernel_rfl) (by kernel_rfl) ?_ (fun cf => (by kernel_rfl))
    refine WpOps.keep 18 (Value.int IntKind.i64 r) (by kernel_rfl) (by kernel_rfl) (by kernel_rfl) ?_ (fun cf => (by kernel_rfl))
    refine WpOps.keep 19 (Value.string d) (by kernel_rfl) (by kernel_rfl) (by kernel_rfl) ?_ (fun cf => (by kernel_rfl))
    refine WpOps.framed 20 33 [Value.int IntKind.i64 k, Value.int IntKind.i64 g, Value.int IntKind.i64 s, Value.int IntKind.i64 r, Value.string d] (by kernel_rfl) (by kernel_rfl) (by kernel_rfl) (by kernel_rfl) (by kernel_rfl) (fun cf => (by kernel_rfl)) ?_
    refine WpFun.of (c0) ?_
    refine WpOps.keep 21 (Value.bool true) (by kernel_rfl) (by kernel_rfl) (by kernel_rfl) ?_ (fun cf => (by kernel_rfl))
    refine WpOps.nil ?_
    refine thenK_at ?_
    refine Wp.on (by kernel_rfl) ?_
    refine Wp.seq ?_
    refine Wp.text ?_
    refine WpOps.keep 10 (Value.string (ByteArray.mk #[])) (by kernel_rfl) (by kernel_rfl) (by kernel_rfl) ?_ (fun cf => (by kernel_rfl))
    refine WpOps.keep 11 (Value.int IntKind.i64 1) (by kernel_rfl) (by kernel_rfl) (by kernel_rfl) ?_ (fun cf => (by kernel_rfl))
    refine WpOps.nil ?_
    refine thenK_at ?_
    refine Wp.ret ?_
    refine thenK_ret ?_
    refine endK_retn [Value.string (ByteArray.mk #[]), Value.int IntKind.i64 1] (Value.tuple #[Value.string (ByteArray.mk #[]), Value.int IntKind.i64 1]) (by kernel_rfl) (by kernel_rfl) ?_
    rw [frame, if_neg h]
    kernel_rfl
end Go.Proofs.Ytgefohjickhldaa.D
