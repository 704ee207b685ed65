/- Reading a datagram: datagram.Read. -/
import Derived.Test.YtpkkcpglbjbgfaaFwLem
import Derived.Test.YtpkkcpglbjbgfaaF14m
namespace Go.Proofs.Ytpkkcpglbjbgfaa.D
open Go.Fw Go.RowKit

def zeroG : Gr := ⟨2, [], 2, [], 0, 0, 0, 0, 0, false, false, false, ByteArray.mk #[]⟩
theorem f24 : E.funcs 24 = some Try.f24 := by kernel_rfl
theorem zero_pair (x : Int) (hp : Heap) : ∃ u0, iceV E hp (.tuple #[.agg #[.slice none 0 0, .slice none 0 0, .int .i64 0, .int .i64 0, .int .i64 0, .int .i64 0, .int .i64 0, .bool false, .bool false, .bool false, .string (ByteArray.mk #[])], .int .i64 x]) = some u0 ∧ NilV E u0 (.tuple #[gv zeroG, .int .i64 x]) := by
  obtain ⟨ti, ht⟩ := E3
  have nil : NilC E (.slice none 0 0) (sl 2 []) := .inr ⟨rfl, 3, ti, ht, rfl⟩
  exact ⟨_, rfl, .tuple (.cons (.agg (.cons nil (.cons nil (.cons (.inl rfl) (.cons (.inl rfl) (.cons (.inl rfl) (.cons (.inl rfl) (.cons (.inl rfl) (.cons (.inl rfl) (.cons (.inl rfl) (.cons (.inl rfl) (.cons (.inl rfl) .nil)))))))))))) (.cons (.c (.inl rfl)) .nil))⟩
theorem read24_short (b : ByteArray) (h : b.size < 23) : Fun E 24 [.string b] (.tuple #[gv zeroG, .int .i64 10]) := by
  refine Fun.ofN f24 rfl (of_decide_eq_true (by kernel_rfl)) rfl ?_
  have hc : decide ((b.size : Int) < 23) = true := decide_eq_true (by omega)
  refine Wp.seq ?_
  refine Wp.text ?_
  refine WpOps.made 2 (Value.pointer (some (Addr.mk 0 0 none))) (Blk.mk 24 true [Value.slice none 0 0, Value.slice none 0 0, Value.int IntKind.i64 0, Value.int IntKind.i64 0, Value.int IntKind.i64 0, Value.int IntKind.i64 0, Value.int IntKind.i64 0, Value.bool false, Value.bool false, Value.bool false, Value.string (ByteArray.mk #[])]) (by kernel_rfl) (by kernel_rfl) (by kernel_rfl) ?_ (fun cf => (by kernel_rfl))
  refine WpOps.keep 3 (Value.int IntKind.i64 0) (by kernel_rfl) (by kernel_rfl) (by kernel_rfl) ?_ (fun cf => (by kernel_rfl))
  refine WpOps.nil ?_
  refine thenK_at ?_
  refine Wp.seq ?_
  refine Wp.seq ?_
  refine Wp.text ?_
  refine WpOps.keep 8 (Value.string b) (by kernel_rfl) (by kernel_rfl) (by kernel_rfl) ?_ (fun cf => (by kernel_rfl))
  refine WpOps.keep 9 (Value.int IntKind.i64 (↑(ByteArray.size b) : Int)) (by kernel_rfl) (by kernel_rfl) (by kernel_rfl) ?_ (fun cf => (by kernel_rfl))
  refine WpOps.keep 10 (Value.bool true) (by kernel_rfl) (by kernel_rfl) (by kernel_rfl) ?_ (fun cf => by_fact hc ((by kernel_rfl)))
  refine WpOps.nil ?_
  refine thenK_at ?_
  refine Wp.on (by kernel_rfl) ?_
  refine Wp.seq ?_
  refine Wp.text ?_
  refine WpOps.keep 11 (Value.agg #[Value.slice none 0 0, Value.slice none 0 0, Value.int IntKind.i64 0, Value.int IntKind.i64 0, Value.int IntKind.i64 0, Value.int IntKind.i64 0, Value.int IntKind.i64 0, Value.bool false, Value.bool false, Value.bool false, Value.string (ByteArray.mk #[])]) (by kernel_rfl) (by kernel_rfl) (by kernel_rfl) ?_ (fun cf => (by kernel_rfl))
  refine WpOps.laid (Value.tuple #[]) (0) (Blk.mk 24 true [Value.slice none 0 0, Value.slice none 0 0, Value.int IntKind.i64 0, Value.int IntKind.i64 0, Value.int IntKind.i64 0, Value.int IntKind.i64 0, Value.int IntKind.i64 0, Value.bool false, Value.bool false, Value.bool false, Value.string (ByteArray.mk #[])]) (by kernel_rfl) (by kernel_rfl) (by kernel_rfl) ?_ (fun cf => (by kernel_rfl))
  refine WpOps.keep 3 (Value.int IntKind.i64 10) (by kernel_rfl) (by kernel_rfl) (by kernel_rfl) ?_ (fun cf => (by kernel_rfl))
  refine WpOps.nil ?_
  refine thenK_at ?_
  refine Wp.ret ?_
  refine thenK_ret ?_
  refine endK_retn [Value.agg #[Value.slice none 0 0, Value.slice none 0 0, Value.int IntKind.i64 0, Value.int IntKind.i64 0, Value.int IntKind.i64 0, Value.int IntKind.i64 0, Value.int IntKind.i64 0, Value.bool false, Value.bool false, Value.bool false, Value.string (ByteArray.mk #[])], Value.int IntKind.i64 10] (Value.tuple #[Value.agg #[Value.slice none 0 0, Value.slice none 0 0, Value.int IntKind.i64 0, Value.int IntKind.i64 0, Value.int IntKind.i64 0, Value.int IntKind.i64 0, Value.int IntKind.i64 0, Value.bool false, Value.bool false, Value.bool false, Value.string (ByteArray.mk #[])], Value.int IntKind.i64 10]) (by kernel_rfl) (by kernel_rfl) ?_
  exact zero_pair _ _
/-- Is the sum right? -/
def sumOk (b : ByteArray) : Bool := (sumS (b.extract 0 (b.size - 2))).toList == (b.extract (b.size - 2) b.size).toList
section
variable {b : ByteArray} (h : 23 ≤ b.size) (hb : b.size ≤ 140737488351232)
include h hb
theorem end_eq : IntKind.i64.wrap ((b.size : Int) - 2) = ((b.size - 2 : Nat) : Int) := by rw [wr _ (by omega) (by omega)]; omega
theorem end_in : 0 ≤ IntKind.i64.wrap ((b.size : Int) - 2) ∧ IntKind.i64.wrap ((b.size : Int) - 2) ≤ b.size := by rw [end_eq h hb]; omega
theorem end_sum : Fun E 51 [.string (b.extract 0 (IntKind.i64.wrap ((b.size : Int) - 2)).toNat)] (.string (sumS (b.extract 0 (b.size - 2)))) := by
  rw [end_eq h hb]
  exact sum51 _ (by rw [ByteArray.size_extract]; omega)
theorem end_ne (x : Bool) (hs : sumOk b = x) : (!((sumS (b.extract 0 (b.size - 2))).toList == (b.extract (IntKind.i64.wrap ((b.size : Int) - 2)).toNat b.size).toList)) = !x := by
  rw [end_eq h hb, ← hs]
  rfl
end
theorem read24_sum (b : ByteArray) (h : 23 ≤ b.size) (hb : b.size ≤ 140737488351232) (hs : sumOk b = false) : Fun E 24 [.string b] (.tuple #[gv zeroG, .int .i64 11]) := by
  refine Fun.ofN f24 rfl (of_decide_eq_true (by kernel_rfl)) rfl ?_
  have hc : decide ((b.size : Int) < 23) = false := decide_eq_false (by omega)
  have e1 := end_in h hb
  have c := end_sum h hb
  have e2 := end_ne h hb false hs
  rw [Bool.not_false] at e2
  refine Wp.seq ?_
  refine Wp.text ?_
  refine WpOps.made 2 (Value.pointer (some (Addr.mk 0 0 none))) (Blk.mk 24 true [Value.slice none 0 0, Value.slice none 0 0, Value.int IntKind.i64 0, Value.int IntKind.i64 0, Value.int IntKind.i64 0, Value.int IntKind.i64 0, Value.int IntKind.i64 0, Value.bool false, Value.bool false, Value.bool false, Value.string (ByteArray.mk #[])]) (by kernel_rfl) (by kernel_rfl) (by kernel_rfl) ?_ (fun cf => (by kernel_rfl))
  refine WpOps.keep 3 (Value.int IntKind.i64 0) (by kernel_rfl) (by kernel_rfl) (by kernel_rfl) ?_ (fun cf => (by kernel_rfl))
  refine WpOps.nil ?_
  refine thenK_at ?_
  refine Wp.seq ?_
  refine Wp.seq ?_
  refine Wp.text ?_
  refine WpOps.keep 8 (Value.string b) (by kernel_rfl) (by kernel_rfl) (by kernel_rfl) ?_ (fun cf => (by kernel_rfl))
  refine WpOps.keep 9 (Value.int IntKind.i64 (↑(ByteArray.size b) : Int)) (by kernel_rfl) (by kernel_rfl) (by kernel_rfl) ?_ (fun cf => (by kernel_rfl))
  refine WpOps.keep 10 (Value.bool false) (by kernel_rfl) (by kernel_rfl) (by kernel_rfl) ?_ (fun cf => by_fact hc ((by kernel_rfl)))
  refine WpOps.nil ?_
  refine thenK_at ?_
  refine Wp.off (by kernel_rfl) ?_
  refine Wp.skip ?_
  refine thenK_at ?_
  refine Wp.seq ?_
  refine Wp.text ?_
  refine WpOps.keep 12 (Value.string b) (by kernel_rfl) (by kernel_rfl) (by kernel_rfl) ?_ (fun cf => (by kernel_rfl))
  refine WpOps.keep 13 (Value.int IntKind.i64 (↑(ByteArray.size b) : Int)) (by kernel_rfl) (by kernel_rfl) (by kernel_rfl) ?_ (fun cf => (by kernel_rfl))
  refine WpOps.keep 14 (Value.int IntKind.i64 (IntKind.wrap IntKind.i64 ((↑(ByteArray.size b) : Int) - 2))) (by kernel_rfl) (by kernel_rfl) (by kernel_rfl) ?_ (fun cf => (by kernel_rfl))
  refine WpOps.keep 4 (Value.int IntKind.i64 (IntKind.wrap IntKind.i64 ((↑(ByteArray.size b) : Int) - 2))) (by kernel_rfl) (by kernel_rfl) (by kernel_rfl) ?_ (fun cf => (by kernel_rfl))
  refine WpOps.nil ?_
  refine thenK_at ?_
  refine Wp.seq ?_
  refine Wp.seq ?_
  refine Wp.region (by kernel_rfl) ?_
  refine WpOps.keep 15 (Value.string b) (by kernel_rfl) (by kernel_rfl) (by kernel_rfl) ?_ (fun cf => (by kernel_rfl))
  refine WpOps.keep 16 (Value.int IntKind.i64 (IntKind.wrap IntKind.i64 ((↑(ByteArray.size b) : Int) - 2))) (by kernel_rfl) (by kernel_rfl) (by kernel_rfl) ?_ (fun cf => (by kernel_rfl))
  refine WpOps.keep 17 (Value.string (ByteArray.extract b 0 (Int.toNat (IntKind.wrap IntKind.i64 ((↑(ByteArray.size b) : Int) - 2))))) (by kernel_rfl) (by kernel_rfl) (by kernel_rfl) ?_ (fun cf => o_cut_hi e1 (by kernel_rfl) (by kernel_rfl) (by kernel_rfl))
  refine WpOps.framed 18 51 [Value.string (ByteArray.extract b 0 (Int.toNat (IntKind.wrap IntKind.i64 ((↑(ByteArray.size b) : Int) - 2))))] (by kernel_rfl) (by kernel_rfl) (by kernel_rfl) (by kernel_rfl) (by kernel_rfl) (fun cf => (by kernel_rfl)) ?_
  refine WpFun.of (c) ?_
  refine WpOps.keep 19 (Value.string b) (by kernel_rfl) (by kernel_rfl) (by kernel_rfl) ?_ (fun cf => (by kernel_rfl))
  refine WpOps.keep 20 (Value.int IntKind.i64 (IntKind.wrap IntKind.i64 ((↑(ByteArray.size b) : Int) - 2))) (by kernel_rfl) (by kernel_rfl) (by kernel_rfl) ?_ (fun cf => (by kernel_rfl))
  refine WpOps.keep 21 (Value.string (ByteArray.extract b (Int.toNat (IntKind.wrap IntKind.i64 ((↑(ByteArray.size b) : Int) - 2))) (ByteArray.size b))) (by kernel_rfl) (by kernel_rfl) (by kernel_rfl) ?_ (fun cf => o_cut_lo e1 (by kernel_rfl) (by kernel_rfl) (by kernel_rfl))
  refine WpOps.keep 22 (Value.bool true) (by kernel_rfl) (by kernel_rfl) (by kernel_rfl) ?_ (fun cf => by_fact e2 ((by kernel_rfl)))
  refine WpOps.nil ?_
  refine thenK_at ?_
  refine Wp.on (by kernel_rfl) ?_
  refine Wp.seq ?_
  refine Wp.text ?_
  refine WpOps.keep 23 (Value.agg #[Value.slice none 0 0, Value.slice none 0 0, Value.int IntKind.i64 0, Value.int IntKind.i64 0, Value.int IntKind.i64 0, Value.int IntKind.i64 0, Value.int IntKind.i64 0, Value.bool false, Value.bool false, Value.bool false, Value.string (ByteArray.mk #[])]) (by kernel_rfl) (by kernel_rfl) (by kernel_rfl) ?_ (fun cf => (by kernel_rfl))
  refine WpOps.laid (Value.tuple #[]) (0) (Blk.mk 24 true [Value.slice none 0 0, Value.slice none 0 0, Value.int IntKind.i64 0, Value.int IntKind.i64 0, Value.int IntKind.i64 0, Value.int IntKind.i64 0, Value.int IntKind.i64 0, Value.bool false, Value.bool false, Value.bool false, Value.string (ByteArray.mk #[])]) (by kernel_rfl) (by kernel_rfl) (by kernel_rfl) ?_ (fun cf => (by kernel_rfl))
  refine WpOps.keep 3 (Value.int IntKind.i64 11) (by kernel_rfl) (by kernel_rfl) (by kernel_rfl) ?_ (fun cf => (by kernel_rfl))
  refine WpOps.nil ?_
  refine thenK_at ?_
  refine Wp.ret ?_
  refine thenK_ret ?_
  refine endK_retn [Value.agg #[Value.slice none 0 0, Value.slice none 0 0, Value.int IntKind.i64 0, Value.int IntKind.i64 0, Value.int IntKind.i64 0, Value.int IntKind.i64 0, Value.int IntKind.i64 0, Value.bool false, Value.bool false, Value.bool false, Value.string (ByteArray.mk #[])], Value.int IntKind.i64 11] (Value.tuple #[Value.agg #[Value.slice none 0 0, Value.slice none 0 0, Value.int IntKind.i64 0, Value.int IntKind.i64 0, Value.int IntKind.i64 0, Value.int IntKind.i64 0, Value.int IntKind.i64 0, Value.bool false, Value.bool false, Value.bool false, Value.string (ByteArray.mk #[])], Value.int IntKind.i64 11]) (by kernel_rfl) (by kernel_rfl) ?_
  exact zero_pair _ _
/-- A flag. -/
def flag (f k : Int) : Bool := (IntKind.i64.wrap ((BitVec.ofInt 64 f &&& BitVec.ofInt 64 k).toNat : Int)) != 0
/-- What is read. -/
def gR (b : ByteArray) (x1 x2 : Nat) (l1 l2 : List Int) (s2 : ByteArray) : Gr := ⟨x1, l1, x2, l2, num b 1, num b 3, num b 5, num b 7, num b 9, flag (num b 11) 1, flag (num b 11) 2, flag (num b 11) 4, s2⟩
def acc (b : ByteArray) (b2 : Bool) (g : Gr) : Bool := (byteAt b 0).toNat == 71 && !b2 && decide (num b 11 ≤ 7) && okG g
theorem acc_eq (b : ByteArray) (b2 : Bool) (g : Gr) : (bif (bif (bif ((byteAt b 0).toNat : Int) != 71 then true else b2) then true else decide (num b 11 > 7)) then true else !okG g) = !acc b b2 g := by
  have e1 : (((byteAt b 0).toNat : Int) != 71) = !((byteAt b 0).toNat == 71) := by
    rw [Bool.eq_iff_iff]
    simp only [bne_iff_ne, ne_eq, Bool.not_eq_true', beq_eq_false_iff_ne]
    omega
  have e2 : decide (num b 11 > 7) = !decide (num b 11 ≤ 7) := by
    rw [← decide_not]
    exact decide_eq_decide.2 (by omega)
  rw [e1, e2]
  unfold acc
  cases (byteAt b 0).toNat == 71 <;> cases b2 <;> cases decide (num b 11 ≤ 7) <;> cases okG g <;> rfl
/-- What Read comes to. -/
def resV : Option Gr → Value
  | some g => .tuple #[gv g, .int .i64 0]
  | none => .tuple #[gv zeroG, .int .i64 4]
set_option maxHeartbeats 4000000 in
theorem read24_walk (b : ByteArray) (h : 23 ≤ b.size) (hb : b.size ≤ 140737488351232) (hs : sumOk b = true) (x1 x2 : Nat) (l1 l2 : List Int) (s1 s2 : ByteArray) (b1 b2 : Bool) (hl1 : l1.length ≤ 70000) (hl2 : l2.length ≤ 70000)
    (c1 : Lent E 57 [.pointer (some ⟨0, 0, none⟩)] [rd (b.extract 13 (b.size - 2)) false] (sl x1 l1) [rd s1 b1]) (c2 : Lent E 57 [.pointer (some ⟨0, 0, none⟩)] [rd s1 b1] (sl x2 l2) [rd s2 b2]) : Fun E 24 [.string b] (resV (if acc b b2 (gR b x1 x2 l1 l2 s2) = true then some (gR b x1 x2 l1 l2 s2) else none)) := by
  refine Fun.ofN f24 rfl (of_decide_eq_true (by kernel_rfl)) (by split <;> rfl) ?_
  have hc : decide ((b.size : Int) < 23) = false := decide_eq_false (by omega)
  have e1 := end_in h hb
  have c := end_sum h hb
  have e2 := end_ne h hb true hs
  rw [Bool.not_true] at e2
  have k0 : 0 ≤ (1 : Int) ∧ (1 : Int) ≤ IntKind.i64.wrap ((b.size : Int) - 2) ∧ IntKind.i64.wrap ((b.size : Int) - 2) ≤ b.size := by rw [end_eq h hb]; omega
  have n0 : Lent E 56 [.pointer (some ⟨0, 0, none⟩)] [rd (b.extract 1 (IntKind.i64.wrap ((b.size : Int) - 2)).toNat) false] (.int .i64 (num b 1)) [rd (b.extract 3 (b.size - 2)) false] := by
    rw [end_eq h hb]
    exact numB b 1 _ false (by omega) (by omega)
  have n1 := numB b 3 (b.size - 2) false (by omega) (by omega)
  have n2 := numB b 5 (b.size - 2) false (by omega) (by omega)
  have n3 := numB b 7 (b.size - 2) false (by omega) (by omega)
  have n4 := numB b 9 (b.size - 2) false (by omega) (by omega)
  have n5 := numB b 11 (b.size - 2) false (by omega) (by omega)
  have k1 : 0 ≤ (1 : Int) ∧ (1 : Int) ≤ ((IntKind.i64.wrap ((b.size : Int) - 2)).toNat : Int) := by rw [end_eq h hb]; omega
  have g0 := byte_get b 0 (by omega)
  have v := valid20 (gR b x1 x2 l1 l2 s2) (by show l1.length ≤ _; omega) (by show l2.length ≤ _; omega)
  refine Wp.seq ?_
  refine Wp.text ?_
  refine WpOps.made 2 (Value.pointer (some (Addr.mk 0 0 none))) (Blk.mk 24 true [Value.slice none 0 0, Value.slice none 0 0, Value.int IntKind.i64 0, Value.int IntKind.i64 0, Value.int IntKind.i64 0, Value.int IntKind.i64 0, Value.int IntKind.i64 0, Value.bool false, Value.bool false, Value.bool false, Value.string (ByteArray.mk #[])]) (by kernel_rfl) (by kernel_rfl) (by kernel_rfl) ?_ (fun cf => (by kernel_rfl))
  refine WpOps.keep 3 (Value.int IntKind.i64 0) (by kernel_rfl) (by kernel_rfl) (by kernel_rfl) ?_ (fun cf => (by kernel_rfl))
  refine WpOps.nil ?_
  refine thenK_at ?_
  refine Wp.seq ?_
  refine Wp.seq ?_
  refine Wp.text ?_
  refine WpOps.keep 8 (Value.string b) (by kernel_rfl) (by kernel_rfl) (by kernel_rfl) ?_ (fun cf => (by kernel_rfl))
  refine WpOps.keep 9 (Value.int IntKind.i64 (↑(ByteArray.size b) : Int)) (by kernel_rfl) (by kernel_rfl) (by kernel_rfl) ?_ (fun cf => (by kernel_rfl))
  refine WpOps.keep 10 (Value.bool false) (by kernel_rfl) (by kernel_rfl) (by kernel_rfl) ?_ (fun cf => by_fact hc ((by kernel_rfl)))
  refine WpOps.nil ?_
  refine thenK_at ?_
  refine Wp.off (by kernel_rfl) ?_
  refine Wp.skip ?_
  refine thenK_at ?_
  refine Wp.seq ?_
  refine Wp.text ?_
  refine WpOps.keep 12 (Value.string b) (by kernel_rfl) (by kernel_rfl) (by kernel_rfl) ?_ (fun cf => (by kernel_rfl))
  refine WpOps.keep 13 (Value.int IntKind.i64 (↑(ByteArray.size b) : Int)) (by kernel_rfl) (by kernel_rfl) (by kernel_rfl) ?_ (fun cf => (by kernel_rfl))
  refine WpOps.keep 14 (Value.int IntKind.i64 (IntKind.wrap IntKind.i64 ((↑(ByteArray.size b) : Int) - 2))) (by kernel_rfl) (by kernel_rfl) (by kernel_rfl) ?_ (fun cf => (by kernel_rfl))
  refine WpOps.keep 4 (Value.int IntKind.i64 (IntKind.wrap IntKind.i64 ((↑(ByteArray.size b) : Int) - 2))) (by kernel_rfl) (by kernel_rfl) (by kernel_rfl) ?_ (fun cf => (by kernel_rfl))
  refine WpOps.nil ?_
  refine thenK_at ?_
  refine Wp.seq ?_
  refine Wp.seq ?_
  refine Wp.region (by kernel_rfl) ?_
  refine WpOps.keep 15 (Value.string b) (by kernel_rfl) (by kernel_rfl) (by kernel_rfl) ?_ (fun cf => (by kernel_rfl))
  refine WpOps.keep 16 (Value.int IntKind.i64 (IntKind.wrap IntKind.i64 ((↑(ByteArray.size b) : Int) - 2))) (by kernel_rfl) (by kernel_rfl) (by kernel_rfl) ?_ (fun cf => (by kernel_rfl))
  refine WpOps.keep 17 (Value.string (ByteArray.extract b 0 (Int.toNat (IntKind.wrap IntKind.i64 ((↑(ByteArray.size b) : Int) - 2))))) (by kernel_rfl) (by kernel_rfl) (by kernel_rfl) ?_ (fun cf => o_cut_hi e1 (by kernel_rfl) (by kernel_rfl) (by kernel_rfl))
  refine WpOps.framed 18 51 [Value.string (ByteArray.extract b 0 (Int.toNat (IntKind.wrap IntKind.i64 ((↑(ByteArray.size b) : Int) - 2))))] (by kernel_rfl) (by kernel_rfl) (by kernel_rfl) (by kernel_rfl) (by kernel_rfl) (fun cf => (by kernel_rfl)) ?_
  refine WpFun.of (c) ?_
  refine WpOps.keep 19 (Value.string b) (by kernel_rfl) (by kernel_rfl) (by kernel_rfl) ?_ (fun cf => (by kernel_rfl))
  refine WpOps.keep 20 (Value.int IntKind.i64 (IntKind.wrap IntKind.i64 ((↑(ByteArray.size b) : Int) - 2))) (by kernel_rfl) (by kernel_rfl) (by kernel_rfl) ?_ (fun cf => (by kernel_rfl))
  refine WpOps.keep 21 (Value.string (ByteArray.extract b (Int.toNat (IntKind.wrap IntKind.i64 ((↑(ByteArray.size b) : Int) - 2))) (ByteArray.size b))) (by kernel_rfl) (by kernel_rfl) (by kernel_rfl) ?_ (fun cf => o_cut_lo e1 (by kernel_rfl) (by kernel_rfl) (by kernel_rfl))
  refine WpOps.keep 22 (Value.bool false) (by kernel_rfl) (by kernel_rfl) (by kernel_rfl) ?_ (fun cf => by_fact e2 ((by kernel_rfl)))
  refine WpOps.nil ?_
  refine thenK_at ?_
  refine Wp.off (by kernel_rfl) ?_
  refine Wp.skip ?_
  refine thenK_at ?_
  refine Wp.seq ?_
  refine Wp.text ?_
  refine WpOps.keep 24 (Value.string b) (by kernel_rfl) (by kernel_rfl) (by kernel_rfl) ?_ (fun cf => (by kernel_rfl))
  refine WpOps.keep 25 (Value.int IntKind.i64 (IntKind.wrap IntKind.i64 ((↑(ByteArray.size b) : Int) - 2))) (by kernel_rfl) (by kernel_rfl) (by kernel_rfl) ?_ (fun cf => (by kernel_rfl))
  refine WpOps.keep 26 (Value.string (ByteArray.extract b 1 (Int.toNat (IntKind.wrap IntKind.i64 ((↑(ByteArray.size b) : Int) - 2))))) (by kernel_rfl) (by kernel_rfl) (by kernel_rfl) ?_ (fun cf => o_cutLH e1 k1 (by kernel_rfl) (by kernel_rfl) (by kernel_rfl) (by kernel_rfl))
  refine WpOps.keep 27 (Value.agg #[Value.string (ByteArray.extract b 1 (Int.toNat (IntKind.wrap IntKind.i64 ((↑(ByteArray.size b) : Int) - 2)))), Value.bool false]) (by kernel_rfl) (by kernel_rfl) (by kernel_rfl) ?_ (fun cf => (by kernel_rfl))
  refine WpOps.made 28 (Value.pointer (some (Addr.mk 1 0 none))) (Blk.mk 113 true [Value.string (ByteArray.extract b 1 (Int.toNat (IntKind.wrap IntKind.i64 ((↑(ByteArray.size b) : Int) - 2)))), Value.bool false]) (by kernel_rfl) (by kernel_rfl) (by kernel_rfl) ?_ (fun cf => (by kernel_rfl))
  refine WpOps.keep 5 (Value.pointer (some (Addr.mk 1 0 none))) (by kernel_rfl) (by kernel_rfl) (by kernel_rfl) ?_ (fun cf => (by kernel_rfl))
  refine WpOps.nil ?_
  refine thenK_at ?_
  refine Wp.seq ?_
  refine Wp.text ?_
  refine WpOps.keep 29 (Value.pointer (some (Addr.mk 1 0 none))) (by kernel_rfl) (by kernel_rfl) (by kernel_rfl) ?_ (fun cf => (by kernel_rfl))
  refine WpOps.called 30 56 [Value.pointer (some (Addr.mk 1 0 none))] (by kernel_rfl) (by kernel_rfl) (by kernel_rfl) (by kernel_rfl) (fun cf => (by kernel_rfl)) ?_
  refine WpCall.lent [1] (n0) (by decide) ⟨⟨[Value.string (ByteArray.extract b 1 (Int.toNat (IntKind.wrap IntKind.i64 ((↑(ByteArray.size b) : Int) - 2)))), Value.bool false], (by kernel_rfl), (by kernel_rfl), (by kernel_rfl)⟩, trivial⟩ (by kernel_rfl) (Value.int IntKind.i64 (num b 1)) ([Blk.mk 113 true [Value.string (ByteArray.extract b 3 (ByteArray.size b - 2)), Value.bool false]]) (.cons (by kernel_rfl) .nil) (by kernel_rfl) (Heap.set (Heap.alloc (Heap.alloc Heap.none (Blk.mk 24 true [Value.slice none 0 0, Value.slice none 0 0, Value.int IntKind.i64 0, Value.int IntKind.i64 0, Value.int IntKind.i64 0, Value.int IntKind.i64 0, Value.int IntKind.i64 0, Value.bool false, Value.bool false, Value.bool false, Value.string (ByteArray.mk #[])])) (Blk.mk 113 true [Value.string (ByteArray.extract b 1 (Int.toNat (IntKind.wrap IntKind.i64 ((↑(ByteArray.size b) : Int) - 2)))), Value.bool false])) 1 (some (Blk.mk 113 true [Value.string (ByteArray.extract b 3 (ByteArray.size b - 2)), Value.bool false]))) (by kernel_rfl) ?_
  refine WpOps.keep 31 (Value.pointer (some (Addr.mk 1 0 none))) (by kernel_rfl) (by kernel_rfl) (by kernel_rfl) ?_ (fun cf => (by kernel_rfl))
  refine WpOps.called 32 56 [Value.pointer (some (Addr.mk 1 0 none))] (by kernel_rfl) (by kernel_rfl) (by kernel_rfl) (by kernel_rfl) (fun cf => (by kernel_rfl)) ?_
  refine WpCall.lent [1] (n1) (by decide) ⟨⟨[Value.string (ByteArray.extract b 3 (ByteArray.size b - 2)), Value.bool false], (by kernel_rfl), (by kernel_rfl), (by kernel_rfl)⟩, trivial⟩ (by kernel_rfl) (Value.int IntKind.i64 (num b 3)) ([Blk.mk 113 true [Value.string (ByteArray.extract b (3 + 2) (ByteArray.size b - 2)), Value.bool false]]) (.cons (by kernel_rfl) .nil) (by kernel_rfl) (Heap.set (Heap.set (Heap.alloc (Heap.alloc Heap.none (Blk.mk 24 true [Value.slice none 0 0, Value.slice none 0 0, Value.int IntKind.i64 0, Value.int IntKind.i64 0, Value.int IntKind.i64 0, Value.int IntKind.i64 0, Value.int IntKind.i64 0, Value.bool false, Value.bool false, Value.bool false, Value.string (ByteArray.mk #[])])) (Blk.mk 113 true [Value.string (ByteArray.extract b 1 (Int.toNat (IntKind.wrap IntKind.i64 ((↑(ByteArray.size b) : Int) - 2)))), Value.bool false])) 1 (some (Blk.mk 113 true [Value.string (ByteArray.extract b 3 (ByteArray.size b - 2)), Value.bool false]))) 1 (some (Blk.mk 113 true [Value.string (ByteArray.extract b 5 (ByteArray.size b - 2)), Value.bool false]))) (by kernel_rfl) ?_
  refine WpOps.keep 33 (Value.pointer (some (Addr.mk 1 0 none))) (by kernel_rfl) (by kernel_rfl) (by kernel_rfl) ?_ (fun cf => (by kernel_rfl))
  refine WpOps.called 34 56 [Value.pointer (some (Addr.mk 1 0 none))] (by kernel_rfl) (by kernel_rfl) (by kernel_rfl) (by kernel_rfl) (fun cf => (by kernel_rfl)) ?_
  refine WpCall.lent [1] (n2) (by decide) ⟨⟨[Value.string (ByteArray.extract b 5 (ByteArray.size b - 2)), Value.bool false], (by kernel_rfl), (by kernel_rfl), (by kernel_rfl)⟩, trivial⟩ (by kernel_rfl) (Value.int IntKind.i64 (num b 5)) ([Blk.mk 113 true [Value.string (ByteArray.extract b (5 + 2) (ByteArray.size b - 2)), Value.bool false]]) (.cons (by kernel_rfl) .nil) (by kernel_rfl) (Heap.set (Heap.set (Heap.set (Heap.alloc (Heap.alloc Heap.none (Blk.mk 24 true [Value.slice none 0 0, Value.slice none 0 0, Value.int IntKind.i64 0, Value.int IntKind.i64 0, Value.int IntKind.i64 0, Value.int IntKind.i64 0, Value.int IntKind.i64 0, Value.bool false, Value.bool false, Value.bool false, Value.string (ByteArray.mk #[])])) (Blk.mk 113 true [Value.string (ByteArray.extract b 1 (Int.toNat (IntKind.wrap IntKind.i64 ((↑(ByteArray.size b) : Int) - 2)))), Value.bool false])) 1 (some (Blk.mk 113 true [Value.string (ByteArray.extract b 3 (ByteArray.size b - 2)), Value.bool false]))) 1 (some (Blk.mk 113 true [Value.string (ByteArray.extract b 5 (ByteArray.size b - 2)), Value.bool false]))) 1 (some (Blk.mk 113 true [Value.string (ByteArray.extract b 7 (ByteArray.size b - 2)), Value.bool false]))) (by kernel_rfl) ?_
  refine WpOps.keep 35 (Value.pointer (some (Addr.mk 1 0 none))) (by kernel_rfl) (by kernel_rfl) (by kernel_rfl) ?_ (fun cf => (by kernel_rfl))
  refine WpOps.called 36 56 [Value.pointer (some (Addr.mk 1 0 none))] (by kernel_rfl) (by kernel_rfl) (by kernel_rfl) (by kernel_rfl) (fun cf => (by kernel_rfl)) ?_
  refine WpCall.lent [1] (n3) (by decide) ⟨⟨[Value.string (ByteArray.extract b 7 (ByteArray.size b - 2)), Value.bool false], (by kernel_rfl), (by kernel_rfl), (by kernel_rfl)⟩, trivial⟩ (by kernel_rfl) (Value.int IntKind.i64 (num b 7)) ([Blk.mk 113 true [Value.string (ByteArray.extract b (7 + 2) (ByteArray.size b - 2)), Value.bool false]]) (.cons (by kernel_rfl) .nil) (by kernel_rfl) (Heap.set (Heap.set (Heap.set (Heap.set (Heap.alloc (Heap.alloc Heap.none (Blk.mk 24 true [Value.slice none 0 0, Value.slice none 0 0, Value.int IntKind.i64 0, Value.int IntKind.i64 0, Value.int IntKind.i64 0, Value.int IntKind.i64 0, Value.int IntKind.i64 0, Value.bool false, Value.bool false, Value.bool false, Value.string (ByteArray.mk #[])])) (Blk.mk 113 true [Value.string (ByteArray.extract b 1 (Int.toNat (IntKind.wrap IntKind.i64 ((↑(ByteArray.size b) : Int) - 2)))), Value.bool false])) 1 (some (Blk.mk 113 true [Value.string (ByteArray.extract b 3 (ByteArray.size b - 2)), Value.bool false]))) 1 (some (Blk.mk 113 true [Value.string (ByteArray.extract b 5 (ByteArray.size b - 2)), Value.bool false]))) 1 (some (Blk.mk 113 true [Value.string (ByteArray.extract b 7 (ByteArray.size b - 2)), Value.bool false]))) 1 (some (Blk.mk 113 true [Value.string (ByteArray.extract b 9 (ByteArray.size b - 2)), Value.bool false]))) (by kernel_rfl) ?_
  refine WpOps.keep 37 (Value.pointer (some (Addr.mk 1 0 none))) (by kernel_rfl) (by kernel_rfl) (by kernel_rfl) ?_ (fun cf => (by kernel_rfl))
  refine WpOps.called 38 56 [Value.pointer (some (Addr.mk 1 0 none))] (by kernel_rfl) (by kernel_rfl) (by kernel_rfl) (by kernel_rfl) (fun cf => (by kernel_rfl)) ?_
  refine WpCall.lent [1] (n4) (by decide) ⟨⟨[Value.string (ByteArray.extract b 9 (ByteArray.size b - 2)), Value.bool false], (by kernel_rfl), (by kernel_rfl), (by kernel_rfl)⟩, trivial⟩ (by kernel_rfl) (Value.int IntKind.i64 (num b 9)) ([Blk.mk 113 true [Value.string (ByteArray.extract b (9 + 2) (ByteArray.size b - 2)), Value.bool false]]) (.cons (by kernel_rfl) .nil) (by kernel_rfl) (Heap.set (Heap.set (Heap.set (Heap.set (Heap.set (Heap.alloc (Heap.alloc Heap.none (Blk.mk 24 true [Value.slice none 0 0, Value.slice none 0 0, Value.int IntKind.i64 0, Value.int IntKind.i64 0, Value.int IntKind.i64 0, Value.int IntKind.i64 0, Value.int IntKind.i64 0, Value.bool false, Value.bool false, Value.bool false, Value.string (ByteArray.mk #[])])) (Blk.mk 113 true [Value.string (ByteArray.extract b 1 (Int.toNat (IntKind.wrap IntKind.i64 ((↑(ByteArray.size b) : Int) - 2)))), Value.bool false])) 1 (some (Blk.mk 113 true [Value.string (ByteArray.extract b 3 (ByteArray.size b - 2)), Value.bool false]))) 1 (some (Blk.mk 113 true [Value.string (ByteArray.extract b 5 (ByteArray.size b - 2)), Value.bool false]))) 1 (some (Blk.mk 113 true [Value.string (ByteArray.extract b 7 (ByteArray.size b - 2)), Value.bool false]))) 1 (some (Blk.mk 113 true [Value.string (ByteArray.extract b 9 (ByteArray.size b - 2)), Value.bool false]))) 1 (some (Blk.mk 113 true [Value.string (ByteArray.extract b 11 (ByteArray.size b - 2)), Value.bool false]))) (by kernel_rfl) ?_
  refine WpOps.keep 39 (Value.agg #[Value.slice none 0 0, Value.slice none 0 0, Value.int IntKind.i64 (num b 1), Value.int IntKind.i64 (num b 3), Value.int IntKind.i64 (num b 5), Value.int IntKind.i64 (num b 7), Value.int IntKind.i64 (num b 9), Value.bool false, Value.bool false, Value.bool false, Value.string (ByteArray.mk #[])]) (by kernel_rfl) (by kernel_rfl) (by kernel_rfl) ?_ (fun cf => (by kernel_rfl))
  refine WpOps.made 6 (Value.pointer (some (Addr.mk 2 0 none))) (Blk.mk 24 true [Value.slice none 0 0, Value.slice none 0 0, Value.int IntKind.i64 0, Value.int IntKind.i64 0, Value.int IntKind.i64 0, Value.int IntKind.i64 0, Value.int IntKind.i64 0, Value.bool false, Value.bool false, Value.bool false, Value.string (ByteArray.mk #[])]) (by kernel_rfl) (by kernel_rfl) (by kernel_rfl) ?_ (fun cf => (by kernel_rfl))
  refine WpOps.laid (Value.tuple #[]) (2) (Blk.mk 24 true [Value.slice none 0 0, Value.slice none 0 0, Value.int IntKind.i64 (num b 1), Value.int IntKind.i64 (num b 3), Value.int IntKind.i64 (num b 5), Value.int IntKind.i64 (num b 7), Value.int IntKind.i64 (num b 9), Value.bool false, Value.bool false, Value.bool false, Value.string (ByteArray.mk #[])]) (by kernel_rfl) (by kernel_rfl) (by kernel_rfl) ?_ (fun cf => (by kernel_rfl))
  refine WpOps.nil ?_
  refine thenK_at ?_
  refine Wp.seq ?_
  refine Wp.text ?_
  refine WpOps.keep 40 (Value.pointer (some (Addr.mk 1 0 none))) (by kernel_rfl) (by kernel_rfl) (by kernel_rfl) ?_ (fun cf => (by kernel_rfl))
  refine WpOps.called 41 56 [Value.pointer (some (Addr.mk 1 0 none))] (by kernel_rfl) (by kernel_rfl) (by kernel_rfl) (by kernel_rfl) (fun cf => (by kernel_rfl)) ?_
  refine WpCall.lent [1] (n5) (by decide) ⟨⟨[Value.string (ByteArray.extract b 11 (ByteArray.size b - 2)), Value.bool false], (by kernel_rfl), (by kernel_rfl), (by kernel_rfl)⟩, trivial⟩ (by kernel_rfl) (Value.int IntKind.i64 (num b 11)) ([Blk.mk 113 true [Value.string (ByteArray.extract b (11 + 2) (ByteArray.size b - 2)), Value.bool false]]) (.cons (by kernel_rfl) .nil) (by kernel_rfl) (Heap.set (Heap.set (Heap.alloc (Heap.set (Heap.set (Heap.set (Heap.set (Heap.set (Heap.alloc (Heap.alloc Heap.none (Blk.mk 24 true [Value.slice none 0 0, Value.slice none 0 0, Value.int IntKind.i64 0, Value.int IntKind.i64 0, Value.int IntKind.i64 0, Value.int IntKind.i64 0, Value.int IntKind.i64 0, Value.bool false, Value.bool false, Value.bool false, Value.string (ByteArray.mk #[])])) (Blk.mk 113 true [Value.string (ByteArray.extract b 1 (Int.toNat (IntKind.wrap IntKind.i64 ((↑(ByteArray.size b) : Int) - 2)))), Value.bool false])) 1 (some (Blk.mk 113 true [Value.string (ByteArray.extract b 3 (ByteArray.size b - 2)), Value.bool false]))) 1 (some (Blk.mk 113 true [Value.string (ByteArray.extract b 5 (ByteArray.size b - 2)), Value.bool false]))) 1 (some (Blk.mk 113 true [Value.string (ByteArray.extract b 7 (ByteArray.size b - 2)), Value.bool false]))) 1 (some (Blk.mk 113 true [Value.string (ByteArray.extract b 9 (ByteArray.size b - 2)), Value.bool false]))) 1 (some (Blk.mk 113 true [Value.string (ByteArray.extract b 11 (ByteArray.size b - 2)), Value.bool false]))) (Blk.mk 24 true [Value.slice none 0 0, Value.slice none 0 0, Value.int IntKind.i64 0, Value.int IntKind.i64 0, Value.int IntKind.i64 0, Value.int IntKind.i64 0, Value.int IntKind.i64 0, Value.bool false, Value.bool false, Value.bool false, Value.string (ByteArray.mk #[])])) 2 (some (Blk.mk 24 true [Value.slice none 0 0, Value.slice none 0 0, Value.int IntKind.i64 (num b 1), Value.int IntKind.i64 (num b 3), Value.int IntKind.i64 (num b 5), Value.int IntKind.i64 (num b 7), Value.int IntKind.i64 (num b 9), Value.bool false, Value.bool false, Value.bool false, Value.string (ByteArray.mk #[])]))) 1 (some (Blk.mk 113 true [Value.string (ByteArray.extract b 13 (ByteArray.size b - 2)), Value.bool false]))) (by kernel_rfl) ?_
  refine WpOps.keep 7 (Value.int IntKind.i64 (num b 11)) (by kernel_rfl) (by kernel_rfl) (by kernel_rfl) ?_ (fun cf => (by kernel_rfl))
  refine WpOps.nil ?_
  refine thenK_at ?_
  refine Wp.seq ?_
  refine Wp.text ?_
  refine WpOps.keep 42 (Value.int IntKind.i64 (num b 11)) (by kernel_rfl) (by kernel_rfl) (by kernel_rfl) ?_ (fun cf => (by kernel_rfl))
  refine WpOps.keep 43 (Value.int IntKind.i64 (IntKind.wrap IntKind.i64 (↑(BitVec.toNat (BitVec.ofInt 64 (num b 11) &&& BitVec.ofInt 64 1)) : Int))) (by kernel_rfl) (by kernel_rfl) (by kernel_rfl) ?_ (fun cf => (by kernel_rfl))
  refine WpOps.keep 44 (Value.bool (IntKind.wrap IntKind.i64 (↑(BitVec.toNat (BitVec.ofInt 64 (num b 11) &&& BitVec.ofInt 64 1)) : Int) != 0)) (by kernel_rfl) (by kernel_rfl) (by kernel_rfl) ?_ (fun cf => (by kernel_rfl))
  refine WpOps.keep 45 (Value.int IntKind.i64 (num b 11)) (by kernel_rfl) (by kernel_rfl) (by kernel_rfl) ?_ (fun cf => (by kernel_rfl))
  refine WpOps.keep 46 (Value.int IntKind.i64 (IntKind.wrap IntKind.i64 (↑(BitVec.toNat (BitVec.ofInt 64 (num b 11) &&& BitVec.ofInt 64 2)) : Int))) (by kernel_rfl) (by kernel_rfl) (by kernel_rfl) ?_ (fun cf => (by kernel_rfl))
  refine WpOps.keep 47 (Value.bool (IntKind.wrap IntKind.i64 (↑(BitVec.toNat (BitVec.ofInt 64 (num b 11) &&& BitVec.ofInt 64 2)) : Int) != 0)) (by kernel_rfl) (by kernel_rfl) (by kernel_rfl) ?_ (fun cf => (by kernel_rfl))
  refine WpOps.keep 48 (Value.int IntKind.i64 (num b 11)) (by kernel_rfl) (by kernel_rfl) (by kernel_rfl) ?_ (fun cf => (by kernel_rfl))
  refine WpOps.keep 49 (Value.int IntKind.i64 (IntKind.wrap IntKind.i64 (↑(BitVec.toNat (BitVec.ofInt 64 (num b 11) &&& BitVec.ofInt 64 4)) : Int))) (by kernel_rfl) (by kernel_rfl) (by kernel_rfl) ?_ (fun cf => (by kernel_rfl))
  refine WpOps.keep 50 (Value.bool (IntKind.wrap IntKind.i64 (↑(BitVec.toNat (BitVec.ofInt 64 (num b 11) &&& BitVec.ofInt 64 4)) : Int) != 0)) (by kernel_rfl) (by kernel_rfl) (by kernel_rfl) ?_ (fun cf => (by kernel_rfl))
  refine WpOps.keep 51 (Value.pointer (some (Addr.mk 2 7 none))) (by kernel_rfl) (by kernel_rfl) (by kernel_rfl) ?_ (fun cf => (by kernel_rfl))
  refine WpOps.laid (Value.tuple #[]) (2) (Blk.mk 24 true [Value.slice none 0 0, Value.slice none 0 0, Value.int IntKind.i64 (num b 1), Value.int IntKind.i64 (num b 3), Value.int IntKind.i64 (num b 5), Value.int IntKind.i64 (num b 7), Value.int IntKind.i64 (num b 9), Value.bool (IntKind.wrap IntKind.i64 (↑(BitVec.toNat (BitVec.ofInt 64 (num b 11) &&& BitVec.ofInt 64 1)) : Int) != 0), Value.bool false, Value.bool false, Value.string (ByteArray.mk #[])]) (by kernel_rfl) (by kernel_rfl) (by kernel_rfl) ?_ (fun cf => (by kernel_rfl))
  refine WpOps.keep 52 (Value.pointer (some (Addr.mk 2 8 none))) (by kernel_rfl) (by kernel_rfl) (by kernel_rfl) ?_ (fun cf => (by kernel_rfl))
  refine WpOps.laid (Value.tuple #[]) (2) (Blk.mk 24 true [Value.slice none 0 0, Value.slice none 0 0, Value.int IntKind.i64 (num b 1), Value.int IntKind.i64 (num b 3), Value.int IntKind.i64 (num b 5), Value.int IntKind.i64 (num b 7), Value.int IntKind.i64 (num b 9), Value.bool (IntKind.wrap IntKind.i64 (↑(BitVec.toNat (BitVec.ofInt 64 (num b 11) &&& BitVec.ofInt 64 1)) : Int) != 0), Value.bool (IntKind.wrap IntKind.i64 (↑(BitVec.toNat (BitVec.ofInt 64 (num b 11) &&& BitVec.ofInt 64 2)) : Int) != 0), Value.bool false, Value.string (ByteArray.mk #[])]) (by kernel_rfl) (by kernel_rfl) (by kernel_rfl) ?_ (fun cf => (by kernel_rfl))
  refine WpOps.keep 53 (Value.pointer (some (Addr.mk 2 9 none))) (by kernel_rfl) (by kernel_rfl) (by kernel_rfl) ?_ (fun cf => (by kernel_rfl))
  refine WpOps.laid (Value.tuple #[]) (2) (Blk.mk 24 true [Value.slice none 0 0, Value.slice none 0 0, Value.int IntKind.i64 (num b 1), Value.int IntKind.i64 (num b 3), Value.int IntKind.i64 (num b 5), Value.int IntKind.i64 (num b 7), Value.int IntKind.i64 (num b 9), Value.bool (IntKind.wrap IntKind.i64 (↑(BitVec.toNat (BitVec.ofInt 64 (num b 11) &&& BitVec.ofInt 64 1)) : Int) != 0), Value.bool (IntKind.wrap IntKind.i64 (↑(BitVec.toNat (BitVec.ofInt 64 (num b 11) &&& BitVec.ofInt 64 2)) : Int) != 0), Value.bool (IntKind.wrap IntKind.i64 (↑(BitVec.toNat (BitVec.ofInt 64 (num b 11) &&& BitVec.ofInt 64 4)) : Int) != 0), Value.string (ByteArray.mk #[])]) (by kernel_rfl) (by kernel_rfl) (by kernel_rfl) ?_ (fun cf => (by kernel_rfl))
  refine WpOps.nil ?_
  refine thenK_at ?_
  refine Wp.seq ?_
  refine Wp.text ?_
  refine WpOps.keep 54 (Value.pointer (some (Addr.mk 1 0 none))) (by kernel_rfl) (by kernel_rfl) (by kernel_rfl) ?_ (fun cf => (by kernel_rfl))
  refine WpOps.called 55 57 [Value.pointer (some (Addr.mk 1 0 none))] (by kernel_rfl) (by kernel_rfl) (by kernel_rfl) (by kernel_rfl) (fun cf => (by kernel_rfl)) ?_
  refine WpCall.lent [1] (c1) (by decide) ⟨⟨[Value.string (ByteArray.extract b 13 (ByteArray.size b - 2)), Value.bool false], (by kernel_rfl), (by kernel_rfl), (by kernel_rfl)⟩, trivial⟩ (by kernel_rfl) (Value.iface 3 (Value.iface (List.length l1) (Value.iface x1 (Value.agg (List.toArray (List.map (fun n => Value.int IntKind.i64 n) l1)))))) ([Blk.mk 113 true [Value.string s1, Value.bool b1]]) (.cons (by kernel_rfl) .nil) (by kernel_rfl) (Heap.set (Heap.set (Heap.set (Heap.set (Heap.set (Heap.set (Heap.alloc (Heap.set (Heap.set (Heap.set (Heap.set (Heap.set (Heap.alloc (Heap.alloc Heap.none (Blk.mk 24 true [Value.slice none 0 0, Value.slice none 0 0, Value.int IntKind.i64 0, Value.int IntKind.i64 0, Value.int IntKind.i64 0, Value.int IntKind.i64 0, Value.int IntKind.i64 0, Value.bool false, Value.bool false, Value.bool false, Value.string (ByteArray.mk #[])])) (Blk.mk 113 true [Value.string (ByteArray.extract b 1 (Int.toNat (IntKind.wrap IntKind.i64 ((↑(ByteArray.size b) : Int) - 2)))), Value.bool false])) 1 (some (Blk.mk 113 true [Value.string (ByteArray.extract b 3 (ByteArray.size b - 2)), Value.bool false]))) 1 (some (Blk.mk 113 true [Value.string (ByteArray.extract b 5 (ByteArray.size b - 2)), Value.bool false]))) 1 (some (Blk.mk 113 true [Value.string (ByteArray.extract b 7 (ByteArray.size b - 2)), Value.bool false]))) 1 (some (Blk.mk 113 true [Value.string (ByteArray.extract b 9 (ByteArray.size b - 2)), Value.bool false]))) 1 (some (Blk.mk 113 true [Value.string (ByteArray.extract b 11 (ByteArray.size b - 2)), Value.bool false]))) (Blk.mk 24 true [Value.slice none 0 0, Value.slice none 0 0, Value.int IntKind.i64 0, Value.int IntKind.i64 0, Value.int IntKind.i64 0, Value.int IntKind.i64 0, Value.int IntKind.i64 0, Value.bool false, Value.bool false, Value.bool false, Value.string (ByteArray.mk #[])])) 2 (some (Blk.mk 24 true [Value.slice none 0 0, Value.slice none 0 0, Value.int IntKind.i64 (num b 1), Value.int IntKind.i64 (num b 3), Value.int IntKind.i64 (num b 5), Value.int IntKind.i64 (num b 7), Value.int IntKind.i64 (num b 9), Value.bool false, Value.bool false, Value.bool false, Value.string (ByteArray.mk #[])]))) 1 (some (Blk.mk 113 true [Value.string (ByteArray.extract b 13 (ByteArray.size b - 2)), Value.bool false]))) 2 (some (Blk.mk 24 true [Value.slice none 0 0, Value.slice none 0 0, Value.int IntKind.i64 (num b 1), Value.int IntKind.i64 (num b 3), Value.int IntKind.i64 (num b 5), Value.int IntKind.i64 (num b 7), Value.int IntKind.i64 (num b 9), Value.bool (IntKind.wrap IntKind.i64 (↑(BitVec.toNat (BitVec.ofInt 64 (num b 11) &&& BitVec.ofInt 64 1)) : Int) != 0), Value.bool false, Value.bool false, Value.string (ByteArray.mk #[])]))) 2 (some (Blk.mk 24 true [Value.slice none 0 0, Value.slice none 0 0, Value.int IntKind.i64 (num b 1), Value.int IntKind.i64 (num b 3), Value.int IntKind.i64 (num b 5), Value.int IntKind.i64 (num b 7), Value.int IntKind.i64 (num b 9), Value.bool (IntKind.wrap IntKind.i64 (↑(BitVec.toNat (BitVec.ofInt 64 (num b 11) &&& BitVec.ofInt 64 1)) : Int) != 0), Value.bool (IntKind.wrap IntKind.i64 (↑(BitVec.toNat (BitVec.ofInt 64 (num b 11) &&& BitVec.ofInt 64 2)) : Int) != 0), Value.bool false, Value.string (ByteArray.mk #[])]))) 2 (some (Blk.mk 24 true [Value.slice none 0 0, Value.slice none 0 0, Value.int IntKind.i64 (num b 1), Value.int IntKind.i64 (num b 3), Value.int IntKind.i64 (num b 5), Value.int IntKind.i64 (num b 7), Value.int IntKind.i64 (num b 9), Value.bool (IntKind.wrap IntKind.i64 (↑(BitVec.toNat (BitVec.ofInt 64 (num b 11) &&& BitVec.ofInt 64 1)) : Int) != 0), Value.bool (IntKind.wrap IntKind.i64 (↑(BitVec.toNat (BitVec.ofInt 64 (num b 11) &&& BitVec.ofInt 64 2)) : Int) != 0), Value.bool (IntKind.wrap IntKind.i64 (↑(BitVec.toNat (BitVec.ofInt 64 (num b 11) &&& BitVec.ofInt 64 4)) : Int) != 0), Value.string (ByteArray.mk #[])]))) 1 (some (Blk.mk 113 true [Value.string s1, Value.bool b1]))) (by kernel_rfl) ?_
  refine WpOps.keep 56 (Value.pointer (some (Addr.mk 1 0 none))) (by kernel_rfl) (by kernel_rfl) (by kernel_rfl) ?_ (fun cf => (by kernel_rfl))
  refine WpOps.called 57 57 [Value.pointer (some (Addr.mk 1 0 none))] (by kernel_rfl) (by kernel_rfl) (by kernel_rfl) (by kernel_rfl) (fun cf => (by kernel_rfl)) ?_
  refine WpCall.lent [1] (c2) (by decide) ⟨⟨[Value.string s1, Value.bool b1], (by kernel_rfl), (by kernel_rfl), (by kernel_rfl)⟩, trivial⟩ (by kernel_rfl) (Value.iface 3 (Value.iface (List.length l2) (Value.iface x2 (Value.agg (List.toArray (List.map (fun n => Value.int IntKind.i64 n) l2)))))) ([Blk.mk 113 true [Value.string s2, Value.bool b2]]) (.cons (by kernel_rfl) .nil) (by kernel_rfl) (Heap.set (Heap.set (Heap.set (Heap.set (Heap.set (Heap.set (Heap.set (Heap.alloc (Heap.set (Heap.set (Heap.set (Heap.set (Heap.set (Heap.alloc (Heap.alloc Heap.none (Blk.mk 24 true [Value.slice none 0 0, Value.slice none 0 0, Value.int IntKind.i64 0, Value.int IntKind.i64 0, Value.int IntKind.i64 0, Value.int IntKind.i64 0, Value.int IntKind.i64 0, Value.bool false, Value.bool false, Value.bool false, Value.string (ByteArray.mk #[])])) (Blk.mk 113 true [Value.string (ByteArray.extract b 1 (Int.toNat (IntKind.wrap IntKind.i64 ((↑(ByteArray.size b) : Int) - 2)))), Value.bool false])) 1 (some (Blk.mk 113 true [Value.string (ByteArray.extract b 3 (ByteArray.size b - 2)), Value.bool false]))) 1 (some (Blk.mk 113 true [Value.string (ByteArray.extract b 5 (ByteArray.size b - 2)), Value.bool false]))) 1 (some (Blk.mk 113 true [Value.string (ByteArray.extract b 7 (ByteArray.size b - 2)), Value.bool false]))) 1 (some (Blk.mk 113 true [Value.string (ByteArray.extract b 9 (ByteArray.size b - 2)), Value.bool false]))) 1 (some (Blk.mk 113 true [Value.string (ByteArray.extract b 11 (ByteArray.size b - 2)), Value.bool false]))) (Blk.mk 24 true [Value.slice none 0 0, Value.slice none 0 0, Value.int IntKind.i64 0, Value.int IntKind.i64 0, Value.int IntKind.i64 0, Value.int IntKind.i64 0, Value.int IntKind.i64 0, Value.bool false, Value.bool false, Value.bool false, Value.string (ByteArray.mk #[])])) 2 (some (Blk.mk 24 true [Value.slice none 0 0, Value.slice none 0 0, Value.int IntKind.i64 (num b 1), Value.int IntKind.i64 (num b 3), Value.int IntKind.i64 (num b 5), Value.int IntKind.i64 (num b 7), Value.int IntKind.i64 (num b 9), Value.bool false, Value.bool false, Value.bool false, Value.string (ByteArray.mk #[])]))) 1 (some (Blk.mk 113 true [Value.string (ByteArray.extract b 13 (ByteArray.size b - 2)), Value.bool false]))) 2 (some (Blk.mk 24 true [Value.slice none 0 0, Value.slice none 0 0, Value.int IntKind.i64 (num b 1), Value.int IntKind.i64 (num b 3), Value.int IntKind.i64 (num b 5), Value.int IntKind.i64 (num b 7), Value.int IntKind.i64 (num b 9), Value.bool (IntKind.wrap IntKind.i64 (↑(BitVec.toNat (BitVec.ofInt 64 (num b 11) &&& BitVec.ofInt 64 1)) : Int) != 0), Value.bool false, Value.bool false, Value.string (ByteArray.mk #[])]))) 2 (some (Blk.mk 24 true [Value.slice none 0 0, Value.slice none 0 0, Value.int IntKind.i64 (num b 1), Value.int IntKind.i64 (num b 3), Value.int IntKind.i64 (num b 5), Value.int IntKind.i64 (num b 7), Value.int IntKind.i64 (num b 9), Value.bool (IntKind.wrap IntKind.i64 (↑(BitVec.toNat (BitVec.ofInt 64 (num b 11) &&& BitVec.ofInt 64 1)) : Int) != 0), Value.bool (IntKind.wrap IntKind.i64 (↑(BitVec.toNat (BitVec.ofInt 64 (num b 11) &&& BitVec.ofInt 64 2)) : Int) != 0), Value.bool false, Value.string (ByteArray.mk #[])]))) 2 (some (Blk.mk 24 true [Value.slice none 0 0, Value.slice none 0 0, Value.int IntKind.i64 (num b 1), Value.int IntKind.i64 (num b 3), Value.int IntKind.i64 (num b 5), Value.int IntKind.i64 (num b 7), Value.int IntKind.i64 (num b 9), Value.bool (IntKind.wrap IntKind.i64 (↑(BitVec.toNat (BitVec.ofInt 64 (num b 11) &&& BitVec.ofInt 64 1)) : Int) != 0), Value.bool (IntKind.wrap IntKind.i64 (↑(BitVec.toNat (BitVec.ofInt 64 (num b 11) &&& BitVec.ofInt 64 2)) : Int) != 0), Value.bool (IntKind.wrap IntKind.i64 (↑(BitVec.toNat (BitVec.ofInt 64 (num b 11) &&& BitVec.ofInt 64 4)) : Int) != 0), Value.string (ByteArray.mk #[])]))) 1 (some (Blk.mk 113 true [Value.string s1, Value.bool b1]))) 1 (some (Blk.mk 113 true [Value.string s2, Value.bool b2]))) (by kernel_rfl) ?_
  refine WpOps.keep 58 (Value.pointer (some (Addr.mk 2 0 none))) (by kernel_rfl) (by kernel_rfl) (by kernel_rfl) ?_ (fun cf => (by kernel_rfl))
  refine WpOps.laid (Value.tuple #[]) (2) (Blk.mk 24 true [Value.iface 3 (Value.iface (List.length l1) (Value.iface x1 (Value.agg (List.toArray (List.map (fun n => Value.int IntKind.i64 n) l1))))), Value.slice none 0 0, Value.int IntKind.i64 (num b 1), Value.int IntKind.i64 (num b 3), Value.int IntKind.i64 (num b 5), Value.int IntKind.i64 (num b 7), Value.int IntKind.i64 (num b 9), Value.bool (IntKind.wrap IntKind.i64 (↑(BitVec.toNat (BitVec.ofInt 64 (num b 11) &&& BitVec.ofInt 64 1)) : Int) != 0), Value.bool (IntKind.wrap IntKind.i64 (↑(BitVec.toNat (BitVec.ofInt 64 (num b 11) &&& BitVec.ofInt 64 2)) : Int) != 0), Value.bool (IntKind.wrap IntKind.i64 (↑(BitVec.toNat (BitVec.ofInt 64 (num b 11) &&& BitVec.ofInt 64 4)) : Int) != 0), Value.string (ByteArray.mk #[])]) (by kernel_rfl) (by kernel_rfl) (by kernel_rfl) ?_ (fun cf => (by kernel_rfl))
  refine WpOps.keep 59 (Value.pointer (some (Addr.mk 2 1 none))) (by kernel_rfl) (by kernel_rfl) (by kernel_rfl) ?_ (fun cf => (by kernel_rfl))
  refine WpOps.laid (Value.tuple #[]) (2) (Blk.mk 24 true [Value.iface 3 (Value.iface (List.length l1) (Value.iface x1 (Value.agg (List.toArray (List.map (fun n => Value.int IntKind.i64 n) l1))))), Value.iface 3 (Value.iface (List.length l2) (Value.iface x2 (Value.agg (List.toArray (List.map (fun n => Value.int IntKind.i64 n) l2))))), Value.int IntKind.i64 (num b 1), Value.int IntKind.i64 (num b 3), Value.int IntKind.i64 (num b 5), Value.int IntKind.i64 (num b 7), Value.int IntKind.i64 (num b 9), Value.bool (IntKind.wrap IntKind.i64 (↑(BitVec.toNat (BitVec.ofInt 64 (num b 11) &&& BitVec.ofInt 64 1)) : Int) != 0), Value.bool (IntKind.wrap IntKind.i64 (↑(BitVec.toNat (BitVec.ofInt 64 (num b 11) &&& BitVec.ofInt 64 2)) : Int) != 0), Value.bool (IntKind.wrap IntKind.i64 (↑(BitVec.toNat (BitVec.ofInt 64 (num b 11) &&& BitVec.ofInt 64 4)) : Int) != 0), Value.string (ByteArray.mk #[])]) (by kernel_rfl) (by kernel_rfl) (by kernel_rfl) ?_ (fun cf => (by kernel_rfl))
  refine WpOps.nil ?_
  refine thenK_at ?_
  refine Wp.seq ?_
  refine Wp.text ?_
  refine WpOps.keep 60 (Value.pointer (some (Addr.mk 1 0 none))) (by kernel_rfl) (by kernel_rfl) (by kernel_rfl) ?_ (fun cf => (by kernel_rfl))
  refine WpOps.keep 61 (Value.pointer (some (Addr.mk 1 0 none))) (by kernel_rfl) (by kernel_rfl) (by kernel_rfl) ?_ (fun cf => (by kernel_rfl))
  refine WpOps.keep 62 (Value.pointer (some (Addr.mk 1 0 none))) (by kernel_rfl) (by kernel_rfl) (by kernel_rfl) ?_ (fun cf => (by kernel_rfl))
  refine WpOps.keep 63 (Value.string s2) (by kernel_rfl) (by kernel_rfl) (by kernel_rfl) ?_ (fun cf => (by kernel_rfl))
  refine WpOps.keep 64 (Value.pointer (some (Addr.mk 2 10 none))) (by kernel_rfl) (by kernel_rfl) (by kernel_rfl) ?_ (fun cf => (by kernel_rfl))
  refine WpOps.laid (Value.tuple #[]) (2) (Blk.mk 24 true [Value.iface 3 (Value.iface (List.length l1) (Value.iface x1 (Value.agg (List.toArray (List.map (fun n => Value.int IntKind.i64 n) l1))))), Value.iface 3 (Value.iface (List.length l2) (Value.iface x2 (Value.agg (List.toArray (List.map (fun n => Value.int IntKind.i64 n) l2))))), Value.int IntKind.i64 (num b 1), Value.int IntKind.i64 (num b 3), Value.int IntKind.i64 (num b 5), Value.int IntKind.i64 (num b 7), Value.int IntKind.i64 (num b 9), Value.bool (IntKind.wrap IntKind.i64 (↑(BitVec.toNat (BitVec.ofInt 64 (num b 11) &&& BitVec.ofInt 64 1)) : Int) != 0), Value.bool (IntKind.wrap IntKind.i64 (↑(BitVec.toNat (BitVec.ofInt 64 (num b 11) &&& BitVec.ofInt 64 2)) : Int) != 0), Value.bool (IntKind.wrap IntKind.i64 (↑(BitVec.toNat (BitVec.ofInt 64 (num b 11) &&& BitVec.ofInt 64 4)) : Int) != 0), Value.string s2]) (by kernel_rfl) (by kernel_rfl) (by kernel_rfl) ?_ (fun cf => (by kernel_rfl))
  refine WpOps.nil ?_
  refine thenK_at ?_
  refine Wp.seq ?_
  refine Wp.seq ?_
  refine Wp.text ?_
  refine WpOps.keep 65 (Value.string b) (by kernel_rfl) (by kernel_rfl) (by kernel_rfl) ?_ (fun cf => (by kernel_rfl))
  refine WpOps.keep 66 (Value.int IntKind.u8 (↑(UInt8.toNat (byteAt b 0)) : Int)) (by kernel_rfl) (by kernel_rfl) (by kernel_rfl) ?_ (fun cf => o_indexStr (of_decide_eq_true (by kernel_rfl)) g0 (by kernel_rfl) (by kernel_rfl) (by kernel_rfl))
  refine WpOps.keep 67 (Value.bool ((↑(UInt8.toNat (byteAt b 0)) : Int) != 71)) (by kernel_rfl) (by kernel_rfl) (by kernel_rfl) ?_ (fun cf => (by kernel_rfl))
  refine WpOps.keep 68 (Value.bool ((↑(UInt8.toNat (byteAt b 0)) : Int) != 71)) (by kernel_rfl) (by kernel_rfl) (by kernel_rfl) ?_ (fun cf => (by kernel_rfl))
  refine WpOps.fork 5 ((↑(UInt8.toNat (byteAt b 0)) : Int) != 71) [69, 70, 71, 72, 73] 73 (true) (b2) (by kernel_rfl) (fun g73 => ?_) (fun g73 => ?_) (fun f_73 b73 hb73 => ?_)
  · refine WpOps.unmet 69 (by kernel_rfl) (by kernel_rfl) (wants_tf g73 (by kernel_rfl)) ?_
    refine WpOps.unmet 70 (by kernel_rfl) (by kernel_rfl) (wants_tf g73 (by kernel_rfl)) ?_
    refine WpOps.unmet 71 (by kernel_rfl) (by kernel_rfl) (wants_tf g73 (by kernel_rfl)) ?_
    refine WpOps.unmet 72 (by kernel_rfl) (by kernel_rfl) (wants_tf g73 (by kernel_rfl)) ?_
    refine WpOps.keep 73 (Value.bool true) (by kernel_rfl) (by kernel_rfl) (by kernel_rfl) ?_ (fun cf => o_pickT g73 (by kernel_rfl) (by kernel_rfl))
    refine WpOps.nil ?_
    exact ⟨rfl, (.upd rfl (.upd rfl (.upd rfl (.upd rfl (.upd rfl .refl))))), (by kernel_rfl)⟩
  · refine WpOps.keep 69 (Value.pointer (some (Addr.mk 1 0 none))) (by kernel_rfl) (by kernel_rfl) (wants_ff g73 (by kernel_rfl)) ?_ (fun cf => (by kernel_rfl))
    refine WpOps.keep 70 (Value.pointer (some (Addr.mk 1 0 none))) (by kernel_rfl) (by kernel_rfl) (wants_ff g73 (by kernel_rfl)) ?_ (fun cf => (by kernel_rfl))
    refine WpOps.keep 71 (Value.pointer (some (Addr.mk 1 1 none))) (by kernel_rfl) (by kernel_rfl) (wants_ff g73 (by kernel_rfl)) ?_ (fun cf => (by kernel_rfl))
    refine WpOps.keep 72 (Value.bool b2) (by kernel_rfl) (by kernel_rfl) (wants_ff g73 (by kernel_rfl)) ?_ (fun cf => (by kernel_rfl))
    refine WpOps.keep 73 (Value.bool b2) (by kernel_rfl) (by kernel_rfl) (by kernel_rfl) ?_ (fun cf => o_pickF g73 (by kernel_rfl) (by kernel_rfl))
    refine WpOps.nil ?_
    exact ⟨rfl, (.upd rfl (.upd rfl (.upd rfl (.upd rfl (.upd rfl .refl))))), (by kernel_rfl)⟩
  refine WpOps.keep 74 (Value.bool b73) (by kernel_rfl) (by kernel_rfl) (by kernel_rfl) ?_ (fun cf => (by kernel_rfl))
  refine WpOps.fork 3 (b73) [75, 76, 77] 77 (true) (decide (num b 11 > 7)) (by kernel_rfl) (fun g77 => ?_) (fun g77 => ?_) (fun f_77 b77 hb77 => ?_)
  · refine WpOps.unmet 75 (by kernel_rfl) (by kernel_rfl) (wants_tf g77 (by kernel_rfl)) ?_
    refine WpOps.unmet 76 (by kernel_rfl) (by kernel_rfl) (wants_tf g77 (by kernel_rfl)) ?_
    refine WpOps.keep 77 (Value.bool true) (by kernel_rfl) (by kernel_rfl) (by kernel_rfl) ?_ (fun cf => o_pickT g77 (by kernel_rfl) (by kernel_rfl))
    refine WpOps.nil ?_
    exact ⟨rfl, (.upd rfl (.upd rfl (.upd rfl .refl))), (by kernel_rfl)⟩
  · refine WpOps.keep 75 (Value.int IntKind.i64 (num b 11)) (by kernel_rfl) (by kernel_rfl) (wants_ff g77 (by kernel_rfl)) ?_ (fun cf => (by kernel_rfl))
    refine WpOps.keep 76 (Value.bool (decide (num b 11 > 7))) (by kernel_rfl) (by kernel_rfl) (wants_ff g77 (by kernel_rfl)) ?_ (fun cf => (by kernel_rfl))
    refine WpOps.keep 77 (Value.bool (decide (num b 11 > 7))) (by kernel_rfl) (by kernel_rfl) (by kernel_rfl) ?_ (fun cf => o_pickF g77 (by kernel_rfl) (by kernel_rfl))
    refine WpOps.nil ?_
    exact ⟨rfl, (.upd rfl (.upd rfl (.upd rfl .refl))), (by kernel_rfl)⟩
  refine WpOps.keep 78 (Value.bool b77) (by kernel_rfl) (by kernel_rfl) (by kernel_rfl) ?_ (fun cf => (by kernel_rfl))
  refine WpOps.fork 4 (b77) [79, 80, 81, 82] 82 (true) (!okG (gR b x1 x2 l1 l2 s2)) (by kernel_rfl) (fun g82 => ?_) (fun g82 => ?_) (fun f_82 b82 hb82 => ?_)
  · refine WpOps.unmet 79 (by kernel_rfl) (by kernel_rfl) (wants_tf g82 (by kernel_rfl)) ?_
    refine WpOps.unmet 80 (by kernel_rfl) (by kernel_rfl) (wants_tf g82 (by kernel_rfl)) ?_
    refine WpOps.unmet 81 (by kernel_rfl) (by kernel_rfl) (wants_tf g82 (by kernel_rfl)) ?_
    refine WpOps.keep 82 (Value.bool true) (by kernel_rfl) (by kernel_rfl) (by kernel_rfl) ?_ (fun cf => o_pickT g82 (by kernel_rfl) (by kernel_rfl))
    refine WpOps.nil ?_
    exact ⟨rfl, (.upd rfl (.upd rfl (.upd rfl (.upd rfl .refl)))), (by kernel_rfl)⟩
  · refine WpOps.keep 79 (Value.agg #[Value.iface 3 (Value.iface (List.length l1) (Value.iface x1 (Value.agg (List.toArray (List.map (fun n => Value.int IntKind.i64 n) l1))))), Value.iface 3 (Value.iface (List.length l2) (Value.iface x2 (Value.agg (List.toArray (List.map (fun n => Value.int IntKind.i64 n) l2))))), Value.int IntKind.i64 (num b 1), Value.int IntKind.i64 (num b 3), Value.int IntKind.i64 (num b 5), Value.int IntKind.i64 (num b 7), Value.int IntKind.i64 (num b 9), Value.bool (IntKind.wrap IntKind.i64 (↑(BitVec.toNat (BitVec.ofInt 64 (num b 11) &&& BitVec.ofInt 64 1)) : Int) != 0), Value.bool (IntKind.wrap IntKind.i64 (↑(BitVec.toNat (BitVec.ofInt 64 (num b 11) &&& BitVec.ofInt 64 2)) : Int) != 0), Value.bool (IntKind.wrap IntKind.i64 (↑(BitVec.toNat (BitVec.ofInt 64 (num b 11) &&& BitVec.ofInt 64 4)) : Int) != 0), Value.string s2]) (by kernel_rfl) (by kernel_rfl) (wants_ff g82 (by kernel_rfl)) ?_ (fun cf => (by kernel_rfl))
    refine WpOps.framed 80 20 [Value.agg #[Value.iface 3 (Value.iface (List.length l1) (Value.iface x1 (Value.agg (List.toArray (List.map (fun n => Value.int IntKind.i64 n) l1))))), Value.iface 3 (Value.iface (List.length l2) (Value.iface x2 (Value.agg (List.toArray (List.map (fun n => Value.int IntKind.i64 n) l2))))), Value.int IntKind.i64 (num b 1), Value.int IntKind.i64 (num b 3), Value.int IntKind.i64 (num b 5), Value.int IntKind.i64 (num b 7), Value.int IntKind.i64 (num b 9), Value.bool (IntKind.wrap IntKind.i64 (↑(BitVec.toNat (BitVec.ofInt 64 (num b 11) &&& BitVec.ofInt 64 1)) : Int) != 0), Value.bool (IntKind.wrap IntKind.i64 (↑(BitVec.toNat (BitVec.ofInt 64 (num b 11) &&& BitVec.ofInt 64 2)) : Int) != 0), Value.bool (IntKind.wrap IntKind.i64 (↑(BitVec.toNat (BitVec.ofInt 64 (num b 11) &&& BitVec.ofInt 64 4)) : Int) != 0), Value.string s2]] (by kernel_rfl) (by kernel_rfl) (wants_ff g82 (by kernel_rfl)) (by kernel_rfl) (by kernel_rfl) (fun cf => (by kernel_rfl)) ?_
    refine WpFun.of (v) ?_
    refine WpOps.keep 81 (Value.bool !okG (gR b x1 x2 l1 l2 s2)) (by kernel_rfl) (by kernel_rfl) (wants_ff g82 (by kernel_rfl)) ?_ (fun cf => (by kernel_rfl))
    refine WpOps.keep 82 (Value.bool !okG (gR b x1 x2 l1 l2 s2)) (by kernel_rfl) (by kernel_rfl) (by kernel_rfl) ?_ (fun cf => o_pickF g82 (by kernel_rfl) (by kernel_rfl))
    refine WpOps.nil ?_
    exact ⟨rfl, (.upd rfl (.upd rfl (.upd rfl (.upd rfl .refl)))), (by kernel_rfl)⟩
  refine WpOps.nil ?_
  refine thenK_at ?_
  refine Wp.split (b82) (by kernel_rfl) (fun hx => ?_) (fun hx => ?_)
  · refine Wp.seq ?_
    refine Wp.text ?_
    refine WpOps.keep 83 (Value.agg #[Value.slice none 0 0, Value.slice none 0 0, Value.int IntKind.i64 0, Value.int IntKind.i64 0, Value.int IntKind.i64 0, Value.int IntKind.i64 0, Value.int IntKind.i64 0, Value.bool false, Value.bool false, Value.bool false, Value.string (ByteArray.mk #[])]) (by kernel_rfl) (by kernel_rfl) (by kernel_rfl) ?_ (fun cf => (by kernel_rfl))
    refine WpOps.laid (Value.tuple #[]) (0) (Blk.mk 24 true [Value.slice none 0 0, Value.slice none 0 0, Value.int IntKind.i64 0, Value.int IntKind.i64 0, Value.int IntKind.i64 0, Value.int IntKind.i64 0, Value.int IntKind.i64 0, Value.bool false, Value.bool false, Value.bool false, Value.string (ByteArray.mk #[])]) (by kernel_rfl) (by kernel_rfl) (by kernel_rfl) ?_ (fun cf => (by kernel_rfl))
    refine WpOps.keep 3 (Value.int IntKind.i64 4) (by kernel_rfl) (by kernel_rfl) (by kernel_rfl) ?_ (fun cf => (by kernel_rfl))
    refine WpOps.nil ?_
    refine thenK_at ?_
    refine Wp.ret ?_
    refine thenK_ret ?_
    refine endK_retn [Value.agg #[Value.slice none 0 0, Value.slice none 0 0, Value.int IntKind.i64 0, Value.int IntKind.i64 0, Value.int IntKind.i64 0, Value.int IntKind.i64 0, Value.int IntKind.i64 0, Value.bool false, Value.bool false, Value.bool false, Value.string (ByteArray.mk #[])], Value.int IntKind.i64 4] (Value.tuple #[Value.agg #[Value.slice none 0 0, Value.slice none 0 0, Value.int IntKind.i64 0, Value.int IntKind.i64 0, Value.int IntKind.i64 0, Value.int IntKind.i64 0, Value.int IntKind.i64 0, Value.bool false, Value.bool false, Value.bool false, Value.string (ByteArray.mk #[])], Value.int IntKind.i64 4]) (by kernel_rfl) (by kernel_rfl) ?_
    rw [hb82, hb77, hb73, acc_eq, Bool.not_eq_true'] at hx
    rw [hx]
    exact zero_pair _ _
  · refine Wp.skip ?_
    refine thenK_at ?_
    refine Wp.seq ?_
    refine Wp.text ?_
    refine WpOps.keep 84 (Value.agg #[Value.iface 3 (Value.iface (List.length l1) (Value.iface x1 (Value.agg (List.toArray (List.map (fun n => Value.int IntKind.i64 n) l1))))), Value.iface 3 (Value.iface (List.length l2) (Value.iface x2 (Value.agg (List.toArray (List.map (fun n => Value.int IntKind.i64 n) l2))))), Value.int IntKind.i64 (num b 1), Value.int IntKind.i64 (num b 3), Value.int IntKind.i64 (num b 5), Value.int IntKind.i64 (num b 7), Value.int IntKind.i64 (num b 9), Value.bool (IntKind.wrap IntKind.i64 (↑(BitVec.toNat (BitVec.ofInt 64 (num b 11) &&& BitVec.ofInt 64 1)) : Int) != 0), Value.bool (IntKind.wrap IntKind.i64 (↑(BitVec.toNat (BitVec.ofInt 64 (num b 11) &&& BitVec.ofInt 64 2)) : Int) != 0), Value.bool (IntKind.wrap IntKind.i64 (↑(BitVec.toNat (BitVec.ofInt 64 (num b 11) &&& BitVec.ofInt 64 4)) : Int) != 0), Value.string s2]) (by kernel_rfl) (by kernel_rfl) (by kernel_rfl) ?_ (fun cf => (by kernel_rfl))
    refine WpOps.laid (Value.tuple #[]) (0) (Blk.mk 24 true [Value.iface 3 (Value.iface (List.length l1) (Value.iface x1 (Value.agg (List.toArray (List.map (fun n => Value.int IntKind.i64 n) l1))))), Value.iface 3 (Value.iface (List.length l2) (Value.iface x2 (Value.agg (List.toArray (List.map (fun n => Value.int IntKind.i64 n) l2))))), Value.int IntKind.i64 (num b 1), Value.int IntKind.i64 (num b 3), Value.int IntKind.i64 (num b 5), Value.int IntKind.i64 (num b 7), Value.int IntKind.i64 (num b 9), Value.bool (IntKind.wrap IntKind.i64 (↑(BitVec.toNat (BitVec.ofInt 64 (num b 11) &&& BitVec.ofInt 64 1)) : Int) != 0), Value.bool (IntKind.wrap IntKind.i64 (↑(BitVec.toNat (BitVec.ofInt 64 (num b 11) &&& BitVec.ofInt 64 2)) : Int) != 0), Value.bool (IntKind.wrap IntKind.i64 (↑(BitVec.toNat (BitVec.ofInt 64 (num b 11) &&& BitVec.ofInt 64 4)) : Int) != 0), Value.string s2]) (by kernel_rfl) (by kernel_rfl) (by kernel_rfl) ?_ (fun cf => (by kernel_rfl))
    refine WpOps.keep 3 (Value.int IntKind.i64 0) (by kernel_rfl) (by kernel_rfl) (by kernel_rfl) ?_ (fun cf => (by kernel_rfl))
    refine WpOps.nil ?_
    refine thenK_at ?_
    refine Wp.ret ?_
    refine endK_retn [Value.agg #[Value.iface 3 (Value.iface (List.length l1) (Value.iface x1 (Value.agg (List.toArray (List.map (fun n => Value.int IntKind.i64 n) l1))))), Value.iface 3 (Value.iface (List.length l2) (Value.iface x2 (Value.agg (List.toArray (List.map (fun n => Value.int IntKind.i64 n) l2))))), Value.int IntKind.i64 (num b 1), Value.int IntKind.i64 (num b 3), Value.int IntKind.i64 (num b 5), Value.int IntKind.i64 (num b 7), Value.int IntKind.i64 (num b 9), Value.bool (IntKind.wrap IntKind.i64 (↑(BitVec.toNat (BitVec.ofInt 64 (num b 11) &&& BitVec.ofInt 64 1)) : Int) != 0), Value.bool (IntKind.wrap IntKind.i64 (↑(BitVec.toNat (BitVec.ofInt 64 (num b 11) &&& BitVec.ofInt 64 2)) : Int) != 0), Value.bool (IntKind.wrap IntKind.i64 (↑(BitVec.toNat (BitVec.ofInt 64 (num b 11) &&& BitVec.ofInt 64 4)) : Int) != 0), Value.string s2], Value.int IntKind.i64 0] (Value.tuple #[Value.agg #[Value.iface 3 (Value.iface (List.length l1) (Value.iface x1 (Value.agg (List.toArray (List.map (fun n => Value.int IntKind.i64 n) l1))))), Value.iface 3 (Value.iface (List.length l2) (Value.iface x2 (Value.agg (List.toArray (List.map (fun n => Value.int IntKind.i64 n) l2))))), Value.int IntKind.i64 (num b 1), Value.int IntKind.i64 (num b 3), Value.int IntKind.i64 (num b 5), Value.int IntKind.i64 (num b 7), Value.int IntKind.i64 (num b 9), Value.bool (IntKind.wrap IntKind.i64 (↑(BitVec.toNat (BitVec.ofInt 64 (num b 11) &&& BitVec.ofInt 64 1)) : Int) != 0), Value.bool (IntKind.wrap IntKind.i64 (↑(BitVec.toNat (BitVec.ofInt 64 (num b 11) &&& BitVec.ofInt 64 2)) : Int) != 0), Value.bool (IntKind.wrap IntKind.i64 (↑(BitVec.toNat (BitVec.ofInt 64 (num b 11) &&& BitVec.ofInt 64 4)) : Int) != 0), Value.string s2], Value.int IntKind.i64 0]) (by kernel_rfl) (by kernel_rfl) ?_
    rw [hb82, hb77, hb73, acc_eq, Bool.not_eq_false'] at hx
    rw [hx]
    exact ⟨_, by kernel_rfl, .w (.c (.inl rfl))⟩
end Go.Proofs.Ytpkkcpglbjbgfaa.D
