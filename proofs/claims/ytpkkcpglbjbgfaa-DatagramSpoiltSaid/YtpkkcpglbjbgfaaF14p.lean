/- What the document's Read comes to. -/
import Derived.Test.YtpkkcpglbjbgfaaFwLem
import Derived.Test.YtpkkcpglbjbgfaaF14o
namespace Go.Proofs.Ytpkkcpglbjbgfaa.D
open Go.Fw Go.RowKit

theorem f26 : E.funcs 26 = some Try.f26 := by kernel_rfl
theorem read26_short (b : ByteArray) (h : b.size < 23) : Fun E 26 [.string b] (.tuple #[gv zeroG, .int .i64 10]) := by
  refine Fun.ofN f26 rfl (of_decide_eq_true (by kernel_rfl)) rfl ?_
  have hc : decide ((b.size : Int) < 23) = true := decide_eq_true (by omega)
  refine Wp.seq ?_
  refine Wp.text ?_
  refine WpOps.made 2 (Value.pointer (some (Addr.mk 0 0 none))) (Blk.mk 32 true [Value.slice none 0 0, Value.slice none 0 0, Value.int IntKind.i64 0, Value.int IntKind.i64 0, Value.int IntKind.i64 0, Value.int IntKind.i64 0, Value.int IntKind.i64 0, Value.bool false, Value.bool false, Value.bool false, Value.string (ByteArray.mk #[])]) (by kernel_rfl) (by kernel_rfl) (by kernel_rfl) ?_ (fun cf => (by kernel_rfl))
  refine WpOps.keep 3 (Value.int IntKind.i64 0) (by kernel_rfl) (by kernel_rfl) (by kernel_rfl) ?_ (fun cf => (by kernel_rfl))
  refine WpOps.nil ?_
  refine thenK_at ?_
  refine Wp.seq ?_
  refine Wp.seq ?_
  refine Wp.text ?_
  refine WpOps.keep 7 (Value.string b) (by kernel_rfl) (by kernel_rfl) (by kernel_rfl) ?_ (fun cf => (by kernel_rfl))
  refine WpOps.keep 8 (Value.int IntKind.i64 (↑(ByteArray.size b) : Int)) (by kernel_rfl) (by kernel_rfl) (by kernel_rfl) ?_ (fun cf => (by kernel_rfl))
  refine WpOps.keep 9 (Value.bool true) (by kernel_rfl) (by kernel_rfl) (by kernel_rfl) ?_ (fun cf => by_fact hc ((by kernel_rfl)))
  refine WpOps.nil ?_
  refine thenK_at ?_
  refine Wp.on (by kernel_rfl) ?_
  refine Wp.seq ?_
  refine Wp.text ?_
  refine WpOps.keep 10 (Value.agg #[Value.slice none 0 0, Value.slice none 0 0, Value.int IntKind.i64 0, Value.int IntKind.i64 0, Value.int IntKind.i64 0, Value.int IntKind.i64 0, Value.int IntKind.i64 0, Value.bool false, Value.bool false, Value.bool false, Value.string (ByteArray.mk #[])]) (by kernel_rfl) (by kernel_rfl) (by kernel_rfl) ?_ (fun cf => (by kernel_rfl))
  refine WpOps.laid (Value.tuple #[]) (0) (Blk.mk 32 true [Value.slice none 0 0, Value.slice none 0 0, Value.int IntKind.i64 0, Value.int IntKind.i64 0, Value.int IntKind.i64 0, Value.int IntKind.i64 0, Value.int IntKind.i64 0, Value.bool false, Value.bool false, Value.bool false, Value.string (ByteArray.mk #[])]) (by kernel_rfl) (by kernel_rfl) (by kernel_rfl) ?_ (fun cf => (by kernel_rfl))
  refine WpOps.keep 3 (Value.int IntKind.i64 10) (by kernel_rfl) (by kernel_rfl) (by kernel_rfl) ?_ (fun cf => (by kernel_rfl))
  refine WpOps.nil ?_
  refine thenK_at ?_
  refine Wp.ret ?_
  refine thenK_ret ?_
  refine endK_retn [Value.agg #[Value.slice none 0 0, Value.slice none 0 0, Value.int IntKind.i64 0, Value.int IntKind.i64 0, Value.int IntKind.i64 0, Value.int IntKind.i64 0, Value.int IntKind.i64 0, Value.bool false, Value.bool false, Value.bool false, Value.string (ByteArray.mk #[])], Value.int IntKind.i64 10] (Value.tuple #[Value.agg #[Value.slice none 0 0, Value.slice none 0 0, Value.int IntKind.i64 0, Value.int IntKind.i64 0, Value.int IntKind.i64 0, Value.int IntKind.i64 0, Value.int IntKind.i64 0, Value.bool false, Value.bool false, Value.bool false, Value.string (ByteArray.mk #[])], Value.int IntKind.i64 10]) (by kernel_rfl) (by kernel_rfl) ?_
  exact zero_pair _ _
theorem end_sum54 {b : ByteArray} (h : 23 ≤ b.size) (hb : b.size ≤ 140737488351232) : Fun E 54 [.string (b.extract 0 (IntKind.i64.wrap ((b.size : Int) - 2)).toNat)] (.string (sumS (b.extract 0 (b.size - 2)))) := by
  rw [end_eq h hb]
  exact sum54 _ (by rw [ByteArray.size_extract]; omega)
theorem read26_sum (b : ByteArray) (h : 23 ≤ b.size) (hb : b.size ≤ 140737488351232) (hs : sumOk b = false) : Fun E 26 [.string b] (.tuple #[gv zeroG, .int .i64 11]) := by
  refine Fun.ofN f26 rfl (of_decide_eq_true (by kernel_rfl)) rfl ?_
  have hc : decide ((b.size : Int) < 23) = false := decide_eq_false (by omega)
  have e1 := end_in h hb
  have c := end_sum54 h hb
  have e2 := end_ne h hb false hs
  rw [Bool.not_false] at e2
  refine Wp.seq ?_
  refine Wp.text ?_
  refine WpOps.made 2 (Value.pointer (some (Addr.mk 0 0 none))) (Blk.mk 32 true [Value.slice none 0 0, Value.slice none 0 0, Value.int IntKind.i64 0, Value.int IntKind.i64 0, Value.int IntKind.i64 0, Value.int IntKind.i64 0, Value.int IntKind.i64 0, Value.bool false, Value.bool false, Value.bool false, Value.string (ByteArray.mk #[])]) (by kernel_rfl) (by kernel_rfl) (by kernel_rfl) ?_ (fun cf => (by kernel_rfl))
  refine WpOps.keep 3 (Value.int IntKind.i64 0) (by kernel_rfl) (by kernel_rfl) (by kernel_rfl) ?_ (fun cf => (by kernel_rfl))
  refine WpOps.nil ?_
  refine thenK_at ?_
  refine Wp.seq ?_
  refine Wp.seq ?_
  refine Wp.text ?_
  refine WpOps.keep 7 (Value.string b) (by kernel_rfl) (by kernel_rfl) (by kernel_rfl) ?_ (fun cf => (by kernel_rfl))
  refine WpOps.keep 8 (Value.int IntKind.i64 (↑(ByteArray.size b) : Int)) (by kernel_rfl) (by kernel_rfl) (by kernel_rfl) ?_ (fun cf => (by kernel_rfl))
  refine WpOps.keep 9 (Value.bool false) (by kernel_rfl) (by kernel_rfl) (by kernel_rfl) ?_ (fun cf => by_fact hc ((by kernel_rfl)))
  refine WpOps.nil ?_
  refine thenK_at ?_
  refine Wp.off (by kernel_rfl) ?_
  refine Wp.skip ?_
  refine thenK_at ?_
  refine Wp.seq ?_
  refine Wp.seq ?_
  refine Wp.region (by kernel_rfl) ?_
  refine WpOps.keep 11 (Value.string b) (by kernel_rfl) (by kernel_rfl) (by kernel_rfl) ?_ (fun cf => (by kernel_rfl))
  refine WpOps.keep 12 (Value.string b) (by kernel_rfl) (by kernel_rfl) (by kernel_rfl) ?_ (fun cf => (by kernel_rfl))
  refine WpOps.keep 13 (Value.int IntKind.i64 (↑(ByteArray.size b) : Int)) (by kernel_rfl) (by kernel_rfl) (by kernel_rfl) ?_ (fun cf => (by kernel_rfl))
  refine WpOps.keep 14 (Value.int IntKind.i64 (IntKind.wrap IntKind.i64 ((↑(ByteArray.size b) : Int) - 2))) (by kernel_rfl) (by kernel_rfl) (by kernel_rfl) ?_ (fun cf => (by kernel_rfl))
  refine WpOps.keep 15 (Value.string (ByteArray.extract b 0 (Int.toNat (IntKind.wrap IntKind.i64 ((↑(ByteArray.size b) : Int) - 2))))) (by kernel_rfl) (by kernel_rfl) (by kernel_rfl) ?_ (fun cf => o_cut_hi e1 (by kernel_rfl) (by kernel_rfl) (by kernel_rfl))
  refine WpOps.framed 16 54 [Value.string (ByteArray.extract b 0 (Int.toNat (IntKind.wrap IntKind.i64 ((↑(ByteArray.size b) : Int) - 2))))] (by kernel_rfl) (by kernel_rfl) (by kernel_rfl) (by kernel_rfl) (by kernel_rfl) (fun cf => (by kernel_rfl)) ?_
  refine WpFun.of (c) ?_
  refine WpOps.keep 17 (Value.string b) (by kernel_rfl) (by kernel_rfl) (by kernel_rfl) ?_ (fun cf => (by kernel_rfl))
  refine WpOps.keep 18 (Value.string b) (by kernel_rfl) (by kernel_rfl) (by kernel_rfl) ?_ (fun cf => (by kernel_rfl))
  refine WpOps.keep 19 (Value.int IntKind.i64 (↑(ByteArray.size b) : Int)) (by kernel_rfl) (by kernel_rfl) (by kernel_rfl) ?_ (fun cf => (by kernel_rfl))
  refine WpOps.keep 20 (Value.int IntKind.i64 (IntKind.wrap IntKind.i64 ((↑(ByteArray.size b) : Int) - 2))) (by kernel_rfl) (by kernel_rfl) (by kernel_rfl) ?_ (fun cf => (by kernel_rfl))
  refine WpOps.keep 21 (Value.string (ByteArray.extract b (Int.toNat (IntKind.wrap IntKind.i64 ((↑(ByteArray.size b) : Int) - 2))) (ByteArray.size b))) (by kernel_rfl) (by kernel_rfl) (by kernel_rfl) ?_ (fun cf => o_cut_lo e1 (by kernel_rfl) (by kernel_rfl) (by kernel_rfl))
  refine WpOps.keep 22 (Value.bool true) (by kernel_rfl) (by kernel_rfl) (by kernel_rfl) ?_ (fun cf => by_fact e2 ((by kernel_rfl)))
  refine WpOps.nil ?_
  refine thenK_at ?_
  refine Wp.on (by kernel_rfl) ?_
  refine Wp.seq ?_
  refine Wp.text ?_
  refine WpOps.keep 23 (Value.agg #[Value.slice none 0 0, Value.slice none 0 0, Value.int IntKind.i64 0, Value.int IntKind.i64 0, Value.int IntKind.i64 0, Value.int IntKind.i64 0, Value.int IntKind.i64 0, Value.bool false, Value.bool false, Value.bool false, Value.string (ByteArray.mk #[])]) (by kernel_rfl) (by kernel_rfl) (by kernel_rfl) ?_ (fun cf => (by kernel_rfl))
  refine WpOps.laid (Value.tuple #[]) (0) (Blk.mk 32 true [Value.slice none 0 0, Value.slice none 0 0, Value.int IntKind.i64 0, Value.int IntKind.i64 0, Value.int IntKind.i64 0, Value.int IntKind.i64 0, Value.int IntKind.i64 0, Value.bool false, Value.bool false, Value.bool false, Value.string (ByteArray.mk #[])]) (by kernel_rfl) (by kernel_rfl) (by kernel_rfl) ?_ (fun cf => (by kernel_rfl))
  refine WpOps.keep 3 (Value.int IntKind.i64 11) (by kernel_rfl) (by kernel_rfl) (by kernel_rfl) ?_ (fun cf => (by kernel_rfl))
  refine WpOps.nil ?_
  refine thenK_at ?_
  refine Wp.ret ?_
  refine thenK_ret ?_
  refine endK_retn [Value.agg #[Value.slice none 0 0, Value.slice none 0 0, Value.int IntKind.i64 0, Value.int IntKind.i64 0, Value.int IntKind.i64 0, Value.int IntKind.i64 0, Value.int IntKind.i64 0, Value.bool false, Value.bool false, Value.bool false, Value.string (ByteArray.mk #[])], Value.int IntKind.i64 11] (Value.tuple #[Value.agg #[Value.slice none 0 0, Value.slice none 0 0, Value.int IntKind.i64 0, Value.int IntKind.i64 0, Value.int IntKind.i64 0, Value.int IntKind.i64 0, Value.int IntKind.i64 0, Value.bool false, Value.bool false, Value.bool false, Value.string (ByteArray.mk #[])], Value.int IntKind.i64 11]) (by kernel_rfl) (by kernel_rfl) ?_
  exact zero_pair _ _
def fl1 (f : Int) : Bool := f.tmod 2 == 1
def fl2 (f : Int) : Bool := (IntKind.i64.wrap (f.tdiv 2)).tmod 2 == 1
def fl4 (f : Int) : Bool := (IntKind.i64.wrap (f.tdiv 4)).tmod 2 == 1
/-- What is read, by the document. -/
def gS (b : ByteArray) (x1 x2 : Nat) (l1 l2 : List Int) (s2 : ByteArray) : Gr := ⟨x1, l1, x2, l2, num b 1, num b 3, num b 5, num b 7, num b 9, fl1 (num b 11), fl2 (num b 11), fl4 (num b 11), s2⟩
def pre (b : ByteArray) (p2 : Int) : Bool := (byteAt b 0).toNat == 71 && decide (p2 ≤ b.size) && decide (num b 11 ≤ 7)
theorem pre_eq (b : ByteArray) (p2 : Int) : (bif (bif ((byteAt b 0).toNat : Int) != 71 then true else decide (p2 > b.size)) then true else decide (num b 11 > 7)) = !pre b p2 := by
  have e1 : (((byteAt b 0).toNat : Int) != 71) = !((byteAt b 0).toNat == 71) := by
    rw [Bool.eq_iff_iff]
    simp only [bne_iff_ne, ne_eq, Bool.not_eq_true', beq_eq_false_iff_ne]
    omega
  have e2 : decide (num b 11 > 7) = !decide (num b 11 ≤ 7) := by
    rw [← decide_not]
    exact decide_eq_decide.2 (by omega)
  have e3 : decide (p2 > b.size) = !decide (p2 ≤ b.size) := by
    rw [← decide_not]
    exact decide_eq_decide.2 (by omega)
  rw [e1, e2, e3]
  unfold pre
  cases (byteAt b 0).toNat == 71 <;> cases decide (p2 ≤ b.size) <;> cases decide (num b 11 ≤ 7) <;> rfl
set_option maxHeartbeats 4000000 in
theorem read26_walk (b : ByteArray) (h : 23 ≤ b.size) (hb : b.size ≤ 140737488351232) (hs : sumOk b = true) (x1 x2 : Nat) (l1 l2 : List Int) (p1 : Int) (p2 : Nat)
    (c1 : Fun E 59 [.string (b.extract 0 (b.size - 2)), .int .i64 13] (.tuple #[sl x1 l1, .int .i64 p1])) (c2 : Fun E 59 [.string (b.extract 0 (b.size - 2)), .int .i64 p1] (.tuple #[sl x2 l2, .int .i64 (p2 : Int)])) :
    Fun E 26 [.string b] (resV (if pre (b.extract 0 (b.size - 2)) p2 = true ∧ okG (gS (b.extract 0 (b.size - 2)) x1 x2 l1 l2 ((b.extract 0 (b.size - 2)).extract p2 (b.extract 0 (b.size - 2)).size)) = true then some (gS (b.extract 0 (b.size - 2)) x1 x2 l1 l2 ((b.extract 0 (b.size - 2)).extract p2 (b.extract 0 (b.size - 2)).size)) else none)) := by
  have eb : b.extract 0 (IntKind.i64.wrap ((b.size : Int) - 2)).toNat = b.extract 0 (b.size - 2) := by rw [end_eq h hb]; rfl
  have c := end_sum54 h hb
  have e2 := end_ne h hb true hs
  rw [Bool.not_true] at e2
  rw [← eb] at c1 c2 ⊢
  refine Fun.ofN f26 rfl (of_decide_eq_true (by kernel_rfl)) (by split <;> rfl) ?_
  have hc : decide ((b.size : Int) < 23) = false := decide_eq_false (by omega)
  have e1 := end_in h hb
  have hz : (b.extract 0 (IntKind.i64.wrap ((b.size : Int) - 2)).toNat).size = b.size - 2 := by rw [eb, ByteArray.size_extract]; omega
  have n0 := num58 (b.extract 0 (IntKind.i64.wrap ((b.size : Int) - 2)).toNat) 1 (by omega) (by omega)
  have n1 := num58 (b.extract 0 (IntKind.i64.wrap ((b.size : Int) - 2)).toNat) 3 (by omega) (by omega)
  have n2 := num58 (b.extract 0 (IntKind.i64.wrap ((b.size : Int) - 2)).toNat) 5 (by omega) (by omega)
  have n3 := num58 (b.extract 0 (IntKind.i64.wrap ((b.size : Int) - 2)).toNat) 7 (by omega) (by omega)
  have n4 := num58 (b.extract 0 (IntKind.i64.wrap ((b.size : Int) - 2)).toNat) 9 (by omega) (by omega)
  have n5 := num58 (b.extract 0 (IntKind.i64.wrap ((b.size : Int) - 2)).toNat) 11 (by omega) (by omega)
  have g0 := byte_get (b.extract 0 (IntKind.i64.wrap ((b.size : Int) - 2)).toNat) 0 (by omega)
  have v := valid23 (gS (b.extract 0 (IntKind.i64.wrap ((b.size : Int) - 2)).toNat) x1 x2 l1 l2 ((b.extract 0 (IntKind.i64.wrap ((b.size : Int) - 2)).toNat).extract p2 (b.extract 0 (IntKind.i64.wrap ((b.size : Int) - 2)).toNat).size))
  refine Wp.seq ?_
  refine Wp.text ?_
  refine WpOps.made 2 (Value.pointer (some (Addr.mk 0 0 none))) (Blk.mk 32 true [Value.slice none 0 0, Value.slice none 0 0, Value.int IntKind.i64 0, Value.int IntKind.i64 0, Value.int IntKind.i64 0, Value.int IntKind.i64 0, Value.int IntKind.i64 0, Value.bool false, Value.bool false, Value.bool false, Value.string (ByteArray.mk #[])]) (by kernel_rfl) (by kernel_rfl) (by kernel_rfl) ?_ (fun cf => (by kernel_rfl))
  refine WpOps.keep 3 (Value.int IntKind.i64 0) (by kernel_rfl) (by kernel_rfl) (by kernel_rfl) ?_ (fun cf => (by kernel_rfl))
  refine WpOps.nil ?_
  refine thenK_at ?_
  refine Wp.seq ?_
  refine Wp.seq ?_
  refine Wp.text ?_
  refine WpOps.keep 7 (Value.string b) (by kernel_rfl) (by kernel_rfl) (by kernel_rfl) ?_ (fun cf => (by kernel_rfl))
  refine WpOps.keep 8 (Value.int IntKind.i64 (↑(ByteArray.size b) : Int)) (by kernel_rfl) (by kernel_rfl) (by kernel_rfl) ?_ (fun cf => (by kernel_rfl))
  refine WpOps.keep 9 (Value.bool false) (by kernel_rfl) (by kernel_rfl) (by kernel_rfl) ?_ (fun cf => by_fact hc ((by kernel_rfl)))
  refine WpOps.nil ?_
  refine thenK_at ?_
  refine Wp.off (by kernel_rfl) ?_
  refine Wp.skip ?_
  refine thenK_at ?_
  refine Wp.seq ?_
  refine Wp.seq ?_
  refine Wp.region (by kernel_rfl) ?_
  refine WpOps.keep 11 (Value.string b) (by kernel_rfl) (by kernel_rfl) (by kernel_rfl) ?_ (fun cf => (by kernel_rfl))
  refine WpOps.keep 12 (Value.string b) (by kernel_rfl) (by kernel_rfl) (by kernel_rfl) ?_ (fun cf => (by kernel_rfl))
  refine WpOps.keep 13 (Value.int IntKind.i64 (↑(ByteArray.size b) : Int)) (by kernel_rfl) (by kernel_rfl) (by kernel_rfl) ?_ (fun cf => (by kernel_rfl))
  refine WpOps.keep 14 (Value.int IntKind.i64 (IntKind.wrap IntKind.i64 ((↑(ByteArray.size b) : Int) - 2))) (by kernel_rfl) (by kernel_rfl) (by kernel_rfl) ?_ (fun cf => (by kernel_rfl))
  refine WpOps.keep 15 (Value.string (ByteArray.extract b 0 (Int.toNat (IntKind.wrap IntKind.i64 ((↑(ByteArray.size b) : Int) - 2))))) (by kernel_rfl) (by kernel_rfl) (by kernel_rfl) ?_ (fun cf => o_cut_hi e1 (by kernel_rfl) (by kernel_rfl) (by kernel_rfl))
  refine WpOps.framed 16 54 [Value.string (ByteArray.extract b 0 (Int.toNat (IntKind.wrap IntKind.i64 ((↑(ByteArray.size b) : Int) - 2))))] (by kernel_rfl) (by kernel_rfl) (by kernel_rfl) (by kernel_rfl) (by kernel_rfl) (fun cf => (by kernel_rfl)) ?_
  refine WpFun.of (c) ?_
  refine WpOps.keep 17 (Value.string b) (by kernel_rfl) (by kernel_rfl) (by kernel_rfl) ?_ (fun cf => (by kernel_rfl))
  refine WpOps.keep 18 (Value.string b) (by kernel_rfl) (by kernel_rfl) (by kernel_rfl) ?_ (fun cf => (by kernel_rfl))
  refine WpOps.keep 19 (Value.int IntKind.i64 (↑(ByteArray.size b) : Int)) (by kernel_rfl) (by kernel_rfl) (by kernel_rfl) ?_ (fun cf => (by kernel_rfl))
  refine WpOps.keep 20 (Value.int IntKind.i64 (IntKind.wrap IntKind.i64 ((↑(ByteArray.size b) : Int) - 2))) (by kernel_rfl) (by kernel_rfl) (by kernel_rfl) ?_ (fun cf => (by kernel_rfl))
  refine WpOps.keep 21 (Value.string (ByteArray.extract b (Int.toNat (IntKind.wrap IntKind.i64 ((↑(ByteArray.size b) : Int) - 2))) (ByteArray.size b))) (by kernel_rfl) (by kernel_rfl) (by kernel_rfl) ?_ (fun cf => o_cut_lo e1 (by kernel_rfl) (by kernel_rfl) (by kernel_rfl))
  refine WpOps.keep 22 (Value.bool false) (by kernel_rfl) (by kernel_rfl) (by kernel_rfl) ?_ (fun cf => by_fact e2 ((by kernel_rfl)))
  refine WpOps.nil ?_
  refine thenK_at ?_
  refine Wp.off (by kernel_rfl) ?_
  refine Wp.skip ?_
  refine thenK_at ?_
  refine Wp.seq ?_
  refine Wp.text ?_
  refine WpOps.keep 24 (Value.string b) (by kernel_rfl) (by kernel_rfl) (by kernel_rfl) ?_ (fun cf => (by kernel_rfl))
  refine WpOps.keep 25 (Value.string b) (by kernel_rfl) (by kernel_rfl) (by kernel_rfl) ?_ (fun cf => (by kernel_rfl))
  refine WpOps.keep 26 (Value.int IntKind.i64 (↑(ByteArray.size b) : Int)) (by kernel_rfl) (by kernel_rfl) (by kernel_rfl) ?_ (fun cf => (by kernel_rfl))
  refine WpOps.keep 27 (Value.int IntKind.i64 (IntKind.wrap IntKind.i64 ((↑(ByteArray.size b) : Int) - 2))) (by kernel_rfl) (by kernel_rfl) (by kernel_rfl) ?_ (fun cf => (by kernel_rfl))
  refine WpOps.keep 28 (Value.string (ByteArray.extract b 0 (Int.toNat (IntKind.wrap IntKind.i64 ((↑(ByteArray.size b) : Int) - 2))))) (by kernel_rfl) (by kernel_rfl) (by kernel_rfl) ?_ (fun cf => o_cut_hi e1 (by kernel_rfl) (by kernel_rfl) (by kernel_rfl))
  refine WpOps.keep 0 (Value.string (ByteArray.extract b 0 (Int.toNat (IntKind.wrap IntKind.i64 ((↑(ByteArray.size b) : Int) - 2))))) (by kernel_rfl) (by kernel_rfl) (by kernel_rfl) ?_ (fun cf => (by kernel_rfl))
  refine WpOps.nil ?_
  refine thenK_at ?_
  refine Wp.seq ?_
  refine Wp.text ?_
  refine WpOps.keep 29 (Value.string (ByteArray.extract b 0 (Int.toNat (IntKind.wrap IntKind.i64 ((↑(ByteArray.size b) : Int) - 2))))) (by kernel_rfl) (by kernel_rfl) (by kernel_rfl) ?_ (fun cf => (by kernel_rfl))
  refine WpOps.framed 30 58 [Value.string (ByteArray.extract b 0 (Int.toNat (IntKind.wrap IntKind.i64 ((↑(ByteArray.size b) : Int) - 2)))), Value.int IntKind.i64 1] (by kernel_rfl) (by kernel_rfl) (by kernel_rfl) (by kernel_rfl) (by kernel_rfl) (fun cf => (by kernel_rfl)) ?_
  refine WpFun.of (n0) ?_
  refine WpOps.keep 31 (Value.string (ByteArray.extract b 0 (Int.toNat (IntKind.wrap IntKind.i64 ((↑(ByteArray.size b) : Int) - 2))))) (by kernel_rfl) (by kernel_rfl) (by kernel_rfl) ?_ (fun cf => (by kernel_rfl))
  refine WpOps.framed 32 58 [Value.string (ByteArray.extract b 0 (Int.toNat (IntKind.wrap IntKind.i64 ((↑(ByteArray.size b) : Int) - 2)))), Value.int IntKind.i64 3] (by kernel_rfl) (by kernel_rfl) (by kernel_rfl) (by kernel_rfl) (by kernel_rfl) (fun cf => (by kernel_rfl)) ?_
  refine WpFun.of (n1) ?_
  refine WpOps.keep 33 (Value.string (ByteArray.extract b 0 (Int.toNat (IntKind.wrap IntKind.i64 ((↑(ByteArray.size b) : Int) - 2))))) (by kernel_rfl) (by kernel_rfl) (by kernel_rfl) ?_ (fun cf => (by kernel_rfl))
  refine WpOps.framed 34 58 [Value.string (ByteArray.extract b 0 (Int.toNat (IntKind.wrap IntKind.i64 ((↑(ByteArray.size b) : Int) - 2)))), Value.int IntKind.i64 5] (by kernel_rfl) (by kernel_rfl) (by kernel_rfl) (by kernel_rfl) (by kernel_rfl) (fun cf => (by kernel_rfl)) ?_
  refine WpFun.of (n2) ?_
  refine WpOps.keep 35 (Value.string (ByteArray.extract b 0 (Int.toNat (IntKind.wrap IntKind.i64 ((↑(ByteArray.size b) : Int) - 2))))) (by kernel_rfl) (by kernel_rfl) (by kernel_rfl) ?_ (fun cf => (by kernel_rfl))
  refine WpOps.framed 36 58 [Value.string (ByteArray.extract b 0 (Int.toNat (IntKind.wrap IntKind.i64 ((↑(ByteArray.size b) : Int) - 2)))), Value.int IntKind.i64 7] (by kernel_rfl) (by kernel_rfl) (by kernel_rfl) (by kernel_rfl) (by kernel_rfl) (fun cf => (by kernel_rfl)) ?_
  refine WpFun.of (n3) ?_
  refine WpOps.keep 37 (Value.string (ByteArray.extract b 0 (Int.toNat (IntKind.wrap IntKind.i64 ((↑(ByteArray.size b) : Int) - 2))))) (by kernel_rfl) (by kernel_rfl) (by kernel_rfl) ?_ (fun cf => (by kernel_rfl))
  refine WpOps.framed 38 58 [Value.string (ByteArray.extract b 0 (Int.toNat (IntKind.wrap IntKind.i64 ((↑(ByteArray.size b) : Int) - 2)))), Value.int IntKind.i64 9] (by kernel_rfl) (by kernel_rfl) (by kernel_rfl) (by kernel_rfl) (by kernel_rfl) (fun cf => (by kernel_rfl)) ?_
  refine WpFun.of (n4) ?_
  refine WpOps.keep 39 (Value.agg #[Value.slice none 0 0, Value.slice none 0 0, Value.int IntKind.i64 (num (ByteArray.extract b 0 (Int.toNat (IntKind.wrap IntKind.i64 ((↑(ByteArray.size b) : Int) - 2)))) 1), Value.int IntKind.i64 (num (ByteArray.extract b 0 (Int.toNat (IntKind.wrap IntKind.i64 ((↑(ByteArray.size b) : Int) - 2)))) 3), Value.int IntKind.i64 (num (ByteArray.extract b 0 (Int.toNat (IntKind.wrap IntKind.i64 ((↑(ByteArray.size b) : Int) - 2)))) 5), Value.int IntKind.i64 (num (ByteArray.extract b 0 (Int.toNat (IntKind.wrap IntKind.i64 ((↑(ByteArray.size b) : Int) - 2)))) 7), Value.int IntKind.i64 (num (ByteArray.extract b 0 (Int.toNat (IntKind.wrap IntKind.i64 ((↑(ByteArray.size b) : Int) - 2)))) 9), Value.bool false, Value.bool false, Value.bool false, Value.string (ByteArray.mk #[])]) (by kernel_rfl) (by kernel_rfl) (by kernel_rfl) ?_ (fun cf => (by kernel_rfl))
  refine WpOps.made 4 (Value.pointer (some (Addr.mk 1 0 none))) (Blk.mk 32 true [Value.slice none 0 0, Value.slice none 0 0, Value.int IntKind.i64 0, Value.int IntKind.i64 0, Value.int IntKind.i64 0, Value.int IntKind.i64 0, Value.int IntKind.i64 0, Value.bool false, Value.bool false, Value.bool false, Value.string (ByteArray.mk #[])]) (by kernel_rfl) (by kernel_rfl) (by kernel_rfl) ?_ (fun cf => (by kernel_rfl))
  refine WpOps.laid (Value.tuple #[]) (1) (Blk.mk 32 true [Value.slice none 0 0, Value.slice none 0 0, Value.int IntKind.i64 (num (ByteArray.extract b 0 (Int.toNat (IntKind.wrap IntKind.i64 ((↑(ByteArray.size b) : Int) - 2)))) 1), Value.int IntKind.i64 (num (ByteArray.extract b 0 (Int.toNat (IntKind.wrap IntKind.i64 ((↑(ByteArray.size b) : Int) - 2)))) 3), Value.int IntKind.i64 (num (ByteArray.extract b 0 (Int.toNat (IntKind.wrap IntKind.i64 ((↑(ByteArray.size b) : Int) - 2)))) 5), Value.int IntKind.i64 (num (ByteArray.extract b 0 (Int.toNat (IntKind.wrap IntKind.i64 ((↑(ByteArray.size b) : Int) - 2)))) 7), Value.int IntKind.i64 (num (ByteArray.extract b 0 (Int.toNat (IntKind.wrap IntKind.i64 ((↑(ByteArray.size b) : Int) - 2)))) 9), Value.bool false, Value.bool false, Value.bool false, Value.string (ByteArray.mk #[])]) (by kernel_rfl) (by kernel_rfl) (by kernel_rfl) ?_ (fun cf => (by kernel_rfl))
  refine WpOps.nil ?_
  refine thenK_at ?_
  refine Wp.seq ?_
  refine Wp.text ?_
  refine WpOps.keep 40 (Value.string (ByteArray.extract b 0 (Int.toNat (IntKind.wrap IntKind.i64 ((↑(ByteArray.size b) : Int) - 2))))) (by kernel_rfl) (by kernel_rfl) (by kernel_rfl) ?_ (fun cf => (by kernel_rfl))
  refine WpOps.framed 41 58 [Value.string (ByteArray.extract b 0 (Int.toNat (IntKind.wrap IntKind.i64 ((↑(ByteArray.size b) : Int) - 2)))), Value.int IntKind.i64 11] (by kernel_rfl) (by kernel_rfl) (by kernel_rfl) (by kernel_rfl) (by kernel_rfl) (fun cf => (by kernel_rfl)) ?_
  refine WpFun.of (n5) ?_
  refine WpOps.keep 5 (Value.int IntKind.i64 (num (ByteArray.extract b 0 (Int.toNat (IntKind.wrap IntKind.i64 ((↑(ByteArray.size b) : Int) - 2)))) 11)) (by kernel_rfl) (by kernel_rfl) (by kernel_rfl) ?_ (fun cf => (by kernel_rfl))
  refine WpOps.nil ?_
  refine thenK_at ?_
  refine Wp.seq ?_
  refine Wp.text ?_
  refine WpOps.keep 42 (Value.int IntKind.i64 (num (ByteArray.extract b 0 (Int.toNat (IntKind.wrap IntKind.i64 ((↑(ByteArray.size b) : Int) - 2)))) 11)) (by kernel_rfl) (by kernel_rfl) (by kernel_rfl) ?_ (fun cf => (by kernel_rfl))
  refine WpOps.keep 43 (Value.int IntKind.i64 (Int.tmod (num (ByteArray.extract b 0 (Int.toNat (IntKind.wrap IntKind.i64 ((↑(ByteArray.size b) : Int) - 2)))) 11) 2)) (by kernel_rfl) (by kernel_rfl) (by kernel_rfl) ?_ (fun cf => (by kernel_rfl))
  refine WpOps.keep 44 (Value.bool (Int.tmod (num (ByteArray.extract b 0 (Int.toNat (IntKind.wrap IntKind.i64 ((↑(ByteArray.size b) : Int) - 2)))) 11) 2 == 1)) (by kernel_rfl) (by kernel_rfl) (by kernel_rfl) ?_ (fun cf => (by kernel_rfl))
  refine WpOps.keep 45 (Value.pointer (some (Addr.mk 1 7 none))) (by kernel_rfl) (by kernel_rfl) (by kernel_rfl) ?_ (fun cf => (by kernel_rfl))
  refine WpOps.laid (Value.tuple #[]) (1) (Blk.mk 32 true [Value.slice none 0 0, Value.slice none 0 0, Value.int IntKind.i64 (num (ByteArray.extract b 0 (Int.toNat (IntKind.wrap IntKind.i64 ((↑(ByteArray.size b) : Int) - 2)))) 1), Value.int IntKind.i64 (num (ByteArray.extract b 0 (Int.toNat (IntKind.wrap IntKind.i64 ((↑(ByteArray.size b) : Int) - 2)))) 3), Value.int IntKind.i64 (num (ByteArray.extract b 0 (Int.toNat (IntKind.wrap IntKind.i64 ((↑(ByteArray.size b) : Int) - 2)))) 5), Value.int IntKind.i64 (num (ByteArray.extract b 0 (Int.toNat (IntKind.wrap IntKind.i64 ((↑(ByteArray.size b) : Int) - 2)))) 7), Value.int IntKind.i64 (num (ByteArray.extract b 0 (Int.toNat (IntKind.wrap IntKind.i64 ((↑(ByteArray.size b) : Int) - 2)))) 9), Value.bool (Int.tmod (num (ByteArray.extract b 0 (Int.toNat (IntKind.wrap IntKind.i64 ((↑(ByteArray.size b) : Int) - 2)))) 11) 2 == 1), Value.bool false, Value.bool false, Value.string (ByteArray.mk #[])]) (by kernel_rfl) (by kernel_rfl) (by kernel_rfl) ?_ (fun cf => (by kernel_rfl))
  refine WpOps.nil ?_
  refine thenK_at ?_
  refine Wp.seq ?_
  refine Wp.text ?_
  refine WpOps.keep 46 (Value.int IntKind.i64 (num (ByteArray.extract b 0 (Int.toNat (IntKind.wrap IntKind.i64 ((↑(ByteArray.size b) : Int) - 2)))) 11)) (by kernel_rfl) (by kernel_rfl) (by kernel_rfl) ?_ (fun cf => (by kernel_rfl))
  refine WpOps.keep 47 (Value.int IntKind.i64 (IntKind.wrap IntKind.i64 (Int.tdiv (num (ByteArray.extract b 0 (Int.toNat (IntKind.wrap IntKind.i64 ((↑(ByteArray.size b) : Int) - 2)))) 11) 2))) (by kernel_rfl) (by kernel_rfl) (by kernel_rfl) ?_ (fun cf => (by kernel_rfl))
  refine WpOps.keep 48 (Value.int IntKind.i64 (Int.tmod (IntKind.wrap IntKind.i64 (Int.tdiv (num (ByteArray.extract b 0 (Int.toNat (IntKind.wrap IntKind.i64 ((↑(ByteArray.size b) : Int) - 2)))) 11) 2)) 2)) (by kernel_rfl) (by kernel_rfl) (by kernel_rfl) ?_ (fun cf => (by kernel_rfl))
  refine WpOps.keep 49 (Value.bool (Int.tmod (IntKind.wrap IntKind.i64 (Int.tdiv (num (ByteArray.extract b 0 (Int.toNat (IntKind.wrap IntKind.i64 ((↑(ByteArray.size b) : Int) - 2)))) 11) 2)) 2 == 1)) (by kernel_rfl) (by kernel_rfl) (by kernel_rfl) ?_ (fun cf => (by kernel_rfl))
  refine WpOps.keep 50 (Value.pointer (some (Addr.mk 1 8 none))) (by kernel_rfl) (by kernel_rfl) (by kernel_rfl) ?_ (fun cf => (by kernel_rfl))
  refine WpOps.laid (Value.tuple #[]) (1) (Blk.mk 32 true [Value.slice none 0 0, Value.slice none 0 0, Value.int IntKind.i64 (num (ByteArray.extract b 0 (Int.toNat (IntKind.wrap IntKind.i64 ((↑(ByteArray.size b) : Int) - 2)))) 1), Value.int IntKind.i64 (num (ByteArray.extract b 0 (Int.toNat (IntKind.wrap IntKind.i64 ((↑(ByteArray.size b) : Int) - 2)))) 3), Value.int IntKind.i64 (num (ByteArray.extract b 0 (Int.toNat (IntKind.wrap IntKind.i64 ((↑(ByteArray.size b) : Int) - 2)))) 5), Value.int IntKind.i64 (num (ByteArray.extract b 0 (Int.toNat (IntKind.wrap IntKind.i64 ((↑(ByteArray.size b) : Int) - 2)))) 7), Value.int IntKind.i64 (num (ByteArray.extract b 0 (Int.toNat (IntKind.wrap IntKind.i64 ((↑(ByteArray.size b) : Int) - 2)))) 9), Value.bool (Int.tmod (num (ByteArray.extract b 0 (Int.toNat (IntKind.wrap IntKind.i64 ((↑(ByteArray.size b) : Int) - 2)))) 11) 2 == 1), Value.bool (Int.tmod (IntKind.wrap IntKind.i64 (Int.tdiv (num (ByteArray.extract b 0 (Int.toNat (IntKind.wrap IntKind.i64 ((↑(ByteArray.size b) : Int) - 2)))) 11) 2)) 2 == 1), Value.bool false, Value.string (ByteArray.mk #[])]) (by kernel_rfl) (by kernel_rfl) (by kernel_rfl) ?_ (fun cf => (by kernel_rfl))
  refine WpOps.nil ?_
  refine thenK_at ?_
  refine Wp.seq ?_
  refine Wp.text ?_
  refine WpOps.keep 51 (Value.int IntKind.i64 (num (ByteArray.extract b 0 (Int.toNat (IntKind.wrap IntKind.i64 ((↑(ByteArray.size b) : Int) - 2)))) 11)) (by kernel_rfl) (by kernel_rfl) (by kernel_rfl) ?_ (fun cf => (by kernel_rfl))
  refine WpOps.keep 52 (Value.int IntKind.i64 (IntKind.wrap IntKind.i64 (Int.tdiv (num (ByteArray.extract b 0 (Int.toNat (IntKind.wrap IntKind.i64 ((↑(ByteArray.size b) : Int) - 2)))) 11) 4))) (by kernel_rfl) (by kernel_rfl) (by kernel_rfl) ?_ (fun cf => (by kernel_rfl))
  refine WpOps.keep 53 (Value.int IntKind.i64 (Int.tmod (IntKind.wrap IntKind.i64 (Int.tdiv (num (ByteArray.extract b 0 (Int.toNat (IntKind.wrap IntKind.i64 ((↑(ByteArray.size b) : Int) - 2)))) 11) 4)) 2)) (by kernel_rfl) (by kernel_rfl) (by kernel_rfl) ?_ (fun cf => (by kernel_rfl))
  refine WpOps.keep 54 (Value.bool (Int.tmod (IntKind.wrap IntKind.i64 (Int.tdiv (num (ByteArray.extract b 0 (Int.toNat (IntKind.wrap IntKind.i64 ((↑(ByteArray.size b) : Int) - 2)))) 11) 4)) 2 == 1)) (by kernel_rfl) (by kernel_rfl) (by kernel_rfl) ?_ (fun cf => (by kernel_rfl))
  refine WpOps.keep 55 (Value.pointer (some (Addr.mk 1 9 none))) (by kernel_rfl) (by kernel_rfl) (by kernel_rfl) ?_ (fun cf => (by kernel_rfl))
  refine WpOps.laid (Value.tuple #[]) (1) (Blk.mk 32 true [Value.slice none 0 0, Value.slice none 0 0, Value.int IntKind.i64 (num (ByteArray.extract b 0 (Int.toNat (IntKind.wrap IntKind.i64 ((↑(ByteArray.size b) : Int) - 2)))) 1), Value.int IntKind.i64 (num (ByteArray.extract b 0 (Int.toNat (IntKind.wrap IntKind.i64 ((↑(ByteArray.size b) : Int) - 2)))) 3), Value.int IntKind.i64 (num (ByteArray.extract b 0 (Int.toNat (IntKind.wrap IntKind.i64 ((↑(ByteArray.size b) : Int) - 2)))) 5), Value.int IntKind.i64 (num (ByteArray.extract b 0 (Int.toNat (IntKind.wrap IntKind.i64 ((↑(ByteArray.size b) : Int) - 2)))) 7), Value.int IntKind.i64 (num (ByteArray.extract b 0 (Int.toNat (IntKind.wrap IntKind.i64 ((↑(ByteArray.size b) : Int) - 2)))) 9), Value.bool (Int.tmod (num (ByteArray.extract b 0 (Int.toNat (IntKind.wrap IntKind.i64 ((↑(ByteArray.size b) : Int) - 2)))) 11) 2 == 1), Value.bool (Int.tmod (IntKind.wrap IntKind.i64 (Int.tdiv (num (ByteArray.extract b 0 (Int.toNat (IntKind.wrap IntKind.i64 ((↑(ByteArray.size b) : Int) - 2)))) 11) 2)) 2 == 1), Value.bool (Int.tmod (IntKind.wrap IntKind.i64 (Int.tdiv (num (ByteArray.extract b 0 (Int.toNat (IntKind.wrap IntKind.i64 ((↑(ByteArray.size b) : Int) - 2)))) 11) 4)) 2 == 1), Value.string (ByteArray.mk #[])]) (by kernel_rfl) (by kernel_rfl) (by kernel_rfl) ?_ (fun cf => (by kernel_rfl))
  refine WpOps.nil ?_
  refine thenK_at ?_
  refine Wp.seq ?_
  refine Wp.text ?_
  refine WpOps.keep 6 (Value.int IntKind.i64 13) (by kernel_rfl) (by kernel_rfl) (by kernel_rfl) ?_ (fun cf => (by kernel_rfl))
  refine WpOps.nil ?_
  refine thenK_at ?_
  refine Wp.seq ?_
  refine Wp.text ?_
  refine WpOps.keep 57 (Value.string (ByteArray.extract b 0 (Int.toNat (IntKind.wrap IntKind.i64 ((↑(ByteArray.size b) : Int) - 2))))) (by kernel_rfl) (by kernel_rfl) (by kernel_rfl) ?_ (fun cf => (by kernel_rfl))
  refine WpOps.keep 58 (Value.int IntKind.i64 13) (by kernel_rfl) (by kernel_rfl) (by kernel_rfl) ?_ (fun cf => (by kernel_rfl))
  refine WpOps.framed 59 59 [Value.string (ByteArray.extract b 0 (Int.toNat (IntKind.wrap IntKind.i64 ((↑(ByteArray.size b) : Int) - 2)))), Value.int IntKind.i64 13] (by kernel_rfl) (by kernel_rfl) (by kernel_rfl) (by kernel_rfl) (by kernel_rfl) (fun cf => (by kernel_rfl)) ?_
  refine WpFun.of (c1) ?_
  refine WpOps.keep 56 (Value.tuple #[sl x1 l1, Value.int IntKind.i64 p1]) (by kernel_rfl) (by kernel_rfl) (by kernel_rfl) ?_ (fun cf => (by kernel_rfl))
  refine WpOps.keep 60 (Value.iface 3 (Value.iface (List.length l1) (Value.iface x1 (Value.agg (List.toArray (List.map (fun n => Value.int IntKind.i64 n) l1)))))) (by kernel_rfl) (by kernel_rfl) (by kernel_rfl) ?_ (fun cf => (by kernel_rfl))
  refine WpOps.keep 61 (Value.int IntKind.i64 p1) (by kernel_rfl) (by kernel_rfl) (by kernel_rfl) ?_ (fun cf => (by kernel_rfl))
  refine WpOps.keep 62 (Value.pointer (some (Addr.mk 1 0 none))) (by kernel_rfl) (by kernel_rfl) (by kernel_rfl) ?_ (fun cf => (by kernel_rfl))
  refine WpOps.laid (Value.tuple #[]) (1) (Blk.mk 32 true [Value.iface 3 (Value.iface (List.length l1) (Value.iface x1 (Value.agg (List.toArray (List.map (fun n => Value.int IntKind.i64 n) l1))))), Value.slice none 0 0, Value.int IntKind.i64 (num (ByteArray.extract b 0 (Int.toNat (IntKind.wrap IntKind.i64 ((↑(ByteArray.size b) : Int) - 2)))) 1), Value.int IntKind.i64 (num (ByteArray.extract b 0 (Int.toNat (IntKind.wrap IntKind.i64 ((↑(ByteArray.size b) : Int) - 2)))) 3), Value.int IntKind.i64 (num (ByteArray.extract b 0 (Int.toNat (IntKind.wrap IntKind.i64 ((↑(ByteArray.size b) : Int) - 2)))) 5), Value.int IntKind.i64 (num (ByteArray.extract b 0 (Int.toNat (IntKind.wrap IntKind.i64 ((↑(ByteArray.size b) : Int) - 2)))) 7), Value.int IntKind.i64 (num (ByteArray.extract b 0 (Int.toNat (IntKind.wrap IntKind.i64 ((↑(ByteArray.size b) : Int) - 2)))) 9), Value.bool (Int.tmod (num (ByteArray.extract b 0 (Int.toNat (IntKind.wrap IntKind.i64 ((↑(ByteArray.size b) : Int) - 2)))) 11) 2 == 1), Value.bool (Int.tmod (IntKind.wrap IntKind.i64 (Int.tdiv (num (ByteArray.extract b 0 (Int.toNat (IntKind.wrap IntKind.i64 ((↑(ByteArray.size b) : Int) - 2)))) 11) 2)) 2 == 1), Value.bool (Int.tmod (IntKind.wrap IntKind.i64 (Int.tdiv (num (ByteArray.extract b 0 (Int.toNat (IntKind.wrap IntKind.i64 ((↑(ByteArray.size b) : Int) - 2)))) 11) 4)) 2 == 1), Value.string (ByteArray.mk #[])]) (by kernel_rfl) (by kernel_rfl) (by kernel_rfl) ?_ (fun cf => (by kernel_rfl))
  refine WpOps.keep 6 (Value.int IntKind.i64 p1) (by kernel_rfl) (by kernel_rfl) (by kernel_rfl) ?_ (fun cf => (by kernel_rfl))
  refine WpOps.nil ?_
  refine thenK_at ?_
  refine Wp.seq ?_
  refine Wp.text ?_
  refine WpOps.keep 64 (Value.string (ByteArray.extract b 0 (Int.toNat (IntKind.wrap IntKind.i64 ((↑(ByteArray.size b) : Int) - 2))))) (by kernel_rfl) (by kernel_rfl) (by kernel_rfl) ?_ (fun cf => (by kernel_rfl))
  refine WpOps.keep 65 (Value.int IntKind.i64 p1) (by kernel_rfl) (by kernel_rfl) (by kernel_rfl) ?_ (fun cf => (by kernel_rfl))
  refine WpOps.framed 66 59 [Value.string (ByteArray.extract b 0 (Int.toNat (IntKind.wrap IntKind.i64 ((↑(ByteArray.size b) : Int) - 2)))), Value.int IntKind.i64 p1] (by kernel_rfl) (by kernel_rfl) (by kernel_rfl) (by kernel_rfl) (by kernel_rfl) (fun cf => (by kernel_rfl)) ?_
  refine WpFun.of (c2) ?_
  refine WpOps.keep 63 (Value.tuple #[sl x2 l2, Value.int IntKind.i64 (↑p2 : Int)]) (by kernel_rfl) (by kernel_rfl) (by kernel_rfl) ?_ (fun cf => (by kernel_rfl))
  refine WpOps.keep 67 (Value.iface 3 (Value.iface (List.length l2) (Value.iface x2 (Value.agg (List.toArray (List.map (fun n => Value.int IntKind.i64 n) l2)))))) (by kernel_rfl) (by kernel_rfl) (by kernel_rfl) ?_ (fun cf => (by kernel_rfl))
  refine WpOps.keep 68 (Value.int IntKind.i64 (↑p2 : Int)) (by kernel_rfl) (by kernel_rfl) (by kernel_rfl) ?_ (fun cf => (by kernel_rfl))
  refine WpOps.keep 69 (Value.pointer (some (Addr.mk 1 1 none))) (by kernel_rfl) (by kernel_rfl) (by kernel_rfl) ?_ (fun cf => (by kernel_rfl))
  refine WpOps.laid (Value.tuple #[]) (1) (Blk.mk 32 true [Value.iface 3 (Value.iface (List.length l1) (Value.iface x1 (Value.agg (List.toArray (List.map (fun n => Value.int IntKind.i64 n) l1))))), Value.iface 3 (Value.iface (List.length l2) (Value.iface x2 (Value.agg (List.toArray (List.map (fun n => Value.int IntKind.i64 n) l2))))), Value.int IntKind.i64 (num (ByteArray.extract b 0 (Int.toNat (IntKind.wrap IntKind.i64 ((↑(ByteArray.size b) : Int) - 2)))) 1), Value.int IntKind.i64 (num (ByteArray.extract b 0 (Int.toNat (IntKind.wrap IntKind.i64 ((↑(ByteArray.size b) : Int) - 2)))) 3), Value.int IntKind.i64 (num (ByteArray.extract b 0 (Int.toNat (IntKind.wrap IntKind.i64 ((↑(ByteArray.size b) : Int) - 2)))) 5), Value.int IntKind.i64 (num (ByteArray.extract b 0 (Int.toNat (IntKind.wrap IntKind.i64 ((↑(ByteArray.size b) : Int) - 2)))) 7), Value.int IntKind.i64 (num (ByteArray.extract b 0 (Int.toNat (IntKind.wrap IntKind.i64 ((↑(ByteArray.size b) : Int) - 2)))) 9), Value.bool (Int.tmod (num (ByteArray.extract b 0 (Int.toNat (IntKind.wrap IntKind.i64 ((↑(ByteArray.size b) : Int) - 2)))) 11) 2 == 1), Value.bool (Int.tmod (IntKind.wrap IntKind.i64 (Int.tdiv (num (ByteArray.extract b 0 (Int.toNat (IntKind.wrap IntKind.i64 ((↑(ByteArray.size b) : Int) - 2)))) 11) 2)) 2 == 1), Value.bool (Int.tmod (IntKind.wrap IntKind.i64 (Int.tdiv (num (ByteArray.extract b 0 (Int.toNat (IntKind.wrap IntKind.i64 ((↑(ByteArray.size b) : Int) - 2)))) 11) 4)) 2 == 1), Value.string (ByteArray.mk #[])]) (by kernel_rfl) (by kernel_rfl) (by kernel_rfl) ?_ (fun cf => (by kernel_rfl))
  refine WpOps.keep 6 (Value.int IntKind.i64 (↑p2 : Int)) (by kernel_rfl) (by kernel_rfl) (by kernel_rfl) ?_ (fun cf => (by kernel_rfl))
  refine WpOps.nil ?_
  refine thenK_at ?_
  refine Wp.seq ?_
  refine Wp.seq ?_
  refine Wp.text ?_
  refine WpOps.keep 70 (Value.string (ByteArray.extract b 0 (Int.toNat (IntKind.wrap IntKind.i64 ((↑(ByteArray.size b) : Int) - 2))))) (by kernel_rfl) (by kernel_rfl) (by kernel_rfl) ?_ (fun cf => (by kernel_rfl))
  refine WpOps.keep 71 (Value.int IntKind.u8 (↑(UInt8.toNat (byteAt (ByteArray.extract b 0 (Int.toNat (IntKind.wrap IntKind.i64 ((↑(ByteArray.size b) : Int) - 2)))) 0)) : Int)) (by kernel_rfl) (by kernel_rfl) (by kernel_rfl) ?_ (fun cf => o_indexStr (of_decide_eq_true (by kernel_rfl)) g0 (by kernel_rfl) (by kernel_rfl) (by kernel_rfl))
  refine WpOps.keep 72 (Value.bool ((↑(UInt8.toNat (byteAt (ByteArray.extract b 0 (Int.toNat (IntKind.wrap IntKind.i64 ((↑(ByteArray.size b) : Int) - 2)))) 0)) : Int) != 71)) (by kernel_rfl) (by kernel_rfl) (by kernel_rfl) ?_ (fun cf => (by kernel_rfl))
  refine WpOps.keep 73 (Value.bool ((↑(UInt8.toNat (byteAt (ByteArray.extract b 0 (Int.toNat (IntKind.wrap IntKind.i64 ((↑(ByteArray.size b) : Int) - 2)))) 0)) : Int) != 71)) (by kernel_rfl) (by kernel_rfl) (by kernel_rfl) ?_ (fun cf => (by kernel_rfl))
  refine WpOps.fork 5 ((↑(UInt8.toNat (byteAt (ByteArray.extract b 0 (Int.toNat (IntKind.wrap IntKind.i64 ((↑(ByteArray.size b) : Int) - 2)))) 0)) : Int) != 71) [74, 75, 76, 77, 78] 78 (true) (decide ((↑p2 : Int) > (↑(ByteArray.size (ByteArray.extract b 0 (Int.toNat (IntKind.wrap IntKind.i64 ((↑(ByteArray.size b) : Int) - 2))))) : Int))) (by kernel_rfl) (fun g78 => ?_) (fun g78 => ?_) (fun f_78 b78 hb78 => ?_)
  · refine WpOps.unmet 74 (by kernel_rfl) (by kernel_rfl) (wants_tf g78 (by kernel_rfl)) ?_
    refine WpOps.unmet 75 (by kernel_rfl) (by kernel_rfl) (wants_tf g78 (by kernel_rfl)) ?_
    refine WpOps.unmet 76 (by kernel_rfl) (by kernel_rfl) (wants_tf g78 (by kernel_rfl)) ?_
    refine WpOps.unmet 77 (by kernel_rfl) (by kernel_rfl) (wants_tf g78 (by kernel_rfl)) ?_
    refine WpOps.keep 78 (Value.bool true) (by kernel_rfl) (by kernel_rfl) (by kernel_rfl) ?_ (fun cf => o_pickT g78 (by kernel_rfl) (by kernel_rfl))
    refine WpOps.nil ?_
    exact ⟨rfl, (.upd rfl (.upd rfl (.upd rfl (.upd rfl (.upd rfl .refl))))), (by kernel_rfl)⟩
  · refine WpOps.keep 74 (Value.int IntKind.i64 (↑p2 : Int)) (by kernel_rfl) (by kernel_rfl) (wants_ff g78 (by kernel_rfl)) ?_ (fun cf => (by kernel_rfl))
    refine WpOps.keep 75 (Value.string (ByteArray.extract b 0 (Int.toNat (IntKind.wrap IntKind.i64 ((↑(ByteArray.size b) : Int) - 2))))) (by kernel_rfl) (by kernel_rfl) (wants_ff g78 (by kernel_rfl)) ?_ (fun cf => (by kernel_rfl))
    refine WpOps.keep 76 (Value.int IntKind.i64 (↑(ByteArray.size (ByteArray.extract b 0 (Int.toNat (IntKind.wrap IntKind.i64 ((↑(ByteArray.size b) : Int) - 2))))) : Int)) (by kernel_rfl) (by kernel_rfl) (wants_ff g78 (by kernel_rfl)) ?_ (fun cf => (by kernel_rfl))
    refine WpOps.keep 77 (Value.bool (decide ((↑p2 : Int) > (↑(ByteArray.size (ByteArray.extract b 0 (Int.toNat (IntKind.wrap IntKind.i64 ((↑(ByteArray.size b) : Int) - 2))))) : Int)))) (by kernel_rfl) (by kernel_rfl) (wants_ff g78 (by kernel_rfl)) ?_ (fun cf => (by kernel_rfl))
    refine WpOps.keep 78 (Value.bool (decide ((↑p2 : Int) > (↑(ByteArray.size (ByteArray.extract b 0 (Int.toNat (IntKind.wrap IntKind.i64 ((↑(ByteArray.size b) : Int) - 2))))) : Int)))) (by kernel_rfl) (by kernel_rfl) (by kernel_rfl) ?_ (fun cf => o_pickF g78 (by kernel_rfl) (by kernel_rfl))
    refine WpOps.nil ?_
    exact ⟨rfl, (.upd rfl (.upd rfl (.upd rfl (.upd rfl (.upd rfl .refl))))), (by kernel_rfl)⟩
  refine WpOps.keep 79 (Value.bool b78) (by kernel_rfl) (by kernel_rfl) (by kernel_rfl) ?_ (fun cf => (by kernel_rfl))
  refine WpOps.fork 3 (b78) [80, 81, 82] 82 (true) (decide (num (ByteArray.extract b 0 (Int.toNat (IntKind.wrap IntKind.i64 ((↑(ByteArray.size b) : Int) - 2)))) 11 > 7)) (by kernel_rfl) (fun g82 => ?_) (fun g82 => ?_) (fun f_82 b82 hb82 => ?_)
  · refine WpOps.unmet 80 (by kernel_rfl) (by kernel_rfl) (wants_tf g82 (by kernel_rfl)) ?_
    refine WpOps.unmet 81 (by kernel_rfl) (by kernel_rfl) (wants_tf g82 (by kernel_rfl)) ?_
    refine WpOps.keep 82 (Value.bool true) (by kernel_rfl) (by kernel_rfl) (by kernel_rfl) ?_ (fun cf => o_pickT g82 (by kernel_rfl) (by kernel_rfl))
    refine WpOps.nil ?_
    exact ⟨rfl, (.upd rfl (.upd rfl (.upd rfl .refl))), (by kernel_rfl)⟩
  · refine WpOps.keep 80 (Value.int IntKind.i64 (num (ByteArray.extract b 0 (Int.toNat (IntKind.wrap IntKind.i64 ((↑(ByteArray.size b) : Int) - 2)))) 11)) (by kernel_rfl) (by kernel_rfl) (wants_ff g82 (by kernel_rfl)) ?_ (fun cf => (by kernel_rfl))
    refine WpOps.keep 81 (Value.bool (decide (num (ByteArray.extract b 0 (Int.toNat (IntKind.wrap IntKind.i64 ((↑(ByteArray.size b) : Int) - 2)))) 11 > 7))) (by kernel_rfl) (by kernel_rfl) (wants_ff g82 (by kernel_rfl)) ?_ (fun cf => (by kernel_rfl))
    refine WpOps.keep 82 (Value.bool (decide (num (ByteArray.extract b 0 (Int.toNat (IntKind.wrap IntKind.i64 ((↑(ByteArray.size b) : Int) - 2)))) 11 > 7))) (by kernel_rfl) (by kernel_rfl) (by kernel_rfl) ?_ (fun cf => o_pickF g82 (by kernel_rfl) (by kernel_rfl))
    refine WpOps.nil ?_
    exact ⟨rfl, (.upd rfl (.upd rfl (.upd rfl .refl))), (by kernel_rfl)⟩
  refine WpOps.nil ?_
  refine thenK_at ?_
  refine Wp.split (b82) (by kernel_rfl) (fun hx => ?_) (fun hx => ?_)
  · refine Wp.seq ?_
    refine Wp.text ?_
    refine WpOps.keep 83 (Value.agg #[Value.slice none 0 0, Value.slice none 0 0, Value.int IntKind.i64 0, Value.int IntKind.i64 0, Value.int IntKind.i64 0, Value.int IntKind.i64 0, Value.int IntKind.i64 0, Value.bool false, Value.bool false, Value.bool false, Value.string (ByteArray.mk #[])]) (by kernel_rfl) (by kernel_rfl) (by kernel_rfl) ?_ (fun cf => (by kernel_rfl))
    refine WpOps.laid (Value.tuple #[]) (0) (Blk.mk 32 true [Value.slice none 0 0, Value.slice none 0 0, Value.int IntKind.i64 0, Value.int IntKind.i64 0, Value.int IntKind.i64 0, Value.int IntKind.i64 0, Value.int IntKind.i64 0, Value.bool false, Value.bool false, Value.bool false, Value.string (ByteArray.mk #[])]) (by kernel_rfl) (by kernel_rfl) (by kernel_rfl) ?_ (fun cf => (by kernel_rfl))
    refine WpOps.keep 3 (Value.int IntKind.i64 4) (by kernel_rfl) (by kernel_rfl) (by kernel_rfl) ?_ (fun cf => (by kernel_rfl))
    refine WpOps.nil ?_
    refine thenK_at ?_
    refine Wp.ret ?_
    refine thenK_ret ?_
    refine endK_retn [Value.agg #[Value.slice none 0 0, Value.slice none 0 0, Value.int IntKind.i64 0, Value.int IntKind.i64 0, Value.int IntKind.i64 0, Value.int IntKind.i64 0, Value.int IntKind.i64 0, Value.bool false, Value.bool false, Value.bool false, Value.string (ByteArray.mk #[])], Value.int IntKind.i64 4] (Value.tuple #[Value.agg #[Value.slice none 0 0, Value.slice none 0 0, Value.int IntKind.i64 0, Value.int IntKind.i64 0, Value.int IntKind.i64 0, Value.int IntKind.i64 0, Value.int IntKind.i64 0, Value.bool false, Value.bool false, Value.bool false, Value.string (ByteArray.mk #[])], Value.int IntKind.i64 4]) (by kernel_rfl) (by kernel_rfl) ?_
    rw [hb82, hb78, pre_eq, Bool.not_eq_true'] at hx
    rw [if_neg (by rw [hx]; rintro ⟨h, _⟩; cases h)]
    exact zero_pair _ _
  · rw [hb82, hb78, pre_eq, Bool.not_eq_false'] at hx
    have hp : 0 ≤ (p2 : Int) ∧ (p2 : Int) ≤ ((b.extract 0 (IntKind.i64.wrap ((b.size : Int) - 2)).toNat).size : Int) := by
      simp only [pre, Bool.and_eq_true, decide_eq_true_eq] at hx
      omega
    refine Wp.skip ?_
    refine thenK_at ?_
    refine Wp.seq ?_
    refine Wp.text ?_
    refine WpOps.keep 84 (Value.string (ByteArray.extract b 0 (Int.toNat (IntKind.wrap IntKind.i64 ((↑(ByteArray.size b) : Int) - 2))))) (by kernel_rfl) (by kernel_rfl) (by kernel_rfl) ?_ (fun cf => (by kernel_rfl))
    refine WpOps.keep 85 (Value.int IntKind.i64 (↑p2 : Int)) (by kernel_rfl) (by kernel_rfl) (by kernel_rfl) ?_ (fun cf => (by kernel_rfl))
    refine WpOps.keep 86 (Value.string (ByteArray.extract (ByteArray.extract b 0 (Int.toNat (IntKind.wrap IntKind.i64 ((↑(ByteArray.size b) : Int) - 2)))) (Int.toNat (↑p2 : Int)) (ByteArray.size (ByteArray.extract b 0 (Int.toNat (IntKind.wrap IntKind.i64 ((↑(ByteArray.size b) : Int) - 2))))))) (by kernel_rfl) (by kernel_rfl) (by kernel_rfl) ?_ (fun cf => o_cut_lo hp (by kernel_rfl) (by kernel_rfl) (by kernel_rfl))
    refine WpOps.keep 87 (Value.pointer (some (Addr.mk 1 10 none))) (by kernel_rfl) (by kernel_rfl) (by kernel_rfl) ?_ (fun cf => (by kernel_rfl))
    refine WpOps.laid (Value.tuple #[]) (1) (Blk.mk 32 true [Value.iface 3 (Value.iface (List.length l1) (Value.iface x1 (Value.agg (List.toArray (List.map (fun n => Value.int IntKind.i64 n) l1))))), Value.iface 3 (Value.iface (List.length l2) (Value.iface x2 (Value.agg (List.toArray (List.map (fun n => Value.int IntKind.i64 n) l2))))), Value.int IntKind.i64 (num (ByteArray.extract b 0 (Int.toNat (IntKind.wrap IntKind.i64 ((↑(ByteArray.size b) : Int) - 2)))) 1), Value.int IntKind.i64 (num (ByteArray.extract b 0 (Int.toNat (IntKind.wrap IntKind.i64 ((↑(ByteArray.size b) : Int) - 2)))) 3), Value.int IntKind.i64 (num (ByteArray.extract b 0 (Int.toNat (IntKind.wrap IntKind.i64 ((↑(ByteArray.size b) : Int) - 2)))) 5), Value.int IntKind.i64 (num (ByteArray.extract b 0 (Int.toNat (IntKind.wrap IntKind.i64 ((↑(ByteArray.size b) : Int) - 2)))) 7), Value.int IntKind.i64 (num (ByteArray.extract b 0 (Int.toNat (IntKind.wrap IntKind.i64 ((↑(ByteArray.size b) : Int) - 2)))) 9), Value.bool (Int.tmod (num (ByteArray.extract b 0 (Int.toNat (IntKind.wrap IntKind.i64 ((↑(ByteArray.size b) : Int) - 2)))) 11) 2 == 1), Value.bool (Int.tmod (IntKind.wrap IntKind.i64 (Int.tdiv (num (ByteArray.extract b 0 (Int.toNat (IntKind.wrap IntKind.i64 ((↑(ByteArray.size b) : Int) - 2)))) 11) 2)) 2 == 1), Value.bool (Int.tmod (IntKind.wrap IntKind.i64 (Int.tdiv (num (ByteArray.extract b 0 (Int.toNat (IntKind.wrap IntKind.i64 ((↑(ByteArray.size b) : Int) - 2)))) 11) 4)) 2 == 1), Value.string (ByteArray.extract (ByteArray.extract b 0 (Int.toNat (IntKind.wrap IntKind.i64 ((↑(ByteArray.size b) : Int) - 2)))) (Int.toNat (↑p2 : Int)) (ByteArray.size (ByteArray.extract b 0 (Int.toNat (IntKind.wrap IntKind.i64 ((↑(ByteArray.size b) : Int) - 2))))))]) (by kernel_rfl) (by kernel_rfl) (by kernel_rfl) ?_ (fun cf => (by kernel_rfl))
    refine WpOps.nil ?_
    refine thenK_at ?_
    refine Wp.seq ?_
    refine Wp.seq ?_
    refine Wp.text ?_
    refine WpOps.keep 88 (Value.agg #[Value.iface 3 (Value.iface (List.length l1) (Value.iface x1 (Value.agg (List.toArray (List.map (fun n => Value.int IntKind.i64 n) l1))))), Value.iface 3 (Value.iface (List.length l2) (Value.iface x2 (Value.agg (List.toArray (List.map (fun n => Value.int IntKind.i64 n) l2))))), Value.int IntKind.i64 (num (ByteArray.extract b 0 (Int.toNat (IntKind.wrap IntKind.i64 ((↑(ByteArray.size b) : Int) - 2)))) 1), Value.int IntKind.i64 (num (ByteArray.extract b 0 (Int.toNat (IntKind.wrap IntKind.i64 ((↑(ByteArray.size b) : Int) - 2)))) 3), Value.int IntKind.i64 (num (ByteArray.extract b 0 (Int.toNat (IntKind.wrap IntKind.i64 ((↑(ByteArray.size b) : Int) - 2)))) 5), Value.int IntKind.i64 (num (ByteArray.extract b 0 (Int.toNat (IntKind.wrap IntKind.i64 ((↑(ByteArray.size b) : Int) - 2)))) 7), Value.int IntKind.i64 (num (ByteArray.extract b 0 (Int.toNat (IntKind.wrap IntKind.i64 ((↑(ByteArray.size b) : Int) - 2)))) 9), Value.bool (Int.tmod (num (ByteArray.extract b 0 (Int.toNat (IntKind.wrap IntKind.i64 ((↑(ByteArray.size b) : Int) - 2)))) 11) 2 == 1), Value.bool (Int.tmod (IntKind.wrap IntKind.i64 (Int.tdiv (num (ByteArray.extract b 0 (Int.toNat (IntKind.wrap IntKind.i64 ((↑(ByteArray.size b) : Int) - 2)))) 11) 2)) 2 == 1), Value.bool (Int.tmod (IntKind.wrap IntKind.i64 (Int.tdiv (num (ByteArray.extract b 0 (Int.toNat (IntKind.wrap IntKind.i64 ((↑(ByteArray.size b) : Int) - 2)))) 11) 4)) 2 == 1), Value.string (ByteArray.extract (ByteArray.extract b 0 (Int.toNat (IntKind.wrap IntKind.i64 ((↑(ByteArray.size b) : Int) - 2)))) (Int.toNat (↑p2 : Int)) (ByteArray.size (ByteArray.extract b 0 (Int.toNat (IntKind.wrap IntKind.i64 ((↑(ByteArray.size b) : Int) - 2))))))]) (by kernel_rfl) (by kernel_rfl) (by kernel_rfl) ?_ (fun cf => (by kernel_rfl))
    refine WpOps.framed 89 23 [Value.agg #[Value.iface 3 (Value.iface (List.length l1) (Value.iface x1 (Value.agg (List.toArray (List.map (fun n => Value.int IntKind.i64 n) l1))))), Value.iface 3 (Value.iface (List.length l2) (Value.iface x2 (Value.agg (List.toArray (List.map (fun n => Value.int IntKind.i64 n) l2))))), Value.int IntKind.i64 (num (ByteArray.extract b 0 (Int.toNat (IntKind.wrap IntKind.i64 ((↑(ByteArray.size b) : Int) - 2)))) 1), Value.int IntKind.i64 (num (ByteArray.extract b 0 (Int.toNat (IntKind.wrap IntKind.i64 ((↑(ByteArray.size b) : Int) - 2)))) 3), Value.int IntKind.i64 (num (ByteArray.extract b 0 (Int.toNat (IntKind.wrap IntKind.i64 ((↑(ByteArray.size b) : Int) - 2)))) 5), Value.int IntKind.i64 (num (ByteArray.extract b 0 (Int.toNat (IntKind.wrap IntKind.i64 ((↑(ByteArray.size b) : Int) - 2)))) 7), Value.int IntKind.i64 (num (ByteArray.extract b 0 (Int.toNat (IntKind.wrap IntKind.i64 ((↑(ByteArray.size b) : Int) - 2)))) 9), Value.bool (Int.tmod (num (ByteArray.extract b 0 (Int.toNat (IntKind.wrap IntKind.i64 ((↑(ByteArray.size b) : Int) - 2)))) 11) 2 == 1), Value.bool (Int.tmod (IntKind.wrap IntKind.i64 (Int.tdiv (num (ByteArray.extract b 0 (Int.toNat (IntKind.wrap IntKind.i64 ((↑(ByteArray.size b) : Int) - 2)))) 11) 2)) 2 == 1), Value.bool (Int.tmod (IntKind.wrap IntKind.i64 (Int.tdiv (num (ByteArray.extract b 0 (Int.toNat (IntKind.wrap IntKind.i64 ((↑(ByteArray.size b) : Int) - 2)))) 11) 4)) 2 == 1), Value.string (ByteArray.extract (ByteArray.extract b 0 (Int.toNat (IntKind.wrap IntKind.i64 ((↑(ByteArray.size b) : Int) - 2)))) (Int.toNat (↑p2 : Int)) (ByteArray.size (ByteArray.extract b 0 (Int.toNat (IntKind.wrap IntKind.i64 ((↑(ByteArray.size b) : Int) - 2))))))]] (by kernel_rfl) (by kernel_rfl) (by kernel_rfl) (by kernel_rfl) (by kernel_rfl) (fun cf => (by kernel_rfl)) ?_
    refine WpFun.of (v) ?_
    refine WpOps.keep 90 (Value.bool !okG (gS (ByteArray.extract b 0 (Int.toNat (IntKind.wrap IntKind.i64 ((↑(ByteArray.size b) : Int) - 2)))) x1 x2 l1 l2 (ByteArray.extract (ByteArray.extract b 0 (Int.toNat (IntKind.wrap IntKind.i64 ((↑(ByteArray.size b) : Int) - 2)))) p2 (ByteArray.size (ByteArray.extract b 0 (Int.toNat (IntKind.wrap IntKind.i64 ((↑(ByteArray.size b) : Int) - 2)))))))) (by kernel_rfl) (by kernel_rfl) (by kernel_rfl) ?_ (fun cf => (by kernel_rfl))
    refine WpOps.nil ?_
    refine thenK_at ?_
    refine Wp.split (!okG (gS (ByteArray.extract b 0 (Int.toNat (IntKind.wrap IntKind.i64 ((↑(ByteArray.size b) : Int) - 2)))) x1 x2 l1 l2 (ByteArray.extract (ByteArray.extract b 0 (Int.toNat (IntKind.wrap IntKind.i64 ((↑(ByteArray.size b) : Int) - 2)))) p2 (ByteArray.size (ByteArray.extract b 0 (Int.toNat (IntKind.wrap IntKind.i64 ((↑(ByteArray.size b) : Int) - 2)))))))) (by kernel_rfl) (fun hy => ?_) (fun hy => ?_)
    · refine Wp.seq ?_
      refine Wp.text ?_
      refine WpOps.keep 91 (Value.agg #[Value.slice none 0 0, Value.slice none 0 0, Value.int IntKind.i64 0, Value.int IntKind.i64 0, Value.int IntKind.i64 0, Value.int IntKind.i64 0, Value.int IntKind.i64 0, Value.bool false, Value.bool false, Value.bool false, Value.string (ByteArray.mk #[])]) (by kernel_rfl) (by kernel_rfl) (by kernel_rfl) ?_ (fun cf => (by kernel_rfl))
      refine WpOps.laid (Value.tuple #[]) (0) (Blk.mk 32 true [Value.slice none 0 0, Value.slice none 0 0, Value.int IntKind.i64 0, Value.int IntKind.i64 0, Value.int IntKind.i64 0, Value.int IntKind.i64 0, Value.int IntKind.i64 0, Value.bool false, Value.bool false, Value.bool false, Value.string (ByteArray.mk #[])]) (by kernel_rfl) (by kernel_rfl) (by kernel_rfl) ?_ (fun cf => (by kernel_rfl))
      refine WpOps.keep 3 (Value.int IntKind.i64 4) (by kernel_rfl) (by kernel_rfl) (by kernel_rfl) ?_ (fun cf => (by kernel_rfl))
      refine WpOps.nil ?_
      refine thenK_at ?_
      refine Wp.ret ?_
      refine thenK_ret ?_
      refine endK_retn [Value.agg #[Value.slice none 0 0, Value.slice none 0 0, Value.int IntKind.i64 0, Value.int IntKind.i64 0, Value.int IntKind.i64 0, Value.int IntKind.i64 0, Value.int IntKind.i64 0, Value.bool false, Value.bool false, Value.bool false, Value.string (ByteArray.mk #[])], Value.int IntKind.i64 4] (Value.tuple #[Value.agg #[Value.slice none 0 0, Value.slice none 0 0, Value.int IntKind.i64 0, Value.int IntKind.i64 0, Value.int IntKind.i64 0, Value.int IntKind.i64 0, Value.int IntKind.i64 0, Value.bool false, Value.bool false, Value.bool false, Value.string (ByteArray.mk #[])], Value.int IntKind.i64 4]) (by kernel_rfl) (by kernel_rfl) ?_
      rw [Bool.not_eq_true'] at hy
      rw [if_neg (by rw [hy]; rintro ⟨_, h⟩; cases h)]
      exact zero_pair _ _
    · refine Wp.skip ?_
      refine thenK_at ?_
      refine Wp.seq ?_
      refine Wp.text ?_
      refine WpOps.keep 92 (Value.agg #[Value.iface 3 (Value.iface (List.length l1) (Value.iface x1 (Value.agg (List.toArray (List.map (fun n => Value.int IntKind.i64 n) l1))))), Value.iface 3 (Value.iface (List.length l2) (Value.iface x2 (Value.agg (List.toArray (List.map (fun n => Value.int IntKind.i64 n) l2))))), Value.int IntKind.i64 (num (ByteArray.extract b 0 (Int.toNat (IntKind.wrap IntKind.i64 ((↑(ByteArray.size b) : Int) - 2)))) 1), Value.int IntKind.i64 (num (ByteArray.extract b 0 (Int.toNat (IntKind.wrap IntKind.i64 ((↑(ByteArray.size b) : Int) - 2)))) 3), Value.int IntKind.i64 (num (ByteArray.extract b 0 (Int.toNat (IntKind.wrap IntKind.i64 ((↑(ByteArray.size b) : Int) - 2)))) 5), Value.int IntKind.i64 (num (ByteArray.extract b 0 (Int.toNat (IntKind.wrap IntKind.i64 ((↑(ByteArray.size b) : Int) - 2)))) 7), Value.int IntKind.i64 (num (ByteArray.extract b 0 (Int.toNat (IntKind.wrap IntKind.i64 ((↑(ByteArray.size b) : Int) - 2)))) 9), Value.bool (Int.tmod (num (ByteArray.extract b 0 (Int.toNat (IntKind.wrap IntKind.i64 ((↑(ByteArray.size b) : Int) - 2)))) 11) 2 == 1), Value.bool (Int.tmod (IntKind.wrap IntKind.i64 (Int.tdiv (num (ByteArray.extract b 0 (Int.toNat (IntKind.wrap IntKind.i64 ((↑(ByteArray.size b) : Int) - 2)))) 11) 2)) 2 == 1), Value.bool (Int.tmod (IntKind.wrap IntKind.i64 (Int.tdiv (num (ByteArray.extract b 0 (Int.toNat (IntKind.wrap IntKind.i64 ((↑(ByteArray.size b) : Int) - 2)))) 11) 4)) 2 == 1), Value.string (ByteArray.extract (ByteArray.extract b 0 (Int.toNat (IntKind.wrap IntKind.i64 ((↑(ByteArray.size b) : Int) - 2)))) (Int.toNat (↑p2 : Int)) (ByteArray.size (ByteArray.extract b 0 (Int.toNat (IntKind.wrap IntKind.i64 ((↑(ByteArray.size b) : Int) - 2))))))]) (by kernel_rfl) (by kernel_rfl) (by kernel_rfl) ?_ (fun cf => (by kernel_rfl))
      refine WpOps.laid (Value.tuple #[]) (0) (Blk.mk 32 true [Value.iface 3 (Value.iface (List.length l1) (Value.iface x1 (Value.agg (List.toArray (List.map (fun n => Value.int IntKind.i64 n) l1))))), Value.iface 3 (Value.iface (List.length l2) (Value.iface x2 (Value.agg (List.toArray (List.map (fun n => Value.int IntKind.i64 n) l2))))), Value.int IntKind.i64 (num (ByteArray.extract b 0 (Int.toNat (IntKind.wrap IntKind.i64 ((↑(ByteArray.size b) : Int) - 2)))) 1), Value.int IntKind.i64 (num (ByteArray.extract b 0 (Int.toNat (IntKind.wrap IntKind.i64 ((↑(ByteArray.size b) : Int) - 2)))) 3), Value.int IntKind.i64 (num (ByteArray.extract b 0 (Int.toNat (IntKind.wrap IntKind.i64 ((↑(ByteArray.size b) : Int) - 2)))) 5), Value.int IntKind.i64 (num (ByteArray.extract b 0 (Int.toNat (IntKind.wrap IntKind.i64 ((↑(ByteArray.size b) : Int) - 2)))) 7), Value.int IntKind.i64 (num (ByteArray.extract b 0 (Int.toNat (IntKind.wrap IntKind.i64 ((↑(ByteArray.size b) : Int) - 2)))) 9), Value.bool (Int.tmod (num (ByteArray.extract b 0 (Int.toNat (IntKind.wrap IntKind.i64 ((↑(ByteArray.size b) : Int) - 2)))) 11) 2 == 1), Value.bool (Int.tmod (IntKind.wrap IntKind.i64 (Int.tdiv (num (ByteArray.extract b 0 (Int.toNat (IntKind.wrap IntKind.i64 ((↑(ByteArray.size b) : Int) - 2)))) 11) 2)) 2 == 1), Value.bool (Int.tmod (IntKind.wrap IntKind.i64 (Int.tdiv (num (ByteArray.extract b 0 (Int.toNat (IntKind.wrap IntKind.i64 ((↑(ByteArray.size b) : Int) - 2)))) 11) 4)) 2 == 1), Value.string (ByteArray.extract (ByteArray.extract b 0 (Int.toNat (IntKind.wrap IntKind.i64 ((↑(ByteArray.size b) : Int) - 2)))) (Int.toNat (↑p2 : Int)) (ByteArray.size (ByteArray.extract b 0 (Int.toNat (IntKind.wrap IntKind.i64 ((↑(ByteArray.size b) : Int) - 2))))))]) (by kernel_rfl) (by kernel_rfl) (by kernel_rfl) ?_ (fun cf => (by kernel_rfl))
      refine WpOps.keep 3 (Value.int IntKind.i64 0) (by kernel_rfl) (by kernel_rfl) (by kernel_rfl) ?_ (fun cf => (by kernel_rfl))
      refine WpOps.nil ?_
      refine thenK_at ?_
      refine Wp.ret ?_
      refine endK_retn [Value.agg #[Value.iface 3 (Value.iface (List.length l1) (Value.iface x1 (Value.agg (List.toArray (List.map (fun n => Value.int IntKind.i64 n) l1))))), Value.iface 3 (Value.iface (List.length l2) (Value.iface x2 (Value.agg (List.toArray (List.map (fun n => Value.int IntKind.i64 n) l2))))), Value.int IntKind.i64 (num (ByteArray.extract b 0 (Int.toNat (IntKind.wrap IntKind.i64 ((↑(ByteArray.size b) : Int) - 2)))) 1), Value.int IntKind.i64 (num (ByteArray.extract b 0 (Int.toNat (IntKind.wrap IntKind.i64 ((↑(ByteArray.size b) : Int) - 2)))) 3), Value.int IntKind.i64 (num (ByteArray.extract b 0 (Int.toNat (IntKind.wrap IntKind.i64 ((↑(ByteArray.size b) : Int) - 2)))) 5), Value.int IntKind.i64 (num (ByteArray.extract b 0 (Int.toNat (IntKind.wrap IntKind.i64 ((↑(ByteArray.size b) : Int) - 2)))) 7), Value.int IntKind.i64 (num (ByteArray.extract b 0 (Int.toNat (IntKind.wrap IntKind.i64 ((↑(ByteArray.size b) : Int) - 2)))) 9), Value.bool (Int.tmod (num (ByteArray.extract b 0 (Int.toNat (IntKind.wrap IntKind.i64 ((↑(ByteArray.size b) : Int) - 2)))) 11) 2 == 1), Value.bool (Int.tmod (IntKind.wrap IntKind.i64 (Int.tdiv (num (ByteArray.extract b 0 (Int.toNat (IntKind.wrap IntKind.i64 ((↑(ByteArray.size b) : Int) - 2)))) 11) 2)) 2 == 1), Value.bool (Int.tmod (IntKind.wrap IntKind.i64 (Int.tdiv (num (ByteArray.extract b 0 (Int.toNat (IntKind.wrap IntKind.i64 ((↑(ByteArray.size b) : Int) - 2)))) 11) 4)) 2 == 1), Value.string (ByteArray.extract (ByteArray.extract b 0 (Int.toNat (IntKind.wrap IntKind.i64 ((↑(ByteArray.size b) : Int) - 2)))) (Int.toNat (↑p2 : Int)) (ByteArray.size (ByteArray.extract b 0 (Int.toNat (IntKind.wrap IntKind.i64 ((↑(ByteArray.size b) : Int) - 2))))))], Value.int IntKind.i64 0] (Value.tuple #[Value.agg #[Value.iface 3 (Value.iface (List.length l1) (Value.iface x1 (Value.agg (List.toArray (List.map (fun n => Value.int IntKind.i64 n) l1))))), Value.iface 3 (Value.iface (List.length l2) (Value.iface x2 (Value.agg (List.toArray (List.map (fun n => Value.int IntKind.i64 n) l2))))), Value.int IntKind.i64 (num (ByteArray.extract b 0 (Int.toNat (IntKind.wrap IntKind.i64 ((↑(ByteArray.size b) : Int) - 2)))) 1), Value.int IntKind.i64 (num (ByteArray.extract b 0 (Int.toNat (IntKind.wrap IntKind.i64 ((↑(ByteArray.size b) : Int) - 2)))) 3), Value.int IntKind.i64 (num (ByteArray.extract b 0 (Int.toNat (IntKind.wrap IntKind.i64 ((↑(ByteArray.size b) : Int) - 2)))) 5), Value.int IntKind.i64 (num (ByteArray.extract b 0 (Int.toNat (IntKind.wrap IntKind.i64 ((↑(ByteArray.size b) : Int) - 2)))) 7), Value.int IntKind.i64 (num (ByteArray.extract b 0 (Int.toNat (IntKind.wrap IntKind.i64 ((↑(ByteArray.size b) : Int) - 2)))) 9), Value.bool (Int.tmod (num (ByteArray.extract b 0 (Int.toNat (IntKind.wrap IntKind.i64 ((↑(ByteArray.size b) : Int) - 2)))) 11) 2 == 1), Value.bool (Int.tmod (IntKind.wrap IntKind.i64 (Int.tdiv (num (ByteArray.extract b 0 (Int.toNat (IntKind.wrap IntKind.i64 ((↑(ByteArray.size b) : Int) - 2)))) 11) 2)) 2 == 1), Value.bool (Int.tmod (IntKind.wrap IntKind.i64 (Int.tdiv (num (ByteArray.extract b 0 (Int.toNat (IntKind.wrap IntKind.i64 ((↑(ByteArray.size b) : Int) - 2)))) 11) 4)) 2 == 1), Value.string (ByteArray.extract (ByteArray.extract b 0 (Int.toNat (IntKind.wrap IntKind.i64 ((↑(ByteArray.size b) : Int) - 2)))) (Int.toNat (↑p2 : Int)) (ByteArray.size (ByteArray.extract b 0 (Int.toNat (IntKind.wrap IntKind.i64 ((↑(ByteArray.size b) : Int) - 2))))))], Value.int IntKind.i64 0]) (by kernel_rfl) (by kernel_rfl) ?_
      rw [Bool.not_eq_false'] at hy
      rw [if_pos ⟨hx, hy⟩]
      exact ⟨_, by kernel_rfl, .w (.c (.inl rfl))⟩
end Go.Proofs.Ytpkkcpglbjbgfaa.D
