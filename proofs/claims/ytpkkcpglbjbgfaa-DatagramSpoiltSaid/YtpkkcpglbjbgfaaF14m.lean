/- Reading a datagram: the document's number and list. -/
import Derived.Test.YtpkkcpglbjbgfaaFwLem
import Derived.Test.YtpkkcpglbjbgfaaF14l
namespace Go.Proofs.Ytpkkcpglbjbgfaa.D
open Go.Fw Go.RowKit

theorem f58 : E.funcs 58 = some Try.f58 := by kernel_rfl
theorem word_add (a b : UInt8) : IntKind.i64.wrap (IntKind.i64.wrap (IntKind.i64.wrap (a.toNat : Int) * 256) + IntKind.i64.wrap (b.toNat : Int)) = ((256 * a.toNat + b.toNat : Nat) : Int) := by
  have ha : a.toNat < 256 := a.toNat_lt
  have hb : b.toNat < 256 := b.toNat_lt
  rw [wr (a.toNat : Int) (by omega) (by omega), wr (b.toNat : Int) (by omega) (by omega), wr ((a.toNat : Int) * 256) (by omega) (by omega), wr _ (by omega) (by omega)]
  omega
theorem num58no (b : ByteArray) (p : Nat) (hp : p ≤ 140737488400000) (h : b.size < p + 2) : Fun E 58 [.string b, .int .i64 p] (.int .i64 (-1)) := by
  refine Fun.of f58 rfl (of_decide_eq_true (by kernel_rfl)) rfl ?_
  have c : decide (IntKind.i64.wrap ((p : Int) + 2) > (b.size : Int)) = true := by
    rw [wr _ (by omega) (by omega)]
    exact decide_eq_true (by omega)
  refine Wp.seq ?_
  refine Wp.text ?_
  refine WpOps.keep 4 (Value.int IntKind.i64 0) (by kernel_rfl) (by kernel_rfl) (by kernel_rfl) ?_ (fun cf => (by kernel_rfl))
  refine WpOps.nil ?_
  refine thenK_at ?_
  refine Wp.seq ?_
  refine Wp.seq ?_
  refine Wp.text ?_
  refine WpOps.keep 5 (Value.int IntKind.i64 (↑p : Int)) (by kernel_rfl) (by kernel_rfl) (by kernel_rfl) ?_ (fun cf => (by kernel_rfl))
  refine WpOps.keep 6 (Value.int IntKind.i64 (IntKind.wrap IntKind.i64 ((↑p : Int) + 2))) (by kernel_rfl) (by kernel_rfl) (by kernel_rfl) ?_ (fun cf => (by kernel_rfl))
  refine WpOps.keep 7 (Value.string b) (by kernel_rfl) (by kernel_rfl) (by kernel_rfl) ?_ (fun cf => (by kernel_rfl))
  refine WpOps.keep 8 (Value.int IntKind.i64 (↑(ByteArray.size b) : Int)) (by kernel_rfl) (by kernel_rfl) (by kernel_rfl) ?_ (fun cf => (by kernel_rfl))
  refine WpOps.keep 9 (Value.bool true) (by kernel_rfl) (by kernel_rfl) (by kernel_rfl) ?_ (fun cf => by_fact c ((by kernel_rfl)))
  refine WpOps.nil ?_
  refine thenK_at ?_
  refine Wp.on (by kernel_rfl) ?_
  refine Wp.seq ?_
  refine Wp.text ?_
  refine WpOps.keep 4 (Value.int IntKind.i64 (-1)) (by kernel_rfl) (by kernel_rfl) (by kernel_rfl) ?_ (fun cf => (by kernel_rfl))
  refine WpOps.nil ?_
  refine thenK_at ?_
  refine Wp.ret ?_
  refine thenK_ret ?_
  refine endK_retn [Value.int IntKind.i64 (-1)] (Value.int IntKind.i64 (-1)) (by kernel_rfl) (by kernel_rfl) ?_
  rfl
theorem num58 (b : ByteArray) (p : Nat) (hp : p ≤ 140737488400000) (h : p + 2 ≤ b.size) : Fun E 58 [.string b, .int .i64 p] (.int .i64 (num b p)) := by
  refine Fun.of f58 rfl (of_decide_eq_true (by kernel_rfl)) rfl ?_
  have c : decide (IntKind.i64.wrap ((p : Int) + 2) > (b.size : Int)) = false := by
    rw [wr _ (by omega) (by omega)]
    exact decide_eq_false (by omega)
  have w1 : IntKind.i64.wrap ((p : Int) + 1) = ((p + 1 : Nat) : Int) := by rw [wr _ (by omega) (by omega)]; rfl
  have h0 : 0 ≤ (p : Int) ∧ (p : Int) < b.size := by omega
  have h1 : 0 ≤ IntKind.i64.wrap ((p : Int) + 1) := by rw [w1]; omega
  have e0 := byte_get b p (by omega)
  have e1 : b[(IntKind.i64.wrap ((p : Int) + 1)).toNat]? = some (byteAt b (p + 1)) := by
    rw [w1]
    exact byte_get b (p + 1) (by omega)
  refine Wp.seq ?_
  refine Wp.text ?_
  refine WpOps.keep 4 (Value.int IntKind.i64 0) (by kernel_rfl) (by kernel_rfl) (by kernel_rfl) ?_ (fun cf => (by kernel_rfl))
  refine WpOps.nil ?_
  refine thenK_at ?_
  refine Wp.seq ?_
  refine Wp.seq ?_
  refine Wp.text ?_
  refine WpOps.keep 5 (Value.int IntKind.i64 (↑p : Int)) (by kernel_rfl) (by kernel_rfl) (by kernel_rfl) ?_ (fun cf => (by kernel_rfl))
  refine WpOps.keep 6 (Value.int IntKind.i64 (IntKind.wrap IntKind.i64 ((↑p : Int) + 2))) (by kernel_rfl) (by kernel_rfl) (by kernel_rfl) ?_ (fun cf => (by kernel_rfl))
  refine WpOps.keep 7 (Value.string b) (by kernel_rfl) (by kernel_rfl) (by kernel_rfl) ?_ (fun cf => (by kernel_rfl))
  refine WpOps.keep 8 (Value.int IntKind.i64 (↑(ByteArray.size b) : Int)) (by kernel_rfl) (by kernel_rfl) (by kernel_rfl) ?_ (fun cf => (by kernel_rfl))
  refine WpOps.keep 9 (Value.bool false) (by kernel_rfl) (by kernel_rfl) (by kernel_rfl) ?_ (fun cf => by_fact c ((by kernel_rfl)))
  refine WpOps.nil ?_
  refine thenK_at ?_
  refine Wp.off (by kernel_rfl) ?_
  refine Wp.skip ?_
  refine thenK_at ?_
  refine Wp.seq ?_
  refine Wp.region (by kernel_rfl) ?_
  refine WpOps.keep 10 (Value.string b) (by kernel_rfl) (by kernel_rfl) (by kernel_rfl) ?_ (fun cf => (by kernel_rfl))
  refine WpOps.keep 11 (Value.int IntKind.i64 (↑p : Int)) (by kernel_rfl) (by kernel_rfl) (by kernel_rfl) ?_ (fun cf => (by kernel_rfl))
  refine WpOps.keep 12 (Value.int IntKind.u8 (↑(UInt8.toNat (byteAt b p)) : Int)) (by kernel_rfl) (by kernel_rfl) (by kernel_rfl) ?_ (fun cf => o_indexStr (of_decide_eq_true (by kernel_rfl)) e0 (by kernel_rfl) (by kernel_rfl) (by kernel_rfl))
  refine WpOps.keep 13 (Value.int IntKind.i64 (IntKind.wrap IntKind.i64 (↑(UInt8.toNat (byteAt b p)) : Int))) (by kernel_rfl) (by kernel_rfl) (by kernel_rfl) ?_ (fun cf => (by kernel_rfl))
  refine WpOps.keep 14 (Value.int IntKind.i64 (IntKind.wrap IntKind.i64 (IntKind.wrap IntKind.i64 (↑(UInt8.toNat (byteAt b p)) : Int) * 256))) (by kernel_rfl) (by kernel_rfl) (by kernel_rfl) ?_ (fun cf => (by kernel_rfl))
  refine WpOps.keep 15 (Value.string b) (by kernel_rfl) (by kernel_rfl) (by kernel_rfl) ?_ (fun cf => (by kernel_rfl))
  refine WpOps.keep 16 (Value.int IntKind.i64 (↑p : Int)) (by kernel_rfl) (by kernel_rfl) (by kernel_rfl) ?_ (fun cf => (by kernel_rfl))
  refine WpOps.keep 17 (Value.int IntKind.i64 (IntKind.wrap IntKind.i64 ((↑p : Int) + 1))) (by kernel_rfl) (by kernel_rfl) (by kernel_rfl) ?_ (fun cf => (by kernel_rfl))
  refine WpOps.keep 18 (Value.int IntKind.u8 (↑(UInt8.toNat (byteAt b (p + 1))) : Int)) (by kernel_rfl) (by kernel_rfl) (by kernel_rfl) ?_ (fun cf => o_indexStr h1 e1 (by kernel_rfl) (by kernel_rfl) (by kernel_rfl))
  refine WpOps.keep 19 (Value.int IntKind.i64 (IntKind.wrap IntKind.i64 (↑(UInt8.toNat (byteAt b (p + 1))) : Int))) (by kernel_rfl) (by kernel_rfl) (by kernel_rfl) ?_ (fun cf => (by kernel_rfl))
  refine WpOps.keep 20 (Value.int IntKind.i64 (IntKind.wrap IntKind.i64 (IntKind.wrap IntKind.i64 (IntKind.wrap IntKind.i64 (↑(UInt8.toNat (byteAt b p)) : Int) * 256) + IntKind.wrap IntKind.i64 (↑(UInt8.toNat (byteAt b (p + 1))) : Int)))) (by kernel_rfl) (by kernel_rfl) (by kernel_rfl) ?_ (fun cf => (by kernel_rfl))
  refine WpOps.keep 4 (Value.int IntKind.i64 (IntKind.wrap IntKind.i64 (IntKind.wrap IntKind.i64 (IntKind.wrap IntKind.i64 (↑(UInt8.toNat (byteAt b p)) : Int) * 256) + IntKind.wrap IntKind.i64 (↑(UInt8.toNat (byteAt b (p + 1))) : Int)))) (by kernel_rfl) (by kernel_rfl) (by kernel_rfl) ?_ (fun cf => (by kernel_rfl))
  refine WpOps.nil ?_
  refine thenK_at ?_
  refine Wp.ret ?_
  refine endK_retn [Value.int IntKind.i64 (IntKind.wrap IntKind.i64 (IntKind.wrap IntKind.i64 (IntKind.wrap IntKind.i64 (↑(UInt8.toNat (byteAt b p)) : Int) * 256) + IntKind.wrap IntKind.i64 (↑(UInt8.toNat (byteAt b (p + 1))) : Int)))] (Value.int IntKind.i64 (IntKind.wrap IntKind.i64 (IntKind.wrap IntKind.i64 (IntKind.wrap IntKind.i64 (↑(UInt8.toNat (byteAt b p)) : Int) * 256) + IntKind.wrap IntKind.i64 (↑(UInt8.toNat (byteAt b (p + 1))) : Int)))) (by kernel_rfl) (by kernel_rfl) ?_
  rw [word_add]
  rfl

/-- How many numbers there are at a place, if they are all there. -/
def adrO (b : ByteArray) (e p : Nat) : Option Nat := if p + 2 ≤ e ∧ p + 2 + 2 * (num b p).toNat ≤ e then some (num b p).toNat else none
def lAt (b : ByteArray) (e p n : Nat) : Value := sl (if n = 0 then 2 else 0) (row b e (p + 2) n)
def adrV (b : ByteArray) (e p : Nat) : Value := match adrO b e p with
  | some n => .tuple #[lAt b e p n, .int .i64 ((p + 2 + 2 * n : Nat) : Int)]
  | none => .tuple #[sl 2 [], .int .i64 ((e + 1 : Nat) : Int)]
theorem num_lt (b : ByteArray) (p : Nat) : 0 ≤ num b p ∧ num b p ≤ 65535 := by
  have h1 : (byteAt b p).toNat < 256 := (byteAt b p).toNat_lt
  have h2 : (byteAt b (p + 1)).toNat < 256 := (byteAt b (p + 1)).toNat_lt
  unfold num
  omega
theorem nil_pair (x : Int) (hp : Heap) : ∃ u0, iceV E hp (.tuple #[.slice none 0 0, .int .i64 x]) = some u0 ∧ NilV E u0 (.tuple #[sl 2 [], .int .i64 x]) := by
  obtain ⟨ti, ht⟩ := E3
  exact ⟨_, rfl, .tuple (.cons (.c (.inr ⟨rfl, 3, ti, ht, rfl⟩)) (.cons (.c (.inl rfl)) .nil))⟩

theorem f59 : E.funcs 59 = some Try.f59 := by kernel_rfl
theorem list59 (b : ByteArray) (p : Nat) (hb : b.size ≤ 140737488351232) (hp : p ≤ 140737488390000) : Fun E 59 [.string b, .int .i64 p] (adrV b b.size p) := by
  have wl : IntKind.i64.wrap ((b.size : Int) + 1) = ((b.size + 1 : Nat) : Int) := by rw [wr _ (by omega) (by omega)]; rfl
  rcases Nat.lt_or_ge b.size (p + 2) with h | h
  · have e : adrV b b.size p = .tuple #[sl 2 [], .int .i64 ((b.size + 1 : Nat) : Int)] := by
      unfold adrV adrO
      rw [if_neg (by omega)]
    rw [e, ← wl]
    refine Fun.ofN f59 rfl (of_decide_eq_true (by kernel_rfl)) rfl ?_
    have c := num58no b p (by omega) h
    refine Wp.seq ?_
    refine Wp.text ?_
    refine WpOps.keep 4 (Value.slice none 0 0) (by kernel_rfl) (by kernel_rfl) (by kernel_rfl) ?_ (fun cf => (by kernel_rfl))
    refine WpOps.keep 5 (Value.int IntKind.i64 0) (by kernel_rfl) (by kernel_rfl) (by kernel_rfl) ?_ (fun cf => (by kernel_rfl))
    refine WpOps.nil ?_
    refine thenK_at ?_
    refine Wp.seq ?_
    refine Wp.text ?_
    refine WpOps.keep 9 (Value.string b) (by kernel_rfl) (by kernel_rfl) (by kernel_rfl) ?_ (fun cf => (by kernel_rfl))
    refine WpOps.keep 10 (Value.int IntKind.i64 (↑p : Int)) (by kernel_rfl) (by kernel_rfl) (by kernel_rfl) ?_ (fun cf => (by kernel_rfl))
    refine WpOps.framed 11 58 [Value.string b, Value.int IntKind.i64 (↑p : Int)] (by kernel_rfl) (by kernel_rfl) (by kernel_rfl) (by kernel_rfl) (by kernel_rfl) (fun cf => (by kernel_rfl)) ?_
    refine WpFun.of (c) ?_
    refine WpOps.keep 6 (Value.int IntKind.i64 (-1)) (by kernel_rfl) (by kernel_rfl) (by kernel_rfl) ?_ (fun cf => (by kernel_rfl))
    refine WpOps.nil ?_
    refine thenK_at ?_
    refine Wp.seq ?_
    refine Wp.seq ?_
    refine Wp.text ?_
    refine WpOps.keep 12 (Value.int IntKind.i64 (-1)) (by kernel_rfl) (by kernel_rfl) (by kernel_rfl) ?_ (fun cf => (by kernel_rfl))
    refine WpOps.keep 13 (Value.bool true) (by kernel_rfl) (by kernel_rfl) (by kernel_rfl) ?_ (fun cf => (by kernel_rfl))
    refine WpOps.keep 14 (Value.bool true) (by kernel_rfl) (by kernel_rfl) (by kernel_rfl) ?_ (fun cf => (by kernel_rfl))
    refine WpOps.unmet 15 (by kernel_rfl) (by kernel_rfl) (by kernel_rfl) ?_
    refine WpOps.unmet 16 (by kernel_rfl) (by kernel_rfl) (by kernel_rfl) ?_
    refine WpOps.unmet 17 (by kernel_rfl) (by kernel_rfl) (by kernel_rfl) ?_
    refine WpOps.unmet 18 (by kernel_rfl) (by kernel_rfl) (by kernel_rfl) ?_
    refine WpOps.unmet 19 (by kernel_rfl) (by kernel_rfl) (by kernel_rfl) ?_
    refine WpOps.unmet 20 (by kernel_rfl) (by kernel_rfl) (by kernel_rfl) ?_
    refine WpOps.unmet 21 (by kernel_rfl) (by kernel_rfl) (by kernel_rfl) ?_
    refine WpOps.unmet 22 (by kernel_rfl) (by kernel_rfl) (by kernel_rfl) ?_
    refine WpOps.keep 23 (Value.bool true) (by kernel_rfl) (by kernel_rfl) (by kernel_rfl) ?_ (fun cf => (by kernel_rfl))
    refine WpOps.nil ?_
    refine thenK_at ?_
    refine Wp.on (by kernel_rfl) ?_
    refine Wp.seq ?_
    refine Wp.text ?_
    refine WpOps.keep 24 (Value.string b) (by kernel_rfl) (by kernel_rfl) (by kernel_rfl) ?_ (fun cf => (by kernel_rfl))
    refine WpOps.keep 25 (Value.int IntKind.i64 (↑(ByteArray.size b) : Int)) (by kernel_rfl) (by kernel_rfl) (by kernel_rfl) ?_ (fun cf => (by kernel_rfl))
    refine WpOps.keep 26 (Value.int IntKind.i64 (IntKind.wrap IntKind.i64 ((↑(ByteArray.size b) : Int) + 1))) (by kernel_rfl) (by kernel_rfl) (by kernel_rfl) ?_ (fun cf => (by kernel_rfl))
    refine WpOps.keep 4 (Value.slice none 0 0) (by kernel_rfl) (by kernel_rfl) (by kernel_rfl) ?_ (fun cf => (by kernel_rfl))
    refine WpOps.keep 5 (Value.int IntKind.i64 (IntKind.wrap IntKind.i64 ((↑(ByteArray.size b) : Int) + 1))) (by kernel_rfl) (by kernel_rfl) (by kernel_rfl) ?_ (fun cf => (by kernel_rfl))
    refine WpOps.nil ?_
    refine thenK_at ?_
    refine Wp.ret ?_
    refine thenK_ret ?_
    refine endK_retn [Value.slice none 0 0, Value.int IntKind.i64 (IntKind.wrap IntKind.i64 ((↑(ByteArray.size b) : Int) + 1))] (Value.tuple #[Value.slice none 0 0, Value.int IntKind.i64 (IntKind.wrap IntKind.i64 ((↑(ByteArray.size b) : Int) + 1))]) (by kernel_rfl) (by kernel_rfl) ?_
    exact nil_pair _ _
  · have c := num58 b p (by omega) h
    obtain ⟨n0, n1⟩ := num_lt b p
    obtain ⟨n, hn⟩ : ∃ n : Nat, num b p = (n : Int) := ⟨(num b p).toNat, by omega⟩
    rw [hn] at c
    have hnT : (num b p).toNat = n := by omega
    have w1 : IntKind.i64.wrap ((p : Int) + 2) = ((p + 2 : Nat) : Int) := by rw [wr _ (by omega) (by omega)]; rfl
    have w2 : IntKind.i64.wrap (2 * (n : Int)) = ((2 * n : Nat) : Int) := by rw [wr _ (by omega) (by omega)]; omega
    have w3 : IntKind.i64.wrap (IntKind.i64.wrap ((p : Int) + 2) + IntKind.i64.wrap (2 * (n : Int))) = ((p + 2 + 2 * n : Nat) : Int) := by rw [w1, w2, wr _ (by omega) (by omega)]; omega
    have hng : decide ((n : Int) < 0) = false := decide_eq_false (by omega)
    rcases Nat.lt_or_ge b.size (p + 2 + 2 * n) with h2 | h2
    · have e : adrV b b.size p = .tuple #[sl 2 [], .int .i64 ((b.size + 1 : Nat) : Int)] := by
        unfold adrV adrO
        rw [if_neg (by omega)]
      rw [e, ← wl]
      refine Fun.ofN f59 rfl (of_decide_eq_true (by kernel_rfl)) rfl ?_
      have hgt : decide (IntKind.i64.wrap (IntKind.i64.wrap ((p : Int) + 2) + IntKind.i64.wrap (2 * (n : Int))) > (b.size : Int)) = true := by
        rw [w3]; exact decide_eq_true (by omega)
      refine Wp.seq ?_
      refine Wp.text ?_
      refine WpOps.keep 4 (Value.slice none 0 0) (by kernel_rfl) (by kernel_rfl) (by kernel_rfl) ?_ (fun cf => (by kernel_rfl))
      refine WpOps.keep 5 (Value.int IntKind.i64 0) (by kernel_rfl) (by kernel_rfl) (by kernel_rfl) ?_ (fun cf => (by kernel_rfl))
      refine WpOps.nil ?_
      refine thenK_at ?_
      refine Wp.seq ?_
      refine Wp.text ?_
      refine WpOps.keep 9 (Value.string b) (by kernel_rfl) (by kernel_rfl) (by kernel_rfl) ?_ (fun cf => (by kernel_rfl))
      refine WpOps.keep 10 (Value.int IntKind.i64 (↑p : Int)) (by kernel_rfl) (by kernel_rfl) (by kernel_rfl) ?_ (fun cf => (by kernel_rfl))
      refine WpOps.framed 11 58 [Value.string b, Value.int IntKind.i64 (↑p : Int)] (by kernel_rfl) (by kernel_rfl) (by kernel_rfl) (by kernel_rfl) (by kernel_rfl) (fun cf => (by kernel_rfl)) ?_
      refine WpFun.of (c) ?_
      refine WpOps.keep 6 (Value.int IntKind.i64 (↑n : Int)) (by kernel_rfl) (by kernel_rfl) (by kernel_rfl) ?_ (fun cf => (by kernel_rfl))
      refine WpOps.nil ?_
      refine thenK_at ?_
      refine Wp.seq ?_
      refine Wp.seq ?_
      refine Wp.text ?_
      refine WpOps.keep 12 (Value.int IntKind.i64 (↑n : Int)) (by kernel_rfl) (by kernel_rfl) (by kernel_rfl) ?_ (fun cf => (by kernel_rfl))
      refine WpOps.keep 13 (Value.bool (decide ((↑n : Int) < 0))) (by kernel_rfl) (by kernel_rfl) (by kernel_rfl) ?_ (fun cf => (by kernel_rfl))
      refine WpOps.keep 14 (Value.bool (decide ((↑n : Int) < 0))) (by kernel_rfl) (by kernel_rfl) (by kernel_rfl) ?_ (fun cf => (by kernel_rfl))
      refine WpOps.keep 15 (Value.int IntKind.i64 (↑p : Int)) (by kernel_rfl) (by kernel_rfl) (by kernel_rfl) ?_ (fun cf => (by kernel_rfl))
      refine WpOps.keep 16 (Value.int IntKind.i64 (IntKind.wrap IntKind.i64 ((↑p : Int) + 2))) (by kernel_rfl) (by kernel_rfl) (by kernel_rfl) ?_ (fun cf => (by kernel_rfl))
      refine WpOps.keep 17 (Value.int IntKind.i64 (↑n : Int)) (by kernel_rfl) (by kernel_rfl) (by kernel_rfl) ?_ (fun cf => (by kernel_rfl))
      refine WpOps.keep 18 (Value.int IntKind.i64 (IntKind.wrap IntKind.i64 (2 * (↑n : Int)))) (by kernel_rfl) (by kernel_rfl) (by kernel_rfl) ?_ (fun cf => (by kernel_rfl))
      refine WpOps.keep 19 (Value.int IntKind.i64 (IntKind.wrap IntKind.i64 (IntKind.wrap IntKind.i64 ((↑p : Int) + 2) + IntKind.wrap IntKind.i64 (2 * (↑n : Int))))) (by kernel_rfl) (by kernel_rfl) (by kernel_rfl) ?_ (fun cf => (by kernel_rfl))
      refine WpOps.keep 20 (Value.string b) (by kernel_rfl) (by kernel_rfl) (by kernel_rfl) ?_ (fun cf => (by kernel_rfl))
      refine WpOps.keep 21 (Value.int IntKind.i64 (↑(ByteArray.size b) : Int)) (by kernel_rfl) (by kernel_rfl) (by kernel_rfl) ?_ (fun cf => (by kernel_rfl))
      refine WpOps.keep 22 (Value.bool true) (by kernel_rfl) (by kernel_rfl) (by kernel_rfl) ?_ (fun cf => by_fact hgt ((by kernel_rfl)))
      refine WpOps.keep 23 (Value.bool true) (by kernel_rfl) (by kernel_rfl) (by kernel_rfl) ?_ (fun cf => o_pickF hng (by kernel_rfl) (by kernel_rfl))
      refine WpOps.nil ?_
      refine thenK_at ?_
      refine Wp.on (by kernel_rfl) ?_
      refine Wp.seq ?_
      refine Wp.text ?_
      refine WpOps.keep 24 (Value.string b) (by kernel_rfl) (by kernel_rfl) (by kernel_rfl) ?_ (fun cf => (by kernel_rfl))
      refine WpOps.keep 25 (Value.int IntKind.i64 (↑(ByteArray.size b) : Int)) (by kernel_rfl) (by kernel_rfl) (by kernel_rfl) ?_ (fun cf => (by kernel_rfl))
      refine WpOps.keep 26 (Value.int IntKind.i64 (IntKind.wrap IntKind.i64 ((↑(ByteArray.size b) : Int) + 1))) (by kernel_rfl) (by kernel_rfl) (by kernel_rfl) ?_ (fun cf => (by kernel_rfl))
      refine WpOps.keep 4 (Value.slice none 0 0) (by kernel_rfl) (by kernel_rfl) (by kernel_rfl) ?_ (fun cf => (by kernel_rfl))
      refine WpOps.keep 5 (Value.int IntKind.i64 (IntKind.wrap IntKind.i64 ((↑(ByteArray.size b) : Int) + 1))) (by kernel_rfl) (by kernel_rfl) (by kernel_rfl) ?_ (fun cf => (by kernel_rfl))
      refine WpOps.nil ?_
      refine thenK_at ?_
      refine Wp.ret ?_
      refine thenK_ret ?_
      refine endK_retn [Value.slice none 0 0, Value.int IntKind.i64 (IntKind.wrap IntKind.i64 ((↑(ByteArray.size b) : Int) + 1))] (Value.tuple #[Value.slice none 0 0, Value.int IntKind.i64 (IntKind.wrap IntKind.i64 ((↑(ByteArray.size b) : Int) + 1))]) (by kernel_rfl) (by kernel_rfl) ?_
      exact nil_pair _ _
    · have hgt : decide (IntKind.i64.wrap (IntKind.i64.wrap ((p : Int) + 2) + IntKind.i64.wrap (2 * (n : Int))) > (b.size : Int)) = false := by
        rw [w3]; exact decide_eq_false (by omega)
      have e : adrV b b.size p = .tuple #[lAt b b.size p n, .int .i64 ((p + 2 + 2 * n : Nat) : Int)] := by
        unfold adrV adrO
        rw [if_pos (by omega), hnT]
      rw [e, ← w3]
      rcases Nat.eq_zero_or_pos n with h0 | h0
      · subst h0
        refine Fun.ofN f59 rfl (of_decide_eq_true (by kernel_rfl)) rfl ?_
        refine Wp.seq ?_
        refine Wp.text ?_
        refine WpOps.keep 4 (Value.slice none 0 0) (by kernel_rfl) (by kernel_rfl) (by kernel_rfl) ?_ (fun cf => (by kernel_rfl))
        refine WpOps.keep 5 (Value.int IntKind.i64 0) (by kernel_rfl) (by kernel_rfl) (by kernel_rfl) ?_ (fun cf => (by kernel_rfl))
        refine WpOps.nil ?_
        refine thenK_at ?_
        refine Wp.seq ?_
        refine Wp.text ?_
        refine WpOps.keep 9 (Value.string b) (by kernel_rfl) (by kernel_rfl) (by kernel_rfl) ?_ (fun cf => (by kernel_rfl))
        refine WpOps.keep 10 (Value.int IntKind.i64 (↑p : Int)) (by kernel_rfl) (by kernel_rfl) (by kernel_rfl) ?_ (fun cf => (by kernel_rfl))
        refine WpOps.framed 11 58 [Value.string b, Value.int IntKind.i64 (↑p : Int)] (by kernel_rfl) (by kernel_rfl) (by kernel_rfl) (by kernel_rfl) (by kernel_rfl) (fun cf => (by kernel_rfl)) ?_
        refine WpFun.of (c) ?_
        refine WpOps.keep 6 (Value.int IntKind.i64 (↑0 : Int)) (by kernel_rfl) (by kernel_rfl) (by kernel_rfl) ?_ (fun cf => (by kernel_rfl))
        refine WpOps.nil ?_
        refine thenK_at ?_
        refine Wp.seq ?_
        refine Wp.seq ?_
        refine Wp.text ?_
        refine WpOps.keep 12 (Value.int IntKind.i64 (↑0 : Int)) (by kernel_rfl) (by kernel_rfl) (by kernel_rfl) ?_ (fun cf => (by kernel_rfl))
        refine WpOps.keep 13 (Value.bool false) (by kernel_rfl) (by kernel_rfl) (by kernel_rfl) ?_ (fun cf => (by kernel_rfl))
        refine WpOps.keep 14 (Value.bool false) (by kernel_rfl) (by kernel_rfl) (by kernel_rfl) ?_ (fun cf => (by kernel_rfl))
        refine WpOps.keep 15 (Value.int IntKind.i64 (↑p : Int)) (by kernel_rfl) (by kernel_rfl) (by kernel_rfl) ?_ (fun cf => (by kernel_rfl))
        refine WpOps.keep 16 (Value.int IntKind.i64 (IntKind.wrap IntKind.i64 ((↑p : Int) + 2))) (by kernel_rfl) (by kernel_rfl) (by kernel_rfl) ?_ (fun cf => (by kernel_rfl))
        refine WpOps.keep 17 (Value.int IntKind.i64 (↑0 : Int)) (by kernel_rfl) (by kernel_rfl) (by kernel_rfl) ?_ (fun cf => (by kernel_rfl))
        refine WpOps.keep 18 (Value.int IntKind.i64 (IntKind.wrap IntKind.i64 (2 * (↑0 : Int)))) (by kernel_rfl) (by kernel_rfl) (by kernel_rfl) ?_ (fun cf => (by kernel_rfl))
        refine WpOps.keep 19 (Value.int IntKind.i64 (IntKind.wrap IntKind.i64 (IntKind.wrap IntKind.i64 ((↑p : Int) + 2) + IntKind.wrap IntKind.i64 (2 * (↑0 : Int))))) (by kernel_rfl) (by kernel_rfl) (by kernel_rfl) ?_ (fun cf => (by kernel_rfl))
        refine WpOps.keep 20 (Value.string b) (by kernel_rfl) (by kernel_rfl) (by kernel_rfl) ?_ (fun cf => (by kernel_rfl))
        refine WpOps.keep 21 (Value.int IntKind.i64 (↑(ByteArray.size b) : Int)) (by kernel_rfl) (by kernel_rfl) (by kernel_rfl) ?_ (fun cf => (by kernel_rfl))
        refine WpOps.keep 22 (Value.bool false) (by kernel_rfl) (by kernel_rfl) (by kernel_rfl) ?_ (fun cf => by_fact hgt ((by kernel_rfl)))
        refine WpOps.keep 23 (Value.bool false) (by kernel_rfl) (by kernel_rfl) (by kernel_rfl) ?_ (fun cf => (by kernel_rfl))
        refine WpOps.nil ?_
        refine thenK_at ?_
        refine Wp.off (by kernel_rfl) ?_
        refine Wp.skip ?_
        refine thenK_at ?_
        refine Wp.seq ?_
        refine Wp.text ?_
        refine WpOps.keep 7 (Value.slice none 0 0) (by kernel_rfl) (by kernel_rfl) (by kernel_rfl) ?_ (fun cf => (by kernel_rfl))
        refine WpOps.nil ?_
        refine thenK_at ?_
        refine Wp.seq ?_
        refine Wp.seq ?_
        refine Wp.text ?_
        refine WpOps.keep 8 (Value.int IntKind.i64 0) (by kernel_rfl) (by kernel_rfl) (by kernel_rfl) ?_ (fun cf => (by kernel_rfl))
        refine WpOps.nil ?_
        refine thenK_at ?_
        refine Wp.block ?_
        refine Wp.unroll (WpL.step ?_)
        refine Wp.seq ?_
        refine Wp.seq ?_
        refine Wp.text ?_
        refine WpOps.keep 27 (Value.int IntKind.i64 0) (by kernel_rfl) (by kernel_rfl) (by kernel_rfl) ?_ (fun cf => (by kernel_rfl))
        refine WpOps.keep 28 (Value.int IntKind.i64 (↑0 : Int)) (by kernel_rfl) (by kernel_rfl) (by kernel_rfl) ?_ (fun cf => (by kernel_rfl))
        refine WpOps.keep 29 (Value.bool false) (by kernel_rfl) (by kernel_rfl) (by kernel_rfl) ?_ (fun cf => (by kernel_rfl))
        refine WpOps.nil ?_
        refine thenK_at ?_
        refine Wp.off (by kernel_rfl) ?_
        refine Wp.exit ?_
        refine thenK_exit ?_
        refine thenK_exit ?_
        refine blockK_hit ?_
        refine thenK_at ?_
        refine Wp.seq ?_
        refine Wp.text ?_
        refine WpOps.keep 42 (Value.slice none 0 0) (by kernel_rfl) (by kernel_rfl) (by kernel_rfl) ?_ (fun cf => (by kernel_rfl))
        refine WpOps.keep 43 (Value.int IntKind.i64 (↑p : Int)) (by kernel_rfl) (by kernel_rfl) (by kernel_rfl) ?_ (fun cf => (by kernel_rfl))
        refine WpOps.keep 44 (Value.int IntKind.i64 (IntKind.wrap IntKind.i64 ((↑p : Int) + 2))) (by kernel_rfl) (by kernel_rfl) (by kernel_rfl) ?_ (fun cf => (by kernel_rfl))
        refine WpOps.keep 45 (Value.int IntKind.i64 (↑0 : Int)) (by kernel_rfl) (by kernel_rfl) (by kernel_rfl) ?_ (fun cf => (by kernel_rfl))
        refine WpOps.keep 46 (Value.int IntKind.i64 (IntKind.wrap IntKind.i64 (2 * (↑0 : Int)))) (by kernel_rfl) (by kernel_rfl) (by kernel_rfl) ?_ (fun cf => (by kernel_rfl))
        refine WpOps.keep 47 (Value.int IntKind.i64 (IntKind.wrap IntKind.i64 (IntKind.wrap IntKind.i64 ((↑p : Int) + 2) + IntKind.wrap IntKind.i64 (2 * (↑0 : Int))))) (by kernel_rfl) (by kernel_rfl) (by kernel_rfl) ?_ (fun cf => (by kernel_rfl))
        refine WpOps.keep 4 (Value.slice none 0 0) (by kernel_rfl) (by kernel_rfl) (by kernel_rfl) ?_ (fun cf => (by kernel_rfl))
        refine WpOps.keep 5 (Value.int IntKind.i64 (IntKind.wrap IntKind.i64 (IntKind.wrap IntKind.i64 ((↑p : Int) + 2) + IntKind.wrap IntKind.i64 (2 * (↑0 : Int))))) (by kernel_rfl) (by kernel_rfl) (by kernel_rfl) ?_ (fun cf => (by kernel_rfl))
        refine WpOps.nil ?_
        refine thenK_at ?_
        refine Wp.ret ?_
        refine endK_retn [Value.slice none 0 0, Value.int IntKind.i64 (IntKind.wrap IntKind.i64 (IntKind.wrap IntKind.i64 ((↑p : Int) + 2) + IntKind.wrap IntKind.i64 (2 * (↑0 : Int))))] (Value.tuple #[Value.slice none 0 0, Value.int IntKind.i64 (IntKind.wrap IntKind.i64 (IntKind.wrap IntKind.i64 ((↑p : Int) + 2) + IntKind.wrap IntKind.i64 (2 * (↑0 : Int))))]) (by kernel_rfl) (by kernel_rfl) ?_
        exact nil_pair _ _
      · refine Fun.of f59 rfl (of_decide_eq_true (by kernel_rfl)) (by unfold lAt; rw [if_neg (by omega)]; rfl) ?_
        have numI : ∀ i, i < n → Fun E 58 [.string b, .int .i64 (IntKind.i64.wrap (IntKind.i64.wrap ((p : Int) + 2) + IntKind.i64.wrap (2 * (i : Int))))] (.int .i64 (numO b b.size (p + 2 + 2 * i))) := fun i hi => by
          have w4 : IntKind.i64.wrap (IntKind.i64.wrap ((p : Int) + 2) + IntKind.i64.wrap (2 * (i : Int))) = ((p + 2 + 2 * i : Nat) : Int) := by
            have w2 : IntKind.i64.wrap (2 * (i : Int)) = ((2 * i : Nat) : Int) := by rw [wr _ (by omega) (by omega)]; omega
            rw [w1, w2, wr _ (by omega) (by omega)]; omega
          have e4 : numO b b.size (p + 2 + 2 * i) = num b (p + 2 + 2 * i) := if_pos (by omega)
          rw [w4, e4]
          exact num58 b _ (by omega) (by omega)
        refine Wp.seq ?_
        refine Wp.text ?_
        refine WpOps.keep 4 (Value.slice none 0 0) (by kernel_rfl) (by kernel_rfl) (by kernel_rfl) ?_ (fun cf => (by kernel_rfl))
        refine WpOps.keep 5 (Value.int IntKind.i64 0) (by kernel_rfl) (by kernel_rfl) (by kernel_rfl) ?_ (fun cf => (by kernel_rfl))
        refine WpOps.nil ?_
        refine thenK_at ?_
        refine Wp.seq ?_
        refine Wp.text ?_
        refine WpOps.keep 9 (Value.string b) (by kernel_rfl) (by kernel_rfl) (by kernel_rfl) ?_ (fun cf => (by kernel_rfl))
        refine WpOps.keep 10 (Value.int IntKind.i64 (↑p : Int)) (by kernel_rfl) (by kernel_rfl) (by kernel_rfl) ?_ (fun cf => (by kernel_rfl))
        refine WpOps.framed 11 58 [Value.string b, Value.int IntKind.i64 (↑p : Int)] (by kernel_rfl) (by kernel_rfl) (by kernel_rfl) (by kernel_rfl) (by kernel_rfl) (fun cf => (by kernel_rfl)) ?_
        refine WpFun.of (c) ?_
        refine WpOps.keep 6 (Value.int IntKind.i64 (↑n : Int)) (by kernel_rfl) (by kernel_rfl) (by kernel_rfl) ?_ (fun cf => (by kernel_rfl))
        refine WpOps.nil ?_
        refine thenK_at ?_
        refine Wp.seq ?_
        refine Wp.seq ?_
        refine Wp.text ?_
        refine WpOps.keep 12 (Value.int IntKind.i64 (↑n : Int)) (by kernel_rfl) (by kernel_rfl) (by kernel_rfl) ?_ (fun cf => (by kernel_rfl))
        refine WpOps.keep 13 (Value.bool (decide ((↑n : Int) < 0))) (by kernel_rfl) (by kernel_rfl) (by kernel_rfl) ?_ (fun cf => (by kernel_rfl))
        refine WpOps.keep 14 (Value.bool (decide ((↑n : Int) < 0))) (by kernel_rfl) (by kernel_rfl) (by kernel_rfl) ?_ (fun cf => (by kernel_rfl))
        refine WpOps.keep 15 (Value.int IntKind.i64 (↑p : Int)) (by kernel_rfl) (by kernel_rfl) (by kernel_rfl) ?_ (fun cf => (by kernel_rfl))
        refine WpOps.keep 16 (Value.int IntKind.i64 (IntKind.wrap IntKind.i64 ((↑p : Int) + 2))) (by kernel_rfl) (by kernel_rfl) (by kernel_rfl) ?_ (fun cf => (by kernel_rfl))
        refine WpOps.keep 17 (Value.int IntKind.i64 (↑n : Int)) (by kernel_rfl) (by kernel_rfl) (by kernel_rfl) ?_ (fun cf => (by kernel_rfl))
        refine WpOps.keep 18 (Value.int IntKind.i64 (IntKind.wrap IntKind.i64 (2 * (↑n : Int)))) (by kernel_rfl) (by kernel_rfl) (by kernel_rfl) ?_ (fun cf => (by kernel_rfl))
        refine WpOps.keep 19 (Value.int IntKind.i64 (IntKind.wrap IntKind.i64 (IntKind.wrap IntKind.i64 ((↑p : Int) + 2) + IntKind.wrap IntKind.i64 (2 * (↑n : Int))))) (by kernel_rfl) (by kernel_rfl) (by kernel_rfl) ?_ (fun cf => (by kernel_rfl))
        refine WpOps.keep 20 (Value.string b) (by kernel_rfl) (by kernel_rfl) (by kernel_rfl) ?_ (fun cf => (by kernel_rfl))
        refine WpOps.keep 21 (Value.int IntKind.i64 (↑(ByteArray.size b) : Int)) (by kernel_rfl) (by kernel_rfl) (by kernel_rfl) ?_ (fun cf => (by kernel_rfl))
        refine WpOps.keep 22 (Value.bool false) (by kernel_rfl) (by kernel_rfl) (by kernel_rfl) ?_ (fun cf => by_fact hgt ((by kernel_rfl)))
        refine WpOps.keep 23 (Value.bool false) (by kernel_rfl) (by kernel_rfl) (by kernel_rfl) ?_ (fun cf => o_pickF hng (by kernel_rfl) (by kernel_rfl))
        refine WpOps.nil ?_
        refine thenK_at ?_
        refine Wp.off (by kernel_rfl) ?_
        refine Wp.skip ?_
        refine thenK_at ?_
        refine Wp.seq ?_
        refine Wp.text ?_
        refine WpOps.keep 7 (Value.slice none 0 0) (by kernel_rfl) (by kernel_rfl) (by kernel_rfl) ?_ (fun cf => (by kernel_rfl))
        refine WpOps.nil ?_
        refine thenK_at ?_
        refine Wp.seq ?_
        refine Wp.seq ?_
        refine Wp.text ?_
        refine WpOps.keep 8 (Value.int IntKind.i64 0) (by kernel_rfl) (by kernel_rfl) (by kernel_rfl) ?_ (fun cf => (by kernel_rfl))
        refine WpOps.nil ?_
        refine thenK_at ?_
        refine Wp.block ?_
        refine Wp.view (View.of [] [] [(0, .string b), (1, .int .i64 (p : Int)), (6, .int .i64 (n : Int)), (7, .slice none 0 0), (8, .int .i64 ((0 : Nat) : Int))] (by decide) rfl trivial ⟨⟨by kernel_rfl, rfl⟩, ⟨by kernel_rfl, rfl⟩, ⟨by kernel_rfl, rfl⟩, ⟨by kernel_rfl, rfl⟩, ⟨by kernel_rfl, rfl⟩, trivial⟩) ?_
        refine Wp.unroll (WpL.step ?_)
        have hlt0 : decide (((0 : Nat) : Int) < (n : Int)) = true := decide_eq_true (by omega)
        have c0 := numI 0 h0
        refine Wp.seq ?_
        refine Wp.seq ?_
        refine Wp.text ?_
        refine WpOps.keep 27 (Value.int IntKind.i64 (↑0 : Int)) (by kernel_rfl) (by kernel_rfl) (by kernel_rfl) ?_ (fun cf => (by kernel_rfl))
        refine WpOps.keep 28 (Value.int IntKind.i64 (↑n : Int)) (by kernel_rfl) (by kernel_rfl) (by kernel_rfl) ?_ (fun cf => (by kernel_rfl))
        refine WpOps.keep 29 (Value.bool true) (by kernel_rfl) (by kernel_rfl) (by kernel_rfl) ?_ (fun cf => by_fact hlt0 ((by kernel_rfl)))
        refine WpOps.nil ?_
        refine thenK_at ?_
        refine Wp.on (by kernel_rfl) ?_
        refine Wp.skip ?_
        refine thenK_at ?_
        refine Wp.seq ?_
        refine Wp.block ?_
        refine Wp.text ?_
        refine WpOps.keep 32 (Value.slice none 0 0) (by kernel_rfl) (by kernel_rfl) (by kernel_rfl) ?_ (fun cf => (by kernel_rfl))
        refine WpOps.keep 33 (Value.string b) (by kernel_rfl) (by kernel_rfl) (by kernel_rfl) ?_ (fun cf => (by kernel_rfl))
        refine WpOps.keep 34 (Value.int IntKind.i64 (↑p : Int)) (by kernel_rfl) (by kernel_rfl) (by kernel_rfl) ?_ (fun cf => (by kernel_rfl))
        refine WpOps.keep 35 (Value.int IntKind.i64 (IntKind.wrap IntKind.i64 ((↑p : Int) + 2))) (by kernel_rfl) (by kernel_rfl) (by kernel_rfl) ?_ (fun cf => (by kernel_rfl))
        refine WpOps.keep 36 (Value.int IntKind.i64 (↑0 : Int)) (by kernel_rfl) (by kernel_rfl) (by kernel_rfl) ?_ (fun cf => (by kernel_rfl))
        refine WpOps.keep 37 (Value.int IntKind.i64 (IntKind.wrap IntKind.i64 (2 * (↑0 : Int)))) (by kernel_rfl) (by kernel_rfl) (by kernel_rfl) ?_ (fun cf => (by kernel_rfl))
        refine WpOps.keep 38 (Value.int IntKind.i64 (IntKind.wrap IntKind.i64 (IntKind.wrap IntKind.i64 ((↑p : Int) + 2) + IntKind.wrap IntKind.i64 (2 * (↑0 : Int))))) (by kernel_rfl) (by kernel_rfl) (by kernel_rfl) ?_ (fun cf => (by kernel_rfl))
        refine WpOps.framed 39 58 [Value.string b, Value.int IntKind.i64 (IntKind.wrap IntKind.i64 (IntKind.wrap IntKind.i64 ((↑p : Int) + 2) + IntKind.wrap IntKind.i64 (2 * (↑0 : Int))))] (by kernel_rfl) (by kernel_rfl) (by kernel_rfl) (by kernel_rfl) (by kernel_rfl) (fun cf => (by kernel_rfl)) ?_
        refine WpFun.of (numI _ (by assumption)) ?_
        refine WpOps.made 40 (Value.slice (some (Addr.mk 0 0 none)) 1 1) (Blk.mk 3 true [Value.int IntKind.i64 (numO b (ByteArray.size b) (p + 2 + 2 * 0))]) (by kernel_rfl) (by kernel_rfl) (by kernel_rfl) ?_ (fun cf => (by kernel_rfl))
        refine WpOps.chg 41 (Value.slice (some (Addr.mk 1 0 none)) 1 1) (Heap.alloc (Heap.alloc (heapOf []) (Blk.mk 3 true [Value.int IntKind.i64 (numO b (ByteArray.size b) (p + 2 + 0))])) (Blk.mk 3 true [Value.int IntKind.i64 (numO b (ByteArray.size b) (p + 2 + 0))])) (by kernel_rfl) (by kernel_rfl) (by kernel_rfl) ?_ (fun cf => (by kernel_rfl))
        refine WpOps.keep 7 (Value.slice (some (Addr.mk 1 0 none)) 1 1) (by kernel_rfl) (by kernel_rfl) (by kernel_rfl) ?_ (fun cf => (by kernel_rfl))
        refine WpOps.nil ?_
        refine blockK_norm ?_
        refine thenK_at ?_
        refine Wp.text ?_
        refine WpOps.keep 30 (Value.int IntKind.i64 (↑0 : Int)) (by kernel_rfl) (by kernel_rfl) (by kernel_rfl) ?_ (fun cf => (by kernel_rfl))
        refine WpOps.keep 31 (Value.int IntKind.i64 (IntKind.wrap IntKind.i64 ((↑0 : Int) + 1))) (by kernel_rfl) (by kernel_rfl) (by kernel_rfl) ?_ (fun cf => (by kernel_rfl))
        refine WpOps.keep 8 (Value.int IntKind.i64 (IntKind.wrap IntKind.i64 ((↑0 : Int) + 1))) (by kernel_rfl) (by kernel_rfl) (by kernel_rfl) ?_ (fun cf => (by kernel_rfl))
        refine WpOps.nil ?_
        refine thenK_at ?_
        refine WpL.loop (G := Nat) (fun i => layj [(0, .string b), (1, .int .i64 (p : Int)), (6, .int .i64 (n : Int)), (7, .slice (some ⟨0, 0, none⟩) i i), (8, .int .i64 (i : Int))]) (fun i => heapOf [⟨3, true, rowC b b.size (p + 2) i⟩]) (fun i => n - i) (fun i => 1 ≤ i ∧ i ≤ n) 1
          (View.of [1] [⟨3, true, rowC b b.size (p + 2) 1⟩] _ (by decide) rfl ⟨⟨_, by kernel_rfl, CellsOk.eq rfl (rowC_flat b b.size (p + 2) 1)⟩, trivial⟩
            ⟨⟨by kernel_rfl, rfl⟩, ⟨by kernel_rfl, rfl⟩, ⟨by kernel_rfl, rfl⟩, ⟨by kernel_rfl, rfl⟩, ⟨congrArg (Value.int .i64) (by rw [wr _ (by omega) (by omega)]; omega), rfl⟩, trivial⟩) ⟨Nat.le_refl _, h0⟩ ?_
        rintro i ⟨hi1, hin⟩
        refine Wp.seq ?_
        refine Wp.seq ?_
        refine Wp.text ?_
        refine WpOps.keep 27 (Value.int IntKind.i64 (↑i : Int)) (by kernel_rfl) (by kernel_rfl) (by kernel_rfl) ?_ (fun cf => (by kernel_rfl))
        refine WpOps.keep 28 (Value.int IntKind.i64 (↑n : Int)) (by kernel_rfl) (by kernel_rfl) (by kernel_rfl) ?_ (fun cf => (by kernel_rfl))
        refine WpOps.keep 29 (Value.bool (decide ((↑i : Int) < (↑n : Int)))) (by kernel_rfl) (by kernel_rfl) (by kernel_rfl) ?_ (fun cf => (by kernel_rfl))
        refine WpOps.nil ?_
        refine thenK_at ?_
        refine Wp.split (decide ((↑i : Int) < (↑n : Int))) (by kernel_rfl) (fun hc => ?_) (fun hc => ?_)
        · have hlt : i < n := by have := of_decide_eq_true hc; omega
          have c1 := numI i hlt
          have a1 : ¬ (i + 1 ≤ i) := by omega
          have a2 : 1 ≤ 8 ∧ (i + 1) * 8 ≤ 140737488355328 ∧ 1 = 1 ∧ i + 1 ≤ 9223372036854775807 := by omega
          have a3 := rowC_all b b.size (p + 2) i
          refine Wp.skip ?_
          refine thenK_at ?_
          refine Wp.seq ?_
          refine Wp.block ?_
          refine Wp.text ?_
          refine WpOps.keep 32 (Value.slice (some (Addr.mk 0 0 none)) i i) (by kernel_rfl) (by kernel_rfl) (by kernel_rfl) ?_ (fun cf => (by kernel_rfl))
          refine WpOps.keep 33 (Value.string b) (by kernel_rfl) (by kernel_rfl) (by kernel_rfl) ?_ (fun cf => (by kernel_rfl))
          refine WpOps.keep 34 (Value.int IntKind.i64 (↑p : Int)) (by kernel_rfl) (by kernel_rfl) (by kernel_rfl) ?_ (fun cf => (by kernel_rfl))
          refine WpOps.keep 35 (Value.int IntKind.i64 (IntKind.wrap IntKind.i64 ((↑p : Int) + 2))) (by kernel_rfl) (by kernel_rfl) (by kernel_rfl) ?_ (fun cf => (by kernel_rfl))
          refine WpOps.keep 36 (Value.int IntKind.i64 (↑i : Int)) (by kernel_rfl) (by kernel_rfl) (by kernel_rfl) ?_ (fun cf => (by kernel_rfl))
          refine WpOps.keep 37 (Value.int IntKind.i64 (IntKind.wrap IntKind.i64 (2 * (↑i : Int)))) (by kernel_rfl) (by kernel_rfl) (by kernel_rfl) ?_ (fun cf => (by kernel_rfl))
          refine WpOps.keep 38 (Value.int IntKind.i64 (IntKind.wrap IntKind.i64 (IntKind.wrap IntKind.i64 ((↑p : Int) + 2) + IntKind.wrap IntKind.i64 (2 * (↑i : Int))))) (by kernel_rfl) (by kernel_rfl) (by kernel_rfl) ?_ (fun cf => (by kernel_rfl))
          refine WpOps.framed 39 58 [Value.string b, Value.int IntKind.i64 (IntKind.wrap IntKind.i64 (IntKind.wrap IntKind.i64 ((↑p : Int) + 2) + IntKind.wrap IntKind.i64 (2 * (↑i : Int))))] (by kernel_rfl) (by kernel_rfl) (by kernel_rfl) (by kernel_rfl) (by kernel_rfl) (fun cf => (by kernel_rfl)) ?_
          refine WpFun.of (numI _ (by assumption)) ?_
          refine WpOps.made 40 (Value.slice (some (Addr.mk 1 0 none)) 1 1) (Blk.mk 3 true [Value.int IntKind.i64 (numO b (ByteArray.size b) (p + 2 + 2 * i))]) (by kernel_rfl) (by kernel_rfl) (by kernel_rfl) ?_ (fun cf => (by kernel_rfl))
          refine WpOps.chg 41 (Value.slice (some (Addr.mk 2 0 none)) (i + 1) (i + 1)) (Heap.alloc (Heap.set (Heap.alloc (heapOf [Blk.mk 3 true (rowC b (ByteArray.size b) (p + 2) i)]) (Blk.mk 3 true [Value.int IntKind.i64 (numO b (ByteArray.size b) (p + 2 + 2 * i))])) 0 none) (Blk.mk 3 true (rowC b (ByteArray.size b) (p + 2) i ++ [Value.int IntKind.i64 (numO b (ByteArray.size b) (p + 2 + 2 * i))]))) (by kernel_rfl) (by kernel_rfl) (by kernel_rfl) ?_ (fun cf => o_append (e := 3) 0 (0) (i) _ (i) a1 a2 a3 (by kernel_rfl) (by kernel_rfl) (by kernel_rfl) (by kernel_rfl))
          refine WpOps.keep 7 (Value.slice (some (Addr.mk 2 0 none)) (i + 1) (i + 1)) (by kernel_rfl) (by kernel_rfl) (by kernel_rfl) ?_ (fun cf => (by kernel_rfl))
          refine WpOps.nil ?_
          refine blockK_norm ?_
          refine thenK_at ?_
          refine Wp.text ?_
          refine WpOps.keep 30 (Value.int IntKind.i64 (↑i : Int)) (by kernel_rfl) (by kernel_rfl) (by kernel_rfl) ?_ (fun cf => (by kernel_rfl))
          refine WpOps.keep 31 (Value.int IntKind.i64 (IntKind.wrap IntKind.i64 ((↑i : Int) + 1))) (by kernel_rfl) (by kernel_rfl) (by kernel_rfl) ?_ (fun cf => (by kernel_rfl))
          refine WpOps.keep 8 (Value.int IntKind.i64 (IntKind.wrap IntKind.i64 ((↑i : Int) + 1))) (by kernel_rfl) (by kernel_rfl) (by kernel_rfl) ?_ (fun cf => (by kernel_rfl))
          refine WpOps.nil ?_
          refine thenK_at ?_
          exact ⟨i + 1, by omega, by omega, View.of [2] [⟨3, true, rowC b b.size (p + 2) (i + 1)⟩] _ (by decide) rfl ⟨⟨_, by kernel_rfl, CellsOk.eq (rowC_succ b b.size (p + 2) i).symm (rowC_flat b b.size (p + 2) (i + 1))⟩, trivial⟩
            ⟨⟨by kernel_rfl, rfl⟩, ⟨by kernel_rfl, rfl⟩, ⟨by kernel_rfl, rfl⟩, ⟨by kernel_rfl, rfl⟩, ⟨congrArg (Value.int .i64) (by rw [wr _ (by omega) (by omega)]; omega), rfl⟩, trivial⟩⟩
        · refine Wp.exit ?_
          refine thenK_exit ?_
          refine thenK_exit ?_
          refine blockK_hit ?_
          refine thenK_at ?_
          refine Wp.seq ?_
          refine Wp.text ?_
          refine WpOps.keep 42 (Value.slice (some (Addr.mk 0 0 none)) i i) (by kernel_rfl) (by kernel_rfl) (by kernel_rfl) ?_ (fun cf => (by kernel_rfl))
          refine WpOps.keep 43 (Value.int IntKind.i64 (↑p : Int)) (by kernel_rfl) (by kernel_rfl) (by kernel_rfl) ?_ (fun cf => (by kernel_rfl))
          refine WpOps.keep 44 (Value.int IntKind.i64 (IntKind.wrap IntKind.i64 ((↑p : Int) + 2))) (by kernel_rfl) (by kernel_rfl) (by kernel_rfl) ?_ (fun cf => (by kernel_rfl))
          refine WpOps.keep 45 (Value.int IntKind.i64 (↑n : Int)) (by kernel_rfl) (by kernel_rfl) (by kernel_rfl) ?_ (fun cf => (by kernel_rfl))
          refine WpOps.keep 46 (Value.int IntKind.i64 (IntKind.wrap IntKind.i64 (2 * (↑n : Int)))) (by kernel_rfl) (by kernel_rfl) (by kernel_rfl) ?_ (fun cf => (by kernel_rfl))
          refine WpOps.keep 47 (Value.int IntKind.i64 (IntKind.wrap IntKind.i64 (IntKind.wrap IntKind.i64 ((↑p : Int) + 2) + IntKind.wrap IntKind.i64 (2 * (↑n : Int))))) (by kernel_rfl) (by kernel_rfl) (by kernel_rfl) ?_ (fun cf => (by kernel_rfl))
          refine WpOps.keep 4 (Value.slice (some (Addr.mk 0 0 none)) i i) (by kernel_rfl) (by kernel_rfl) (by kernel_rfl) ?_ (fun cf => (by kernel_rfl))
          refine WpOps.keep 5 (Value.int IntKind.i64 (IntKind.wrap IntKind.i64 (IntKind.wrap IntKind.i64 ((↑p : Int) + 2) + IntKind.wrap IntKind.i64 (2 * (↑n : Int))))) (by kernel_rfl) (by kernel_rfl) (by kernel_rfl) ?_ (fun cf => (by kernel_rfl))
          refine WpOps.nil ?_
          refine thenK_at ?_
          refine Wp.ret ?_
          refine endK_retn [Value.slice (some (Addr.mk 0 0 none)) i i, Value.int IntKind.i64 (IntKind.wrap IntKind.i64 (IntKind.wrap IntKind.i64 ((↑p : Int) + 2) + IntKind.wrap IntKind.i64 (2 * (↑n : Int))))] (Value.tuple #[Value.slice (some (Addr.mk 0 0 none)) i i, Value.int IntKind.i64 (IntKind.wrap IntKind.i64 (IntKind.wrap IntKind.i64 ((↑p : Int) + 2) + IntKind.wrap IntKind.i64 (2 * (↑n : Int))))]) (by kernel_rfl) (by kernel_rfl) ?_
          obtain rfl : i = n := by have := of_decide_eq_false hc; omega
          have hr := ice_row (hp := heapOf [⟨3, true, rowC b b.size (p + 2) i⟩]) (b := 0) (n := i) (c := i) (row b b.size (p + 2) i) (row_len b b.size (p + 2) i).symm (by kernel_rfl)
          unfold lAt
          rw [if_neg (by omega)]
          exact ice_pair hr rfl
end Go.Proofs.Ytpkkcpglbjbgfaa.D
