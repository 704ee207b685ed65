/- Bits: Number of Octets; Mod. -/
import Derived.Test.YthhlfddpacmhfaaDoorFwLem
import Derived.Test.YthhlfddpacmhfaaDoorD01f
namespace Go.Proofs.YthhlfddpacmhfaaDoor.D
open Go.Fw Go.RowKit

theorem first_of {P : Nat → Prop} : ∀ m, P m → ∃ j, j ≤ m ∧ P j ∧ ∀ i, i < j → ¬ P i := by
  intro m
  induction m using Nat.strongRecOn with
  | _ m ih =>
    intro h
    by_cases hx : ∃ i, i < m ∧ P i
    · obtain ⟨i, hi, hp⟩ := hx
      obtain ⟨j, h1, h2, h3⟩ := ih i hi hp
      exact ⟨j, by omega, h2, h3⟩
    · exact ⟨m, Nat.le_refl _, h, fun i hi hp => hx ⟨i, hi, hp⟩⟩
theorem octets (n : Int) (h : -1000000000000000 ≤ n ∧ n ≤ 1000000000000000) : ∃ j, j ≤ 6 ∧ Stop n j ∧ Fun E 18 [.int .i64 n] (.tuple #[.string (octS n (j + 1)), .int .i64 0]) := by
  obtain ⟨j, h1, h2, h3⟩ := first_of (P := Stop n) 6 (stop6 n h)
  exact ⟨j, h1, h2, octets18' n j h h1 h2 h3⟩
theorem or8 (x : Int) (b : Nat) (hx : -36028797018963968 ≤ x ∧ x < 36028797018963968) (hb : b < 256) :
    IntKind.i64.wrap (((BitVec.ofInt 64 (x * 256) ||| BitVec.ofInt 64 (b : Int)).toNat : Nat) : Int) = x * 256 + b := by
  have e1 : (BitVec.ofInt 64 (x * 256)).toNat = 2 ^ 8 * (x % 72057594037927936).toNat := by
    rw [BitVec.toNat_ofInt]
    omega
  have e2 : (BitVec.ofInt 64 (b : Int)).toNat = b := by
    rw [BitVec.ofInt_natCast, BitVec.toNat_ofNat]
    omega
  rw [BitVec.toNat_or, e1, e2, ← Nat.two_pow_add_eq_or_of_lt (i := 8) hb, IntKind.wrap_i64]
  omega
theorem sh_top (n : Int) (j : Nat) (hs : Stop n j) : -128 ≤ sh n (8 * j) ∧ sh n (8 * j) < 128 := by
  have e : sh n (7 + 8 * j) = sh (sh n (8 * j)) 7 := by rw [sh_sh, Nat.add_comm]
  unfold Stop at hs
  rw [e] at hs
  generalize sh n (8 * j) = x at hs ⊢
  unfold sh at hs
  rw [show ((2 ^ 7 : Nat) : Int) = 128 from rfl] at hs
  omega
theorem sh_down (n : Int) (i : Nat) : sh n (8 * (i + 1)) * 256 + (bAt n i).toNat = sh n (8 * i) := by
  rw [bAt_nat, show 8 * (i + 1) = 8 * i + 8 by omega, ← sh_sh]
  generalize sh n (8 * i) = x
  unfold sh
  rw [show ((2 ^ 8 : Nat) : Int) = 256 from rfl]
  omega
theorem sh_le (n : Int) (k : Nat) (h : -1000000000000000 ≤ n ∧ n ≤ 1000000000000000) : -1000000000000000 ≤ sh n k ∧ sh n k ≤ 1000000000000000 := by
  unfold sh
  have hp : 0 < 2 ^ k := Nat.pow_pos (by decide)
  generalize 2 ^ k = P at hp
  constructor
  · rw [Int.le_ediv_iff_mul_le (by omega)]
    have : (P : Int) * 1000000000000000 ≥ 1 * 1000000000000000 := Int.mul_le_mul_of_nonneg_right (by omega) (by decide)
    omega
  · have h1 : n / (P : Int) ≤ 1000000000000000 / (P : Int) := Int.ediv_le_ediv (by omega) h.2
    have h2 : (1000000000000000 : Int) / (P : Int) ≤ 1000000000000000 := Int.ediv_le_self _ (by decide)
    omega
theorem i8w (b : Nat) (h : b < 256) : IntKind.i64.wrap (IntKind.i8.wrap (b : Int)) = if b < 128 then (b : Int) else (b : Int) - 256 := by
  have : ∀ b : Fin 256, IntKind.i64.wrap (IntKind.i8.wrap (b.val : Int)) = if b.val < 128 then (b.val : Int) else (b.val : Int) - 256 := by decide +kernel
  exact this ⟨b, h⟩
theorem f19 : E.funcs 19 = some Tryd.f19 := by kernel_rfl
theorem number19 (n : Int) (j : Nat) (h : -1000000000000000 ≤ n ∧ n ≤ 1000000000000000) (hj : j ≤ 6) (hs : Stop n j) : Fun E 19 [.string (octS n (j + 1))] (.tuple #[.int .i64 n, .int .i64 0]) := by
  refine Fun.of f19 rfl (of_decide_eq_true (by kernel_rfl)) rfl ?_
  have hz : (octS n (j + 1)).size = j + 1 := mkB_size _ _
  have d1 : decide (((octS n (j + 1)).size : Int) < 1) = false := decide_eq_false (by omega)
  have d2 : decide (((octS n (j + 1)).size : Int) > 8) = false := decide_eq_false (by omega)
  have n0 := byte_get (octS n (j + 1)) 0 (by omega)
  have a0 : byteAt (octS n (j + 1)) 0 = bAt n j := mkB_at _ _ 0 (by omega)
  refine Wp.seq (Wp.text ?_)
  refine kp 2 (.int IntKind.i64 0) ?_
  refine kp 3 (.int IntKind.i64 0) ?_
  refine WpOps.nil (thenK_at (Wp.seq (Wp.seq (Wp.text ?_))))
  refine kp 6 (.string (octS n (j + 1))) ?_
  refine kp 7 (.int IntKind.i64 (↑(ByteArray.size (octS n (j + 1))) : Int)) ?_
  refine kp 8 (.bool false) ?_ (hop := fun _ => by_fact d1)
  refine kp 9 (.bool false) ?_
  refine kp 10 (.string (octS n (j + 1))) ?_
  refine kp 11 (.int IntKind.i64 (↑(ByteArray.size (octS n (j + 1))) : Int)) ?_
  refine kp 12 (.bool false) ?_ (hop := fun _ => by_fact d2)
  refine kp 13 (.bool false) ?_
  refine WpOps.nil (thenK_at (off' (Wp.skip (thenK_at (Wp.seq (Wp.text ?_))))))
  refine kp 14 (.string (octS n (j + 1))) ?_
  refine kp 15 (.int IntKind.u8 (↑(UInt8.toNat (byteAt (octS n (j + 1)) 0)) : Int)) ?_ (hop := fun _ => o_indexStr (of_decide_eq_true (by kernel_rfl)) n0)
  refine kp 16 (.int IntKind.i8 (IntKind.wrap .i8 (↑(UInt8.toNat (byteAt (octS n (j + 1)) 0)) : Int))) ?_
  refine kp 17 (.int IntKind.i64 (IntKind.wrap .i64 (IntKind.wrap .i8 (↑(UInt8.toNat (byteAt (octS n (j + 1)) 0)) : Int)))) ?_
  refine kp 4 (.int IntKind.i64 (IntKind.wrap .i64 (IntKind.wrap .i8 (↑(UInt8.toNat (byteAt (octS n (j + 1)) 0)) : Int)))) ?_
  refine WpOps.nil (thenK_at (Wp.seq (Wp.seq (Wp.text ?_))))
  refine kp 5 (.int IntKind.i64 1) ?_
  refine WpOps.nil (thenK_at (Wp.block ?_))
  refine Wp.loop (G := Nat) (fun k => layj [(0, .string (octS n (j + 1))), (4, .int .i64 (sh n (8 * (j - k)))), (5, .int .i64 (k + 1 : Nat))]) (fun _ => heapOf []) (fun k => j - k) (fun k => k ≤ j) 0
    (View.of [] [] _ (by decide) rfl trivial ⟨⟨by kernel_rfl, rfl⟩, ⟨congrArg (Value.int .i64) (?_ : _ = sh n (8 * (j - 0))), rfl⟩, ⟨by kernel_rfl, rfl⟩, trivial⟩) (Nat.zero_le _) ?_
  · rw [a0]
    have t := sh_top n j hs
    have t2 := bAt_nat n j
    rw [Nat.sub_zero]
    refine (i8w _ (UInt8.toNat_lt _)).trans ?_
    split <;> omega
  intro k hk
  refine Wp.seq (Wp.seq (Wp.text ?_))
  refine kp 18 (.int IntKind.i64 (↑(k + 1) : Int)) ?_
  refine kp 19 (.string (octS n (j + 1))) ?_
  refine kp 20 (.int IntKind.i64 (↑(ByteArray.size (octS n (j + 1))) : Int)) ?_
  refine kp 21 (.bool (decide ((↑(k + 1) : Int) < (↑(ByteArray.size (octS n (j + 1))) : Int)))) ?_
  refine WpOps.nil (thenK_at ?_)
  refine Wp.split (decide ((↑(k + 1) : Int) < (↑(ByteArray.size (octS n (j + 1))) : Int))) (by kernel_rfl) (fun hc => ?_) (fun hc => ?_)
  · have hlt := of_decide_eq_true hc
    have m3 : 0 ≤ ((k + 1 : Nat) : Int) := by omega
    have n3 := byte_get (octS n (j + 1)) (k + 1) (by omega)
    have a3 : byteAt (octS n (j + 1)) (k + 1) = bAt n (j - (k + 1)) := by
      unfold octS
      rw [mkB_at _ _ _ (by omega), show j + 1 - 1 - (k + 1) = j - (k + 1) by omega]
    refine Wp.skip (thenK_at (Wp.seq (Wp.block (Wp.text ?_))))
    refine kp 24 (.int IntKind.i64 (sh n (8 * (j - k)))) ?_
    refine kp 25 (.int IntKind.i64 (IntKind.wrap .i64 (sh n (8 * (j - k)) * 2 ^ 8))) ?_
    refine kp 26 (.string (octS n (j + 1))) ?_
    refine kp 27 (.int IntKind.i64 (↑(k + 1) : Int)) ?_
    refine kp 28 (.int IntKind.u8 (↑(UInt8.toNat (byteAt (octS n (j + 1)) (k + 1))) : Int)) ?_ (hop := fun _ => o_indexStr m3 n3)
    refine kp 29 (.int IntKind.i64 (IntKind.wrap .i64 (↑(UInt8.toNat (byteAt (octS n (j + 1)) (k + 1))) : Int))) ?_
    refine kp 30 (.int IntKind.i64 (IntKind.wrap .i64 (↑(BitVec.toNat (BitVec.ofInt 64 (IntKind.wrap .i64 (sh n (8 * (j - k)) * 2 ^ 8)) ||| BitVec.ofInt 64 (IntKind.wrap .i64 (↑(UInt8.toNat (byteAt (octS n (j + 1)) (k + 1))) : Int)))) : Int))) ?_
    refine kp 4 (.int IntKind.i64 (IntKind.wrap .i64 (↑(BitVec.toNat (BitVec.ofInt 64 (IntKind.wrap .i64 (sh n (8 * (j - k)) * 2 ^ 8)) ||| BitVec.ofInt 64 (IntKind.wrap .i64 (↑(UInt8.toNat (byteAt (octS n (j + 1)) (k + 1))) : Int)))) : Int))) ?_
    refine WpOps.nil (blockK_norm (thenK_at (Wp.text ?_)))
    refine kp 22 (.int IntKind.i64 (↑(k + 1) : Int)) ?_
    refine kp 23 (.int IntKind.i64 (IntKind.wrap .i64 ((↑(k + 1) : Int) + 1))) ?_
    refine kp 5 (.int IntKind.i64 (IntKind.wrap .i64 ((↑(k + 1) : Int) + 1))) ?_
    refine WpOps.nil (thenK_at ?_)
    refine ⟨k + 1, by omega, by omega, View.of [] [] _ (by decide) rfl trivial ⟨⟨by kernel_rfl, rfl⟩, ⟨congrArg (Value.int .i64) (?_ : _ = sh n (8 * (j - (k + 1)))), rfl⟩, ⟨congrArg (Value.int .i64) (wr _ (by omega) (by omega)), rfl⟩, trivial⟩⟩
    have hb := UInt8.toNat_lt (bAt n (j - (k + 1)))
    have hx := sh_le n (8 * (j - k)) h
    have hd := sh_down n (j - (k + 1))
    rw [show j - (k + 1) + 1 = j - k by omega] at hd
    have e1 : IntKind.i64.wrap (sh n (8 * (j - k)) * 2 ^ 8) = sh n (8 * (j - k)) * 256 := wrs _ (by omega) (by omega)
    rw [a3, ← hd]
    refine Eq.trans ?_ (or8 _ _ (by omega) hb)
    rw [← e1]
    congr 5
    exact wr _ (by omega) (by omega)
  · have hle := of_decide_eq_false hc
    obtain rfl : k = j := by omega
    have e0 : sh n (8 * (k - k)) = n := by
      rw [Nat.sub_self]
      unfold sh
      exact Int.ediv_one n
    have d3 : decide (sh n (8 * (k - k)) < -1000000000000000) = false := decide_eq_false (by omega)
    have d4 : decide (sh n (8 * (k - k)) > 1000000000000000) = false := decide_eq_false (by omega)
    refine Wp.exit (thenK_exit (thenK_exit (blockK_hit (thenK_at (Wp.seq (Wp.seq (Wp.text ?_)))))))
    refine kp 31 (.int IntKind.i64 (sh n (8 * (k - k)))) ?_
    refine kp 32 (.bool false) ?_ (hop := fun _ => by_fact d3)
    refine kp 33 (.bool false) ?_
    refine kp 34 (.int IntKind.i64 (sh n (8 * (k - k)))) ?_
    refine kp 35 (.bool false) ?_ (hop := fun _ => by_fact d4)
    refine kp 36 (.bool false) ?_
    refine WpOps.nil (thenK_at (off' (Wp.skip (thenK_at (Wp.seq (Wp.text ?_))))))
    refine kp 37 (.int IntKind.i64 (sh n (8 * (k - k)))) ?_
    refine kp 2 (.int IntKind.i64 (sh n (8 * (k - k)))) ?_
    refine kp 3 (.int IntKind.i64 0) ?_
    refine WpOps.nil (thenK_at (Wp.ret ?_))
    refine endK_retn [Value.int IntKind.i64 (sh n (8 * (k - k))), Value.int IntKind.i64 0] (Value.tuple #[Value.int IntKind.i64 (sh n (8 * (k - k))), Value.int IntKind.i64 0]) (by kernel_rfl) (by kernel_rfl) ?_
    rw [e0]
    rfl

/-! ## Mod -/
def modP (x : Int) (p : Nat) : Nat := (x % (p : Int)).toNat
theorem f14 : E.funcs 14 = some Tryd.f14 := by kernel_rfl
theorem mod14 (x : Int) (p : Nat) (h0 : 1 ≤ p) (h1 : p ≤ 1152921504606846976) : Fun E 14 [.int .i64 x, .int .i64 p] (.int .i64 (modP x p)) := by
  refine Fun.of f14 rfl (of_decide_eq_true (by kernel_rfl)) rfl ?_
  have d1 : decide ((p : Int) < 1) = false := decide_eq_false (by omega)
  have d2 : ¬ (p : Int) = 0 := by omega
  have t1 := Int.tmod_lt_of_pos x (b := p) (by omega)
  have t2 := Int.lt_tmod_of_pos x (b := p) (by omega)
  have t3 : (if x.tmod p < 0 then x.tmod p + p else x.tmod p) = (modP x p : Int) := by
    unfold modP
    rw [Int.toNat_of_nonneg (Int.emod_nonneg _ (by omega))]
    have ht := Int.tmod_eq_emod (a := x) (b := (p : Int))
    have h5 := Int.emod_nonneg x (b := (p : Int)) (by omega)
    have h6 := Int.emod_lt_of_pos x (b := (p : Int)) (by omega)
    rw [Int.natAbs_natCast] at ht
    by_cases hx : 0 ≤ x ∨ (p : Int) ∣ x
    · rw [if_pos hx] at ht
      rw [if_neg (by omega)]
      omega
    · rw [if_neg hx] at ht
      rw [if_pos (by omega)]
      omega
  refine Wp.seq (Wp.text ?_)
  refine kp 4 (.int IntKind.i64 0) ?_
  refine WpOps.nil (thenK_at (Wp.seq (Wp.seq (Wp.text ?_))))
  refine kp 6 (.int IntKind.i64 (↑p : Int)) ?_
  refine kp 7 (.bool false) ?_ (hop := fun _ => by_fact d1)
  refine WpOps.nil (thenK_at (off' (Wp.skip (thenK_at (Wp.seq (Wp.text ?_))))))
  refine kp 8 (.int IntKind.i64 x) ?_
  refine kp 9 (.int IntKind.i64 (↑p : Int)) ?_
  refine kp 10 (.int IntKind.i64 (Int.tmod x (↑p : Int))) ?_ (hop := fun _ => o_rem d2)
  refine kp 5 (.int IntKind.i64 (Int.tmod x (↑p : Int))) ?_
  refine WpOps.nil (thenK_at (Wp.seq (Wp.seq (Wp.text ?_))))
  refine kp 11 (.int IntKind.i64 (Int.tmod x (↑p : Int))) ?_
  refine kp 12 (.bool (decide (Int.tmod x (↑p : Int) < 0))) ?_
  refine WpOps.nil (thenK_at ?_)
  refine Wp.split (decide (Int.tmod x (↑p : Int) < 0)) (by kernel_rfl) (fun hc => ?_) (fun hc => ?_)
  · have hl := of_decide_eq_true hc
    refine Wp.text ?_
    refine kp 13 (.int IntKind.i64 (Int.tmod x (↑p : Int))) ?_
    refine kp 14 (.int IntKind.i64 (↑p : Int)) ?_
    refine kp 15 (.int IntKind.i64 (IntKind.wrap .i64 (Int.tmod x (↑p : Int) + (↑p : Int)))) ?_
    refine kp 5 (.int IntKind.i64 (IntKind.wrap .i64 (Int.tmod x (↑p : Int) + (↑p : Int)))) ?_
    refine WpOps.nil (thenK_at (Wp.seq (Wp.text ?_)))
    refine kp 16 (.int IntKind.i64 (IntKind.wrap .i64 (Int.tmod x (↑p : Int) + (↑p : Int)))) ?_
    refine kp 4 (.int IntKind.i64 (IntKind.wrap .i64 (Int.tmod x (↑p : Int) + (↑p : Int)))) ?_
    refine WpOps.nil (thenK_at (Wp.ret ?_))
    refine endK_retn [Value.int IntKind.i64 (IntKind.wrap IntKind.i64 (Int.tmod x (↑p : Int) + (↑p : Int)))] (Value.int IntKind.i64 (IntKind.wrap IntKind.i64 (Int.tmod x (↑p : Int) + (↑p : Int)))) (by kernel_rfl) (by kernel_rfl) ?_
    rw [if_pos hl] at t3
    rw [wrs _ (by omega) (by omega), t3]
    rfl
  · have hl := of_decide_eq_false hc
    refine Wp.skip (thenK_at (Wp.seq (Wp.text ?_)))
    refine kp 16 (.int IntKind.i64 (Int.tmod x (↑p : Int))) ?_
    refine kp 4 (.int IntKind.i64 (Int.tmod x (↑p : Int))) ?_
    refine WpOps.nil (thenK_at (Wp.ret ?_))
    refine endK_retn [Value.int IntKind.i64 (Int.tmod x (↑p : Int))] (Value.int IntKind.i64 (Int.tmod x (↑p : Int))) (by kernel_rfl) (by kernel_rfl) ?_
    rw [if_neg hl] at t3
    rw [t3]
    rfl
end Go.Proofs.YthhlfddpacmhfaaDoor.D
