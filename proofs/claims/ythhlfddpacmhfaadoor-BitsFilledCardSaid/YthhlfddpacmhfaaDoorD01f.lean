/- Bits: Octets. -/
import Derived.Test.YthhlfddpacmhfaaDoorFwLem
import Derived.Test.YthhlfddpacmhfaaDoorD01e
namespace Go.Proofs.YthhlfddpacmhfaaDoor.D
open Go.Fw Go.RowKit

def sh (n : Int) (k : Nat) : Int := n / ((2 ^ k : Nat) : Int)
theorem sh_fdiv (n : Int) (k : Nat) (h : k ≤ 64) : n.fdiv (2 ^ min k 64) = sh n k := by
  rw [Nat.min_eq_left h, two_pow_cast, Int.fdiv_eq_ediv_of_nonneg _ (Int.natCast_nonneg _)]
  rfl
theorem sh_sh (n : Int) (k l : Nat) : sh (sh n k) l = sh n (k + l) := by
  unfold sh
  rw [Int.ediv_ediv_of_nonneg (Int.natCast_nonneg _), ← Int.natCast_mul, ← Nat.pow_add]
def bAt (n : Int) (i : Nat) : UInt8 := UInt8.ofNat (sh n (8 * i) % 256).toNat
theorem bAt_nat (n : Int) (i : Nat) : ((bAt n i).toNat : Int) = sh n (8 * i) % 256 := by
  unfold bAt
  rw [UInt8.toNat_ofNat']
  omega
def big : Int := 1000000000000000
def Stop (n : Int) (j : Nat) : Prop := sh n (7 + 8 * j) = 0 ∨ sh n (7 + 8 * j) = -1
theorem stop6 (n : Int) (h : -1000000000000000 ≤ n ∧ n ≤ 1000000000000000) : Stop n 6 := by
  unfold Stop sh
  rw [show ((2 ^ (7 + 8 * 6) : Nat) : Int) = 36028797018963968 by decide]
  omega
theorem f18 : E.funcs 18 = some Tryd.f18 := by kernel_rfl
def octS (n : Int) (L : Nat) : ByteArray := mkB L fun p => bAt n (L - 1 - p)
theorem mkB_snoc (k : Nat) (f : Nat → UInt8) : byteCells (mkB k f) ++ [.int .u8 (f k).toNat] = byteCells (mkB (k + 1) f) := by
  rw [mkB_cells, mkB_cells, List.range_succ, List.map_append]
  rfl
theorem u8w (x : Int) : IntKind.u8.wrap x = x % 256 := rfl
theorem bAt0 (n : Int) : [Value.int .u8 (IntKind.u8.wrap n)] = byteCells (mkB (0 + 1) fun p => bAt n p) := by
  have e : IntKind.u8.wrap n = ((bAt n 0).toNat : Int) := by
    rw [bAt_nat, u8w]
    unfold sh
    rw [show ((2 ^ (8 * 0) : Nat) : Int) = 1 from rfl, Int.ediv_one]
  rw [e]
  exact mkB_snoc 0 _
def swF (n : Int) (L i : Nat) (p : Nat) : UInt8 := if p < i ∨ L ≤ p + i then bAt n (L - 1 - p) else bAt n p
theorem swF0 (n : Int) (L : Nat) : byteCells (mkB L fun p => bAt n p) = byteCells (mkB L (swF n L 0)) := by
  congr 1
  apply mkB_congr
  intro i hi
  unfold swF
  rw [if_neg (by omega)]
theorem swF_step (n : Int) (L i : Nat) (h : 2 * i + 1 < L) : ((byteCells (mkB L (swF n L i))).set i (.int .u8 (bAt n (L - 1 - i)).toNat)).set (L - 1 - i) (.int .u8 (bAt n i).toNat) = byteCells (mkB L (swF n L (i + 1))) := by
  rw [mkB_set, mkB_set]
  congr 1
  apply mkB_congr
  intro p hp
  show (if p = L - 1 - i then _ else if p = i then _ else swF n L i p) = swF n L (i + 1) p
  unfold swF
  by_cases h1 : p = L - 1 - i
  · rw [if_pos h1, if_pos (by omega), show L - 1 - p = i by omega]
  · rw [if_neg h1]
    by_cases h2 : p = i
    · rw [if_pos h2, if_pos (by omega), h2]
    · rw [if_neg h2]
      by_cases h3 : p < i ∨ L ≤ p + i
      · rw [if_pos h3, if_pos (by omega)]
      · rw [if_neg h3, if_neg (by omega)]
theorem swF_end (n : Int) (L i : Nat) (h : L ≤ 2 * i + 1) : byteCells (mkB L (swF n L i)) = byteCells (octS n L) := by
  unfold octS
  congr 1
  apply mkB_congr
  intro p hp
  unfold swF
  split
  · rfl
  · rw [show L - 1 - p = p by omega]
theorem octets18' (n : Int) (j : Nat) (h : -1000000000000000 ≤ n ∧ n ≤ 1000000000000000) (hj : j ≤ 6) (hs : Stop n j) (hn : ∀ i, i < j → ¬ Stop n i) : Fun E 18 [.int .i64 n] (.tuple #[.string (octS n (j + 1)), .int .i64 0]) := by
  refine Fun.of f18 rfl (of_decide_eq_true (by kernel_rfl)) rfl ?_
  have d1 : decide (n < -1000000000000000) = false := decide_eq_false (by omega)
  have d2 : decide (n > 1000000000000000) = false := decide_eq_false (by omega)
  refine Wp.seq (Wp.text ?_)
  refine kp 2 (.string (ByteArray.mk #[])) ?_
  refine kp 3 (.int IntKind.i64 0) ?_
  refine WpOps.nil (thenK_at (Wp.seq (Wp.seq (Wp.text ?_))))
  refine kp 8 (.int IntKind.i64 n) ?_
  refine kp 9 (.bool false) ?_ (hop := fun _ => by_fact d1)
  refine kp 10 (.bool false) ?_
  refine kp 11 (.int IntKind.i64 n) ?_
  refine kp 12 (.bool false) ?_ (hop := fun _ => by_fact d2)
  refine kp 13 (.bool false) ?_
  refine WpOps.nil (thenK_at (off' (Wp.skip (thenK_at (Wp.seq (Wp.text ?_))))))
  refine kp 14 (.int IntKind.i64 n) ?_
  refine kp 15 (.int IntKind.u8 (IntKind.wrap .u8 n)) ?_
  refine md 16 (.slice (some ⟨0, 0, none⟩) 1 1) (Blk.mk 5 true [Value.int .u8 (IntKind.wrap .u8 n)]) ?_
  refine kp 4 (.slice (some ⟨0, 0, none⟩) 1 1) ?_
  refine WpOps.nil (thenK_at (Wp.seq (Wp.seq (Wp.text ?_))))
  refine kp 17 (.int IntKind.i64 n) ?_
  refine kp 18 (.int IntKind.i64 (Int.fdiv n (2 ^ 7))) ?_
  refine kp 5 (.int IntKind.i64 (Int.fdiv n (2 ^ 7))) ?_
  refine WpOps.nil (thenK_at (Wp.block ?_))
  refine Wp.loop (G := Nat) (fun k => layj [(4, .slice (some ⟨0, 0, none⟩) (k + 1) (k + 1)), (5, .int .i64 (sh n (7 + 8 * k)))]) (fun k => heapOf [⟨5, true, byteCells (mkB (k + 1) fun p => bAt n p)⟩]) (fun k => j - k) (fun k => k ≤ j) 0
    (View.of [0] [⟨5, true, byteCells (mkB (0 + 1) fun p => bAt n p)⟩] _ (by decide) rfl ⟨⟨_, by kernel_rfl, CellsOk.eq (bAt0 n) (byteCells_flat _)⟩, trivial⟩ ⟨⟨by kernel_rfl, rfl⟩, ⟨congrArg (Value.int .i64) (sh_fdiv n 7 (by decide)), rfl⟩, trivial⟩) (Nat.zero_le _) ?_
  intro k hk
  have hk6 : k ≤ 6 := by omega
  by_cases hst : Stop n k
  · obtain rfl : k = j := by
      rcases Nat.lt_or_ge k j with h1 | h1
      · exact absurd hst (hn k h1)
      · omega
    have d3 : (bif (sh n (7 + 8 * k) != 0) then (sh n (7 + 8 * k) != -1) else false) = false := by
      rcases hst with e | e <;> rw [e] <;> rfl
    have e0 : (fun p => if p < 0 ∨ k + 1 - 0 ≤ p then bAt n (k + 1 - 1 - p) else bAt n p) 0 = (fun p => bAt n p) 0 := rfl
    refine Wp.seq (Wp.seq (Wp.text ?_))
    refine kp 19 (.int IntKind.i64 (sh n (7 + 8 * k))) ?_
    refine kp 20 (.bool (sh n (7 + 8 * k) != 0)) ?_
    refine kp 21 (.bool (sh n (7 + 8 * k) != 0)) ?_
    refine WpOps.fork 3 (sh n (7 + 8 * k) != 0) [22, 23, 24] 24 (sh n (7 + 8 * k) != -1) (false) (by kernel_rfl) (fun g24 => ?_) (fun g24 => ?_) (fun f_24 b24 hb24 => ?_)
    · refine kp 22 (.int IntKind.i64 (sh n (7 + 8 * k))) ?_ (hw := wants_tt g24)
      refine kp 23 (.bool (sh n (7 + 8 * k) != -1)) ?_ (hw := wants_tt g24)
      refine kp 24 (.bool (sh n (7 + 8 * k) != -1)) ?_ (hop := fun _ => o_pickT g24)
      refine WpOps.nil ?_
      exact ⟨rfl, (.upd rfl (.upd rfl (.upd rfl .refl))), (by kernel_rfl)⟩
    · refine um 22 ?_ (hw := wants_ft g24)
      refine um 23 ?_ (hw := wants_ft g24)
      refine kp 24 (.bool false) ?_ (hop := fun _ => o_pickF g24)
      refine WpOps.nil ?_
      exact ⟨rfl, (.upd rfl (.upd rfl (.upd rfl .refl))), (by kernel_rfl)⟩
    refine WpOps.nil (thenK_at ?_)
    refine Wp.split (b24) (by kernel_rfl) (fun hc => ?_) (fun hc => ?_)
    · rw [hb24, d3] at hc
      cases hc
    · refine Wp.exit (thenK_exit (thenK_exit (blockK_hit (thenK_at (Wp.seq (Wp.seq (Wp.text ?_)))))))
      refine kp 33 (.slice (some ⟨0, 0, none⟩) (k + 1) (k + 1)) ?_
      refine kp 34 (.int IntKind.i64 (↑(k + 1) : Int)) ?_
      refine kp 35 (.int IntKind.i64 (IntKind.wrap .i64 ((↑(k + 1) : Int) - 1))) ?_
      refine kp 6 (.int IntKind.i64 0) ?_
      refine kp 7 (.int IntKind.i64 (IntKind.wrap .i64 ((↑(k + 1) : Int) - 1))) ?_
      refine WpOps.nil (thenK_at (Wp.block ?_))
      refine Wp.loop (G := Nat) (fun i => layj [(4, .slice (some ⟨0, 0, none⟩) (k + 1) (k + 1)), (6, .int .i64 i), (7, .int .i64 ((k : Int) - i))]) (fun i => heapOf [⟨5, true, byteCells (mkB (k + 1) (swF n (k + 1) i))⟩]) (fun i => k - i) (fun i => 2 * i ≤ k + 1) 0
        (View.of [0] [⟨5, true, byteCells (mkB (k + 1) (swF n (k + 1) 0))⟩] _ (by decide) rfl ⟨⟨_, by kernel_rfl, CellsOk.eq (swF0 n (k + 1)) (byteCells_flat _)⟩, trivial⟩ ⟨⟨by kernel_rfl, rfl⟩, ⟨by kernel_rfl, rfl⟩, ⟨congrArg (Value.int .i64) (?_ : _ = (k : Int) - (0 : Nat)), rfl⟩, trivial⟩) (by omega) ?_
      · exact (wr _ (by omega) (by omega)).trans (by omega)
      intro i hi
      refine Wp.seq (Wp.seq (Wp.text ?_))
      refine kp 36 (.int IntKind.i64 (↑i : Int)) ?_
      refine kp 37 (.int IntKind.i64 ((↑k : Int) - (↑i : Int))) ?_
      refine kp 38 (.bool (decide ((↑i : Int) < (↑k : Int) - (↑i : Int)))) ?_
      refine WpOps.nil (thenK_at ?_)
      refine Wp.split (decide ((↑i : Int) < (↑k : Int) - (↑i : Int))) (by kernel_rfl) (fun hc2 => ?_) (fun hc2 => ?_)
      · have hlt := of_decide_eq_true hc2
        have g1 : 0 ≤ (k : Int) - i ∧ (k : Int) - i < ((k + 1 : Nat) : Int) := by omega
        have g2 : 0 ≤ (i : Int) ∧ (i : Int) < ((k + 1 : Nat) : Int) := by omega
        have eK : ((k : Int) - i).toNat = k - i := by omega
        have v1 : (byteCells (mkB (k + 1) (swF n (k + 1) i)))[0 + ((k : Int) - i).toNat * 1]? = some (.int .u8 (bAt n (k - i)).toNat) := by
          have hb := byteCells_at (mkB (k + 1) (swF n (k + 1) i)) (k - i) (by rw [mkB_size]; omega)
          rw [Int.toNat_natCast, mkB_at _ _ _ (by omega)] at hb
          rw [eK, hb]
          unfold swF
          rw [if_neg (by omega)]
        have v2 : (byteCells (mkB (k + 1) (swF n (k + 1) i)))[0 + (i : Int).toNat * 1]? = some (.int .u8 (bAt n i).toNat) := by
          rw [byteCells_at _ _ (by rw [mkB_size]; omega), mkB_at _ _ _ (by omega)]
          unfold swF
          rw [if_neg (by omega)]
        have l1 : true = true ∧ 0 + (i : Int).toNat * 1 + [Value.int .u8 (bAt n (k - i)).toNat].length ≤ (byteCells (mkB (k + 1) (swF n (k + 1) i))).length := by
          rw [byteCells_length, mkB_size]
          exact ⟨rfl, by simp only [List.length_singleton]; omega⟩
        have l2 : true = true ∧ 0 + ((k : Int) - i).toNat * 1 + [Value.int .u8 (bAt n i).toNat].length ≤ ((byteCells (mkB (k + 1) (swF n (k + 1) i))).set (0 + (i : Int).toNat * 1) (.int .u8 (bAt n (k - i)).toNat)).length := by
          rw [List.length_set, byteCells_length, mkB_size]
          exact ⟨rfl, by simp only [List.length_singleton]; omega⟩
        have e9 : ((byteCells (mkB (k + 1) (swF n (k + 1) i))).set (0 + (i : Int).toNat * 1) (.int .u8 (bAt n (k - i)).toNat)).set (0 + ((k : Int) - i).toNat * 1) (.int .u8 (bAt n i).toNat) = byteCells (mkB (k + 1) (swF n (k + 1) (i + 1))) := by
          rw [eK, Int.toNat_natCast, Nat.zero_add, Nat.mul_one, Nat.zero_add, Nat.mul_one]
          exact swF_step n (k + 1) i (by omega)
        refine Wp.skip (thenK_at (Wp.seq (Wp.block ?_)))
        refine Wp.region (by kernel_rfl) ?_
        refine kp 43 (.slice (some ⟨0, 0, none⟩) (k + 1) (k + 1)) ?_
        refine kp 44 (.int IntKind.i64 (↑i : Int)) ?_
        refine kp 45 (.slice (some ⟨0, 0, none⟩) (k + 1) (k + 1)) ?_
        refine kp 46 (.int IntKind.i64 ((↑k : Int) - (↑i : Int))) ?_
        refine kp 47 (.slice (some ⟨0, 0, none⟩) (k + 1) (k + 1)) ?_
        refine kp 48 (.int IntKind.i64 ((↑k : Int) - (↑i : Int))) ?_
        refine kp 49 (.pointer (some (Addr.mk 0 (0 + Int.toNat ((↑k : Int) - (↑i : Int)) * 1) none))) ?_ (hop := fun _ => o_indexAddr (a := (↑k : Int) - (↑i : Int)) (bl := 0) (off := 0) (size := 1) 5 (k + 1) g1)
        refine kp 50 (.int IntKind.u8 (↑(UInt8.toNat (bAt n (k - i))) : Int)) ?_ (hop := fun _ => o_load1 0 (0 + Int.toNat ((↑k : Int) - (↑i : Int)) * 1) v1)
        refine kp 51 (.slice (some ⟨0, 0, none⟩) (k + 1) (k + 1)) ?_
        refine kp 52 (.int IntKind.i64 (↑i : Int)) ?_
        refine kp 53 (.pointer (some (Addr.mk 0 (0 + Int.toNat (↑i : Int) * 1) none))) ?_ (hop := fun _ => o_indexAddr (a := (↑i : Int)) (bl := 0) (off := 0) (size := 1) 5 (k + 1) g2)
        refine kp 54 (.int IntKind.u8 (↑(UInt8.toNat (bAt n i)) : Int)) ?_ (hop := fun _ => o_load1 0 (0 + Int.toNat (↑i : Int) * 1) v2)
        refine kp 55 (.pointer (some (Addr.mk 0 (0 + Int.toNat (↑i : Int) * 1) none))) ?_ (hop := fun _ => o_indexAddr (a := (↑i : Int)) (bl := 0) (off := 0) (size := 1) 5 (k + 1) g2)
        refine ld (.tuple #[]) (0) (Blk.mk 5 true (List.set (byteCells (mkB (k + 1) (swF n (k + 1) i))) (0 + Int.toNat (↑i : Int) * 1) (Value.int .u8 (↑(UInt8.toNat (bAt n (k - i))) : Int)))) ?_ (hop := fun _ => o_store1 0 (0 + Int.toNat (↑i : Int) * 1) l1)
        refine kp 56 (.pointer (some (Addr.mk 0 (0 + Int.toNat ((↑k : Int) - (↑i : Int)) * 1) none))) ?_ (hop := fun _ => o_indexAddr (a := (↑k : Int) - (↑i : Int)) (bl := 0) (off := 0) (size := 1) 5 (k + 1) g1)
        refine ld (.tuple #[]) (0) (Blk.mk 5 true (List.set (List.set (byteCells (mkB (k + 1) (swF n (k + 1) i))) (0 + Int.toNat (↑i : Int) * 1) (Value.int .u8 (↑(UInt8.toNat (bAt n (k - i))) : Int))) (0 + Int.toNat ((↑k : Int) - (↑i : Int)) * 1) (Value.int .u8 (↑(UInt8.toNat (bAt n i)) : Int)))) ?_ (hop := fun _ => o_store1 0 (0 + Int.toNat ((↑k : Int) - (↑i : Int)) * 1) l2)
        refine WpOps.nil (blockK_norm (thenK_at (Wp.text ?_)))
        refine kp 39 (.int IntKind.i64 (↑i : Int)) ?_
        refine kp 40 (.int IntKind.i64 (IntKind.wrap .i64 ((↑i : Int) + 1))) ?_
        refine kp 41 (.int IntKind.i64 ((↑k : Int) - (↑i : Int))) ?_
        refine kp 42 (.int IntKind.i64 (IntKind.wrap .i64 ((↑k : Int) - (↑i : Int) - 1))) ?_
        refine kp 6 (.int IntKind.i64 (IntKind.wrap .i64 ((↑i : Int) + 1))) ?_
        refine kp 7 (.int IntKind.i64 (IntKind.wrap .i64 ((↑k : Int) - (↑i : Int) - 1))) ?_
        refine WpOps.nil (thenK_at ?_)
        exact ⟨i + 1, by omega, by omega, View.of [0] [⟨5, true, byteCells (mkB (k + 1) (swF n (k + 1) (i + 1)))⟩] _ (by decide) rfl ⟨⟨_, by kernel_rfl, CellsOk.eq e9 (byteCells_flat _)⟩, trivial⟩ ⟨⟨by kernel_rfl, rfl⟩, ⟨congrArg (Value.int .i64) (wr _ (by omega) (by omega)), rfl⟩, ⟨congrArg (Value.int .i64) ((wr _ (by omega) (by omega)).trans (by omega) : _ = (k : Int) - (i + 1 : Nat)), rfl⟩, trivial⟩⟩
      · have hle := of_decide_eq_false hc2
        have e1 := swF_end n (k + 1) i (by omega)
        have e2 := cells_whole (byteCells (mkB (k + 1) (swF n (k + 1) i))) (k + 1) (by rw [byteCells_length, mkB_size])
        have e3 : cellBytes (byteCells (mkB (k + 1) (swF n (k + 1) i))) = some (octS n (k + 1)).data.toList := by
          rw [e1]
          exact cellBytes_byte _
        refine Wp.exit (thenK_exit (thenK_exit (blockK_hit (thenK_at (Wp.seq (Wp.text ?_))))))
        refine kp 57 (.slice (some ⟨0, 0, none⟩) (k + 1) (k + 1)) ?_
        refine kp 58 (.string (ByteArray.mk (List.toArray (Array.toList (ByteArray.data (octS n (k + 1))))))) ?_ (hop := fun _ => o_bytes 5 0 (0) (k + 1) e2 e3)
        refine kp 2 (.string (ByteArray.mk (List.toArray (Array.toList (ByteArray.data (octS n (k + 1))))))) ?_
        refine kp 3 (.int IntKind.i64 0) ?_
        refine WpOps.nil (thenK_at (Wp.ret ?_))
        refine endK_retn [Value.string (ByteArray.mk (List.toArray (Array.toList (ByteArray.data (octS n (k + 1)))))), Value.int IntKind.i64 0] (Value.tuple #[Value.string (ByteArray.mk (List.toArray (Array.toList (ByteArray.data (octS n (k + 1)))))), Value.int IntKind.i64 0]) (by kernel_rfl) (by kernel_rfl) ?_
        rfl
  · have hkj : k ≠ j := fun e => hst (e ▸ hs)
    unfold Stop at hst
    have d3 : (sh n (7 + 8 * k) != 0) = true := bne_iff_ne.2 fun e => hst (.inl e)
    have d4 : (sh n (7 + 8 * k) != -1) = true := bne_iff_ne.2 fun e => hst (.inr e)
    have b1 : ¬ (k + 1 + 1 ≤ k + 1) := by omega
    have b2 : 1 ≤ 1 ∧ (k + 1 + 1) * 1 ≤ 140737488355328 ∧ 1 = 1 ∧ k + 1 + 1 ≤ 9223372036854775807 := by omega
    have b3 := cells_whole (byteCells (mkB (k + 1) fun p => bAt n p)) ((k + 1) * 1) (by rw [byteCells_length, mkB_size]; omega)
    have e1 : (sh n (7 + 8 * k)).fdiv (2 ^ min 1 64) = sh n (8 * (k + 1)) := by
      rw [sh_fdiv _ 1 (by decide), sh_sh, show 7 + 8 * k + 1 = 8 * (k + 1) by omega]
    have e2 : (sh n (7 + 8 * k)).fdiv (2 ^ min 8 64) = sh n (7 + 8 * (k + 1)) := by
      rw [sh_fdiv _ 8 (by decide), sh_sh, show 7 + 8 * k + 8 = 7 + 8 * (k + 1) by omega]
    have e3 : byteCells (mkB (k + 1) fun p => bAt n p) ++ [Value.int .u8 (IntKind.u8.wrap ((sh n (7 + 8 * k)).fdiv (2 ^ min 1 64)))] = byteCells (mkB (k + 1 + 1) fun p => bAt n p) := by
      rw [e1, u8w, ← bAt_nat]
      exact mkB_snoc (k + 1) _
    refine Wp.seq (Wp.seq (Wp.text ?_))
    refine kp 19 (.int IntKind.i64 (sh n (7 + 8 * k))) ?_
    refine kp 20 (.bool true) ?_ (hop := fun _ => by_fact d3)
    refine kp 21 (.bool true) ?_
    refine kp 22 (.int IntKind.i64 (sh n (7 + 8 * k))) ?_
    refine kp 23 (.bool true) ?_ (hop := fun _ => by_fact d4)
    refine kp 24 (.bool true) ?_
    refine WpOps.nil (thenK_at (on' (Wp.skip (thenK_at (Wp.seq (Wp.block (Wp.text ?_)))))))
    refine kp 27 (.slice (some ⟨0, 0, none⟩) (k + 1) (k + 1)) ?_
    refine kp 28 (.int IntKind.i64 (sh n (7 + 8 * k))) ?_
    refine kp 29 (.int IntKind.i64 (Int.fdiv (sh n (7 + 8 * k)) (2 ^ 1))) ?_
    refine kp 30 (.int IntKind.u8 (IntKind.wrap .u8 (Int.fdiv (sh n (7 + 8 * k)) (2 ^ 1)))) ?_
    refine md 31 (.slice (some ⟨1, 0, none⟩) 1 1) (Blk.mk 5 true [Value.int .u8 (IntKind.wrap .u8 (Int.fdiv (sh n (7 + 8 * k)) (2 ^ 1)))]) ?_
    refine ra 32 (.slice (some ⟨2, 0, none⟩) (k + 1 + 1) (k + 1 + 1)) (0) (Blk.mk 5 true (byteCells (mkB (k + 1) fun p => bAt n p) ++ [Value.int .u8 (IntKind.wrap .u8 (Int.fdiv (sh n (7 + 8 * k)) (2 ^ 1)))])) ?_ (hop := fun _ => o_append (e := 5) 0 (0) (k + 1) _ (k + 1) b1 b2 b3)
    refine kp 4 (.slice (some ⟨2, 0, none⟩) (k + 1 + 1) (k + 1 + 1)) ?_
    refine WpOps.nil (blockK_norm (thenK_at (Wp.text ?_)))
    refine kp 25 (.int IntKind.i64 (sh n (7 + 8 * k))) ?_
    refine kp 26 (.int IntKind.i64 (Int.fdiv (sh n (7 + 8 * k)) (2 ^ 8))) ?_
    refine kp 5 (.int IntKind.i64 (Int.fdiv (sh n (7 + 8 * k)) (2 ^ 8))) ?_
    refine WpOps.nil (thenK_at ?_)
    exact ⟨k + 1, by omega, by omega, View.of [2] [⟨5, true, byteCells (mkB (k + 1 + 1) fun p => bAt n p)⟩] _ (by decide) rfl ⟨⟨_, by kernel_rfl, CellsOk.eq e3 (byteCells_flat _)⟩, trivial⟩ ⟨⟨by kernel_rfl, rfl⟩, ⟨congrArg (Value.int .i64) e2, rfl⟩, trivial⟩⟩
end Go.Proofs.YthhlfddpacmhfaaDoor.D
