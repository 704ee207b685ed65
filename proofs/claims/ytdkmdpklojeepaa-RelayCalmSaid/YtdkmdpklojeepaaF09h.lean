/- relay.made with Mild's rules. -/
import Derived.Test.YtdkmdpklojeepaaFwLem
import Derived.Test.YtdkmdpklojeepaaF09g
namespace Go.Proofs.Ytdkmdpklojeepaa.D
open Go.Fw Go.RowKit

def mildV : Value := .agg #[.nilFunc, .nilFunc, fnV 55, fnV 56, fnV 53, fnV 53, .nilFunc, fnV 58, .nilFunc, .nilFunc, .nilFunc, .nilFunc, .nilFunc, .nilFunc, .nilFunc, .nilFunc]
def rulesM : List Value := [.nilFunc, .nilFunc, fnV 55, fnV 56, fnV 53, fnV 53, .nilFunc, fnV 58, .nilFunc, .nilFunc, .nilFunc, .nilFunc, .nilFunc, .nilFunc, .nilFunc, .nilFunc]
theorem rulesM_ok (rl : List Nat) (m : Nat) : CellsOk rl m rulesM rulesM := by
  unfold CellsOk
  exact ⟨rfl, rfl⟩
theorem made38m (x : Nat) (l : List Int) (hl : ∀ n ∈ l, I64 n) (hz : l.length ≤ 1000) : Lent E 38 [sl x l, mildV] [] (outF 46 (min l.length 200) (fc true (l.take 200))) [] := by
  refine Lent.of f38 rfl (of_decide_eq_true (by kernel_rfl)) rfl rfl (Nat.le_refl _) rfl rfl (by unfold outF; split <;> rfl) ?_
  have g0 : (0 ≤ if 200 < (l.length : Int) then 200 else (l.length : Int)) ∧ (if 200 < (l.length : Int) then 200 else (l.length : Int)) ≤ l.length := by split <;> omega
  unfold sl
  refine Wp.seq (Wp.text ?_)
  refine md 3 (.pointer (some ⟨0, 0, none⟩)) (Blk.mk 68 true [Value.nilFunc, Value.nilFunc, Value.func (Fn.func 55) #[] #[], Value.func (Fn.func 56) #[] #[], Value.func (Fn.func 53) #[] #[], Value.func (Fn.func 53) #[] #[], Value.nilFunc, Value.func (Fn.func 58) #[] #[], Value.nilFunc, Value.nilFunc, Value.nilFunc, Value.nilFunc, Value.nilFunc, Value.nilFunc, Value.nilFunc, Value.nilFunc]) ?_
  refine kp 4 (.slice none 0 0) ?_
  refine WpOps.nil (thenK_at (Wp.seq (Wp.text ?_)))
  refine kp 5 (.slice none 0 0) ?_
  refine WpOps.nil (thenK_at (Wp.seq (Wp.seq (Wp.text ?_))))
  refine kp 10 (.iface 3 (Value.iface (List.length l) (Value.iface x (Value.agg (List.toArray (List.map (fun n => Value.int .i64 n) l)))))) ?_
  refine kp 11 (.iface 3 (Value.iface (List.length l) (Value.iface x (Value.agg (List.toArray (List.map (fun n => Value.int .i64 n) l)))))) ?_
  refine kp 12 (.int IntKind.i64 (↑(List.length l) : Int)) ?_
  refine kp 13 (.int IntKind.i64 (if 200 < (↑(List.length l) : Int) then 200 else (↑(List.length l) : Int))) ?_
  refine kp 14 (.iface 3 (Value.iface (Int.toNat (if 200 < (↑(List.length l) : Int) then 200 else (↑(List.length l) : Int)) - 0) (Value.iface (if x = 2 then 2 else 0) (Value.agg (List.toArray (List.take ((Int.toNat (if 200 < (↑(List.length l) : Int) then 200 else (↑(List.length l) : Int)) - 0) * 1) (List.drop 0 (Array.toList (List.toArray (List.map (fun n => Value.int .i64 n) l)))))))))) ?_ (hop := fun _ => o_cutF_hi (size := 1) g0)
  refine kp 15 (.int IntKind.i64 (↑(Int.toNat (if 200 < (↑(List.length l) : Int) then 200 else (↑(List.length l) : Int)) - 0) : Int)) ?_
  refine kp 16 (.int IntKind.i64 0) ?_
  refine WpOps.nil (thenK_at (Wp.block ?_))
  refine Wp.loop (G := Nat) (fun k => layj [(3, .pointer (some ⟨0, 0, none⟩)), (5, oV 1 k), (14, FS 3 (cutM l) (if x = 2 then 2 else 0) (cutC l)), (15, .int .i64 (cutM l)), (16, .int .i64 k)]) (fun k => heapOf ([⟨68, true, rulesM⟩] ++ oB 46 k (fc true (l.take k)))) (fun k => cutM l - k) (fun k => k ≤ cutM l) 0
    ?_ (Nat.zero_le _) ?_
  · try dsimp only
    rw [oV_nil, oB_nil, List.append_nil]
    exact View.of [0] [⟨68, true, rulesM⟩] _ (by decide) rfl ⟨⟨rulesM, by kernel_rfl, rulesM_ok _ _⟩, trivial⟩ ⟨⟨by kernel_rfl, rfl⟩, ⟨by kernel_rfl, rfl⟩, ⟨by kernel_rfl, rfl⟩, ⟨by kernel_rfl, rfl⟩, ⟨by kernel_rfl, rfl⟩, trivial⟩
  intro k hk
  by_cases hlt : k < cutM l
  · have d1 : decide ((k : Int) < cutM l) = true := decide_eq_true (by omega)
    have g1 : 0 ≤ (k : Int) ∧ (k : Int) < cutM l := by omega
    have v1 := cut_at l k hlt
    obtain ⟨n, hn⟩ : ∃ n, n = l.getD k 0 := ⟨_, rfl⟩
    rw [← hn] at v1
    have hm := modN_in n 16 (by decide)
    obtain ⟨j, hj⟩ : ∃ j : Nat, modN n 16 = j := ⟨(modN n 16).toNat, by omega⟩
    have ej : (IntKind.u64.wrap n).tmod 16 = (j : Int) := by
      have h1 : IntKind.u64.wrap n = n % 18446744073709551616 := rfl
      have h2 := Int.emod_nonneg n (b := 18446744073709551616) (by decide)
      rw [h1, Int.tmod_eq_emod_of_nonneg h2, ← hj]
      have h3 := Int.emod_emod_of_dvd n (show (16 : Int) ∣ 18446744073709551616 by decide)
      rw [h3]
      unfold modN
      have h4 := Int.tmod_eq_emod (a := n) (b := ((16 : Nat) : Int))
      have h5 := Int.emod_nonneg n (b := ((16 : Nat) : Int)) (by decide)
      have h6 := Int.emod_lt_of_pos n (b := ((16 : Nat) : Int)) (by decide)
      have h7 : (((16 : Nat) : Int)).natAbs = 16 := rfl
      rw [h7] at h4
      by_cases hx : 0 ≤ n ∨ ((16 : Nat) : Int) ∣ n
      · rw [if_pos hx] at h4
        rw [if_neg (by omega)]
        omega
      · rw [if_neg hx] at h4
        rw [if_pos (by omega)]
        omega
    have g2 : 0 ≤ (IntKind.u64.wrap n).tmod 16 ∧ (IntKind.u64.wrap n).tmod 16 < ((16 : Nat) : Int) := by omega
    have n16 : ¬ (16 : Int) = 0 := by decide
    have ekk : n.fdiv (2 ^ min 4 64) = n / 16 := by
      rw [show (2 : Int) ^ min 4 64 = 16 from rfl]
      exact Int.fdiv_eq_ediv_of_nonneg n (by decide)
    have hsn := fc_snoc true l k (by rw [cutM_eq] at hlt; omega)
    rw [← hn] at hsn
    rw [show modN n 16 = (j : Int) from hj] at hm
    by_cases h0 : k = 0
    · subst h0
      rw [oV_nil, oB_nil]
      rw [show fc true (l.take 0) = [] from rfl, List.nil_append] at hsn
      by_cases hg2 : j = 2
      · have v2 : rulesM[0 + ((IntKind.u64.wrap n).tmod 16).toNat * 1]? = some (fnV 55) := by
          rw [ej]
          subst hg2
          rfl
        have c1 := rule55 (n.fdiv (2 ^ min 4 64)) false 0 0 (-1)
        have he : ofC true n = [Value.bool false, .int .i64 1, .int .i64 0, .int .i64 (-1)] := by
          unfold ofC
          rw [hj, if_neg (by omega), if_pos (by omega)]
        rw [he] at hsn
        refine Wp.seq (Wp.text ?_)
        refine kp 17 (.bool true) ?_ (hop := fun _ => by_fact d1)
        refine WpOps.nil (thenK_at (Wp.seq (on' (Wp.skip (thenK_at (Wp.seq (Wp.block (Wp.seq (Wp.text ?_)))))))))
        refine kp 18 (.iface 3 (Value.iface 0 (Value.agg (cutC l)))) ?_ (hop := fun _ => o_indexI (e := 3) (size := 1) (a := (↑0 : Int)) g1)
        refine kp 19 (.int IntKind.i64 n) ?_ (hop := fun _ => o_loadI1 (0) v1)
        refine kp 7 (.int IntKind.i64 n) ?_
        refine WpOps.nil (thenK_at (Wp.seq (Wp.text ?_)))
        refine kp 20 (.agg #[Value.bool false, Value.int .i64 0, Value.int .i64 0, Value.int .i64 (-1)]) ?_
        refine md 8 (.pointer (some ⟨1, 0, none⟩)) (Blk.mk 46 true [Value.bool false, Value.int .i64 0, Value.int .i64 0, Value.int .i64 0]) ?_
        refine ld (.tuple #[]) (1) (Blk.mk 46 true [Value.bool false, Value.int .i64 0, Value.int .i64 0, Value.int .i64 (-1)]) ?_
        refine WpOps.nil (thenK_at (Wp.seq (Wp.seq (Wp.text ?_))))
        refine kp 21 (.int IntKind.i64 n) ?_
        refine kp 22 (.int IntKind.u64 (IntKind.wrap .u64 n)) ?_
        refine kp 23 (.int IntKind.u64 (Int.tmod (IntKind.wrap .u64 n) 16)) ?_ (hop := fun _ => o_rem n16)
        refine kp 24 (.pointer (some (Addr.mk 0 (0 + Int.toNat (Int.tmod (IntKind.wrap .u64 n) 16) * 1) none))) ?_ (hop := fun _ => o_indexAddrP (a := Int.tmod (IntKind.wrap IntKind.u64 n) 16) (bl := 0) (off := 0) (size := 1) 67 _ g2)
        refine kp 25 (.func (Fn.func 55) #[] #[]) ?_ (hop := fun _ => o_load1 0 (0 + Int.toNat (Int.tmod (IntKind.wrap IntKind.u64 n) 16) * 1) v2)
        refine kp 9 (.func (Fn.func 55) #[] #[]) ?_
        refine WpOps.nil (thenK_at (Wp.seq (Wp.text ?_)))
        refine kp 26 (.func (Fn.func 55) #[] #[]) ?_
        refine kp 27 (.bool true) ?_
        refine WpOps.nil (thenK_at (on' (Wp.text ?_)))
        refine kp 28 (.func (Fn.func 55) #[] #[]) ?_
        refine kp 29 (.int IntKind.i64 n) ?_
        refine kp 30 (.int IntKind.i64 (Int.fdiv n (2 ^ 4))) ?_
        refine cl 31 55 [Value.int .i64 (Int.fdiv n (2 ^ 4)), Value.pointer (some ⟨1, 0, none⟩)] ?_
        refine WpCall.lent [1] (c1) (by decide) ⟨⟨[Value.bool false, Value.int IntKind.i64 0, Value.int IntKind.i64 0, Value.int IntKind.i64 (-1)], (by kernel_rfl), (by kernel_rfl), (by kernel_rfl)⟩, trivial⟩ (by kernel_rfl) (Value.tuple #[]) ([Blk.mk 46 true [Value.bool false, Value.int IntKind.i64 1, Value.int IntKind.i64 0, Value.int IntKind.i64 (-1)]]) (.cons (by kernel_rfl) .nil) (by kernel_rfl) (Heap.set (Heap.set (Heap.alloc (heapOf ([Blk.mk 68 true rulesM] ++ [])) (Blk.mk 46 true [Value.bool false, Value.int IntKind.i64 0, Value.int IntKind.i64 0, Value.int IntKind.i64 0])) 1 (some (Blk.mk 46 true [Value.bool false, Value.int IntKind.i64 0, Value.int IntKind.i64 0, Value.int IntKind.i64 (-1)]))) 1 (some (Blk.mk 46 true [Value.bool false, Value.int IntKind.i64 1, Value.int IntKind.i64 0, Value.int IntKind.i64 (-1)]))) (by kernel_rfl) ?_
        refine WpOps.nil (thenK_at (Wp.text ?_))
        refine kp 32 (.slice none 0 0) ?_
        refine kp 33 (.agg #[Value.bool false, Value.int .i64 1, Value.int .i64 0, Value.int .i64 (-1)]) ?_
        refine md 34 (.slice (some ⟨2, 0, none⟩) 1 1) (Blk.mk 46 true [Value.bool false, Value.int .i64 1, Value.int .i64 0, Value.int .i64 (-1)]) ?_
        refine md 35 (.slice (some ⟨3, 0, none⟩) 1 1) (Blk.mk 46 true [Value.bool false, Value.int .i64 1, Value.int .i64 0, Value.int .i64 (-1)]) ?_
        refine kp 5 (.slice (some ⟨3, 0, none⟩) 1 1) ?_
        refine WpOps.nil (blockK_norm (thenK_at (Wp.text ?_)))
        refine kp 36 (.int IntKind.i64 (IntKind.wrap .i64 ((↑0 : Int) + 1))) ?_
        refine kp 16 (.int IntKind.i64 (IntKind.wrap .i64 ((↑0 : Int) + 1))) ?_
        refine WpOps.nil (thenK_at ?_)
        refine ⟨0 + 1, by omega, by omega, ?_⟩
        try dsimp only
        rw [oV_own (by omega), oB_own (by omega)]
        exact View.of [0, 3] [⟨68, true, rulesM⟩, ⟨46, true, fc true (l.take (0 + 1))⟩] _ (by decide) rfl ⟨⟨rulesM, by kernel_rfl, rulesM_ok _ _⟩, ⟨_, by kernel_rfl, CellsOk.eq hsn (fc_flat _ _)⟩, trivial⟩ ⟨⟨by kernel_rfl, rfl⟩, ⟨by kernel_rfl, rfl⟩, ⟨by kernel_rfl, rfl⟩, ⟨by kernel_rfl, rfl⟩, ⟨congrArg (Value.int .i64) (wr _ (by omega) (by omega)), rfl⟩, trivial⟩
      · by_cases hg3 : j = 3
        · have v2 : rulesM[0 + ((IntKind.u64.wrap n).tmod 16).toNat * 1]? = some (fnV 56) := by
            rw [ej]
            subst hg3
            rfl
          have c1 := rule56 (n.fdiv (2 ^ min 4 64)) false 0 0 (-1)
          have he : ofC true n = [Value.bool false, .int .i64 (1 + modN (n.fdiv (2 ^ min 4 64)) 3), .int .i64 0, .int .i64 (-1)] := by
            unfold ofC
            rw [hj, if_neg (by omega), if_neg (by omega), if_pos (by omega)]
            rw [ekk]
          rw [he] at hsn
          refine Wp.seq (Wp.text ?_)
          refine kp 17 (.bool true) ?_ (hop := fun _ => by_fact d1)
          refine WpOps.nil (thenK_at (Wp.seq (on' (Wp.skip (thenK_at (Wp.seq (Wp.block (Wp.seq (Wp.text ?_)))))))))
          refine kp 18 (.iface 3 (Value.iface 0 (Value.agg (cutC l)))) ?_ (hop := fun _ => o_indexI (e := 3) (size := 1) (a := (↑0 : Int)) g1)
          refine kp 19 (.int IntKind.i64 n) ?_ (hop := fun _ => o_loadI1 (0) v1)
          refine kp 7 (.int IntKind.i64 n) ?_
          refine WpOps.nil (thenK_at (Wp.seq (Wp.text ?_)))
          refine kp 20 (.agg #[Value.bool false, Value.int .i64 0, Value.int .i64 0, Value.int .i64 (-1)]) ?_
          refine md 8 (.pointer (some ⟨1, 0, none⟩)) (Blk.mk 46 true [Value.bool false, Value.int .i64 0, Value.int .i64 0, Value.int .i64 0]) ?_
          refine ld (.tuple #[]) (1) (Blk.mk 46 true [Value.bool false, Value.int .i64 0, Value.int .i64 0, Value.int .i64 (-1)]) ?_
          refine WpOps.nil (thenK_at (Wp.seq (Wp.seq (Wp.text ?_))))
          refine kp 21 (.int IntKind.i64 n) ?_
          refine kp 22 (.int IntKind.u64 (IntKind.wrap .u64 n)) ?_
          refine kp 23 (.int IntKind.u64 (Int.tmod (IntKind.wrap .u64 n) 16)) ?_ (hop := fun _ => o_rem n16)
          refine kp 24 (.pointer (some (Addr.mk 0 (0 + Int.toNat (Int.tmod (IntKind.wrap .u64 n) 16) * 1) none))) ?_ (hop := fun _ => o_indexAddrP (a := Int.tmod (IntKind.wrap IntKind.u64 n) 16) (bl := 0) (off := 0) (size := 1) 67 _ g2)
          refine kp 25 (.func (Fn.func 56) #[] #[]) ?_ (hop := fun _ => o_load1 0 (0 + Int.toNat (Int.tmod (IntKind.wrap IntKind.u64 n) 16) * 1) v2)
          refine kp 9 (.func (Fn.func 56) #[] #[]) ?_
          refine WpOps.nil (thenK_at (Wp.seq (Wp.text ?_)))
          refine kp 26 (.func (Fn.func 56) #[] #[]) ?_
          refine kp 27 (.bool true) ?_
          refine WpOps.nil (thenK_at (on' (Wp.text ?_)))
          refine kp 28 (.func (Fn.func 56) #[] #[]) ?_
          refine kp 29 (.int IntKind.i64 n) ?_
          refine kp 30 (.int IntKind.i64 (Int.fdiv n (2 ^ 4))) ?_
          refine cl 31 56 [Value.int .i64 (Int.fdiv n (2 ^ 4)), Value.pointer (some ⟨1, 0, none⟩)] ?_
          refine WpCall.lent [1] (c1) (by decide) ⟨⟨[Value.bool false, Value.int IntKind.i64 0, Value.int IntKind.i64 0, Value.int IntKind.i64 (-1)], (by kernel_rfl), (by kernel_rfl), (by kernel_rfl)⟩, trivial⟩ (by kernel_rfl) (Value.tuple #[]) ([Blk.mk 46 true [Value.bool false, Value.int IntKind.i64 (1 + modN (Int.fdiv n (2 ^ min 4 64)) 3), Value.int IntKind.i64 0, Value.int IntKind.i64 (-1)]]) (.cons (by kernel_rfl) .nil) (by kernel_rfl) (Heap.set (Heap.set (Heap.alloc (heapOf ([Blk.mk 68 true rulesM] ++ [])) (Blk.mk 46 true [Value.bool false, Value.int IntKind.i64 0, Value.int IntKind.i64 0, Value.int IntKind.i64 0])) 1 (some (Blk.mk 46 true [Value.bool false, Value.int IntKind.i64 0, Value.int IntKind.i64 0, Value.int IntKind.i64 (-1)]))) 1 (some (Blk.mk 46 true [Value.bool false, Value.int IntKind.i64 (1 + modN (Int.fdiv n (2 ^ 4)) 3), Value.int IntKind.i64 0, Value.int IntKind.i64 (-1)]))) (by kernel_rfl) ?_
          refine WpOps.nil (thenK_at (Wp.text ?_))
          refine kp 32 (.slice none 0 0) ?_
          refine kp 33 (.agg #[Value.bool false, Value.int .i64 (1 + modN (Int.fdiv n (2 ^ 4)) 3), Value.int .i64 0, Value.int .i64 (-1)]) ?_
          refine md 34 (.slice (some ⟨2, 0, none⟩) 1 1) (Blk.mk 46 true [Value.bool false, Value.int .i64 (1 + modN (Int.fdiv n (2 ^ 4)) 3), Value.int .i64 0, Value.int .i64 (-1)]) ?_
          refine md 35 (.slice (some ⟨3, 0, none⟩) 1 1) (Blk.mk 46 true [Value.bool false, Value.int .i64 (1 + modN (Int.fdiv n (2 ^ 4)) 3), Value.int .i64 0, Value.int .i64 (-1)]) ?_
          refine kp 5 (.slice (some ⟨3, 0, none⟩) 1 1) ?_
          refine WpOps.nil (blockK_norm (thenK_at (Wp.text ?_)))
          refine kp 36 (.int IntKind.i64 (IntKind.wrap .i64 ((↑0 : Int) + 1))) ?_
          refine kp 16 (.int IntKind.i64 (IntKind.wrap .i64 ((↑0 : Int) + 1))) ?_
          refine WpOps.nil (thenK_at ?_)
          refine ⟨0 + 1, by omega, by omega, ?_⟩
          try dsimp only
          rw [oV_own (by omega), oB_own (by omega)]
          exact View.of [0, 3] [⟨68, true, rulesM⟩, ⟨46, true, fc true (l.take (0 + 1))⟩] _ (by decide) rfl ⟨⟨rulesM, by kernel_rfl, rulesM_ok _ _⟩, ⟨_, by kernel_rfl, CellsOk.eq hsn (fc_flat _ _)⟩, trivial⟩ ⟨⟨by kernel_rfl, rfl⟩, ⟨by kernel_rfl, rfl⟩, ⟨by kernel_rfl, rfl⟩, ⟨by kernel_rfl, rfl⟩, ⟨congrArg (Value.int .i64) (wr _ (by omega) (by omega)), rfl⟩, trivial⟩
        · by_cases hg45 : j = 4 ∨ j = 5
          · have v2 : rulesM[0 + ((IntKind.u64.wrap n).tmod 16).toNat * 1]? = some (fnV 53) := by
              rw [ej]
              rcases hg45 with rfl | rfl <;> rfl
            have c1 := rule53 (n.fdiv (2 ^ min 4 64)) false 0 0 (-1)
            have he : ofC true n = [Value.bool false, .int .i64 0, .int .i64 (modN (n.fdiv (2 ^ min 4 64)) 21), .int .i64 (-1)] := by
              unfold ofC
              rw [hj, if_neg (by omega), if_neg (by omega), if_neg (by omega), if_pos (by omega)]
              rw [ekk]
            rw [he] at hsn
            refine Wp.seq (Wp.text ?_)
            refine kp 17 (.bool true) ?_ (hop := fun _ => by_fact d1)
            refine WpOps.nil (thenK_at (Wp.seq (on' (Wp.skip (thenK_at (Wp.seq (Wp.block (Wp.seq (Wp.text ?_)))))))))
            refine kp 18 (.iface 3 (Value.iface 0 (Value.agg (cutC l)))) ?_ (hop := fun _ => o_indexI (e := 3) (size := 1) (a := (↑0 : Int)) g1)
            refine kp 19 (.int IntKind.i64 n) ?_ (hop := fun _ => o_loadI1 (0) v1)
            refine kp 7 (.int IntKind.i64 n) ?_
            refine WpOps.nil (thenK_at (Wp.seq (Wp.text ?_)))
            refine kp 20 (.agg #[Value.bool false, Value.int .i64 0, Value.int .i64 0, Value.int .i64 (-1)]) ?_
            refine md 8 (.pointer (some ⟨1, 0, none⟩)) (Blk.mk 46 true [Value.bool false, Value.int .i64 0, Value.int .i64 0, Value.int .i64 0]) ?_
            refine ld (.tuple #[]) (1) (Blk.mk 46 true [Value.bool false, Value.int .i64 0, Value.int .i64 0, Value.int .i64 (-1)]) ?_
            refine WpOps.nil (thenK_at (Wp.seq (Wp.seq (Wp.text ?_))))
            refine kp 21 (.int IntKind.i64 n) ?_
            refine kp 22 (.int IntKind.u64 (IntKind.wrap .u64 n)) ?_
            refine kp 23 (.int IntKind.u64 (Int.tmod (IntKind.wrap .u64 n) 16)) ?_ (hop := fun _ => o_rem n16)
            refine kp 24 (.pointer (some (Addr.mk 0 (0 + Int.toNat (Int.tmod (IntKind.wrap .u64 n) 16) * 1) none))) ?_ (hop := fun _ => o_indexAddrP (a := Int.tmod (IntKind.wrap IntKind.u64 n) 16) (bl := 0) (off := 0) (size := 1) 67 _ g2)
            refine kp 25 (.func (Fn.func 53) #[] #[]) ?_ (hop := fun _ => o_load1 0 (0 + Int.toNat (Int.tmod (IntKind.wrap IntKind.u64 n) 16) * 1) v2)
            refine kp 9 (.func (Fn.func 53) #[] #[]) ?_
            refine WpOps.nil (thenK_at (Wp.seq (Wp.text ?_)))
            refine kp 26 (.func (Fn.func 53) #[] #[]) ?_
            refine kp 27 (.bool true) ?_
            refine WpOps.nil (thenK_at (on' (Wp.text ?_)))
            refine kp 28 (.func (Fn.func 53) #[] #[]) ?_
            refine kp 29 (.int IntKind.i64 n) ?_
            refine kp 30 (.int IntKind.i64 (Int.fdiv n (2 ^ 4))) ?_
            refine cl 31 53 [Value.int .i64 (Int.fdiv n (2 ^ 4)), Value.pointer (some ⟨1, 0, none⟩)] ?_
            refine WpCall.lent [1] (c1) (by decide) ⟨⟨[Value.bool false, Value.int IntKind.i64 0, Value.int IntKind.i64 0, Value.int IntKind.i64 (-1)], (by kernel_rfl), (by kernel_rfl), (by kernel_rfl)⟩, trivial⟩ (by kernel_rfl) (Value.tuple #[]) ([Blk.mk 46 true [Value.bool false, Value.int IntKind.i64 0, Value.int IntKind.i64 (modN (Int.fdiv n (2 ^ min 4 64)) 21), Value.int IntKind.i64 (-1)]]) (.cons (by kernel_rfl) .nil) (by kernel_rfl) (Heap.set (Heap.set (Heap.alloc (heapOf ([Blk.mk 68 true rulesM] ++ [])) (Blk.mk 46 true [Value.bool false, Value.int IntKind.i64 0, Value.int IntKind.i64 0, Value.int IntKind.i64 0])) 1 (some (Blk.mk 46 true [Value.bool false, Value.int IntKind.i64 0, Value.int IntKind.i64 0, Value.int IntKind.i64 (-1)]))) 1 (some (Blk.mk 46 true [Value.bool false, Value.int IntKind.i64 0, Value.int IntKind.i64 (modN (Int.fdiv n (2 ^ 4)) 21), Value.int IntKind.i64 (-1)]))) (by kernel_rfl) ?_
            refine WpOps.nil (thenK_at (Wp.text ?_))
            refine kp 32 (.slice none 0 0) ?_
            refine kp 33 (.agg #[Value.bool false, Value.int .i64 0, Value.int .i64 (modN (Int.fdiv n (2 ^ 4)) 21), Value.int .i64 (-1)]) ?_
            refine md 34 (.slice (some ⟨2, 0, none⟩) 1 1) (Blk.mk 46 true [Value.bool false, Value.int .i64 0, Value.int .i64 (modN (Int.fdiv n (2 ^ 4)) 21), Value.int .i64 (-1)]) ?_
            refine md 35 (.slice (some ⟨3, 0, none⟩) 1 1) (Blk.mk 46 true [Value.bool false, Value.int .i64 0, Value.int .i64 (modN (Int.fdiv n (2 ^ 4)) 21), Value.int .i64 (-1)]) ?_
            refine kp 5 (.slice (some ⟨3, 0, none⟩) 1 1) ?_
            refine WpOps.nil (blockK_norm (thenK_at (Wp.text ?_)))
            refine kp 36 (.int IntKind.i64 (IntKind.wrap .i64 ((↑0 : Int) + 1))) ?_
            refine kp 16 (.int IntKind.i64 (IntKind.wrap .i64 ((↑0 : Int) + 1))) ?_
            refine WpOps.nil (thenK_at ?_)
            refine ⟨0 + 1, by omega, by omega, ?_⟩
            try dsimp only
            rw [oV_own (by omega), oB_own (by omega)]
            exact View.of [0, 3] [⟨68, true, rulesM⟩, ⟨46, true, fc true (l.take (0 + 1))⟩] _ (by decide) rfl ⟨⟨rulesM, by kernel_rfl, rulesM_ok _ _⟩, ⟨_, by kernel_rfl, CellsOk.eq hsn (fc_flat _ _)⟩, trivial⟩ ⟨⟨by kernel_rfl, rfl⟩, ⟨by kernel_rfl, rfl⟩, ⟨by kernel_rfl, rfl⟩, ⟨by kernel_rfl, rfl⟩, ⟨congrArg (Value.int .i64) (wr _ (by omega) (by omega)), rfl⟩, trivial⟩
          · by_cases hg7 : j = 7
            · have v2 : rulesM[0 + ((IntKind.u64.wrap n).tmod 16).toNat * 1]? = some (fnV 58) := by
                rw [ej]
                subst hg7
                rfl
              have c1 := rule58 (n.fdiv (2 ^ min 4 64)) false 0 0 (-1)
              have he : ofC true n = [Value.bool false, .int .i64 1, .int .i64 (modN (n.fdiv (2 ^ min 4 64)) 8), .int .i64 (-1)] := by
                unfold ofC
                rw [hj, if_neg (by omega), if_neg (by omega), if_neg (by omega), if_neg (by omega), if_neg (by omega), if_pos (by omega)]
                rw [ekk]
              rw [he] at hsn
              refine Wp.seq (Wp.text ?_)
              refine kp 17 (.bool true) ?_ (hop := fun _ => by_fact d1)
              refine WpOps.nil (thenK_at (Wp.seq (on' (Wp.skip (thenK_at (Wp.seq (Wp.block (Wp.seq (Wp.text ?_)))))))))
              refine kp 18 (.iface 3 (Value.iface 0 (Value.agg (cutC l)))) ?_ (hop := fun _ => o_indexI (e := 3) (size := 1) (a := (↑0 : Int)) g1)
              refine kp 19 (.int IntKind.i64 n) ?_ (hop := fun _ => o_loadI1 (0) v1)
              refine kp 7 (.int IntKind.i64 n) ?_
              refine WpOps.nil (thenK_at (Wp.seq (Wp.text ?_)))
              refine kp 20 (.agg #[Value.bool false, Value.int .i64 0, Value.int .i64 0, Value.int .i64 (-1)]) ?_
              refine md 8 (.pointer (some ⟨1, 0, none⟩)) (Blk.mk 46 true [Value.bool false, Value.int .i64 0, Value.int .i64 0, Value.int .i64 0]) ?_
              refine ld (.tuple #[]) (1) (Blk.mk 46 true [Value.bool false, Value.int .i64 0, Value.int .i64 0, Value.int .i64 (-1)]) ?_
              refine WpOps.nil (thenK_at (Wp.seq (Wp.seq (Wp.text ?_))))
              refine kp 21 (.int IntKind.i64 n) ?_
              refine kp 22 (.int IntKind.u64 (IntKind.wrap .u64 n)) ?_
              refine kp 23 (.int IntKind.u64 (Int.tmod (IntKind.wrap .u64 n) 16)) ?_ (hop := fun _ => o_rem n16)
              refine kp 24 (.pointer (some (Addr.mk 0 (0 + Int.toNat (Int.tmod (IntKind.wrap .u64 n) 16) * 1) none))) ?_ (hop := fun _ => o_indexAddrP (a := Int.tmod (IntKind.wrap IntKind.u64 n) 16) (bl := 0) (off := 0) (size := 1) 67 _ g2)
              refine kp 25 (.func (Fn.func 58) #[] #[]) ?_ (hop := fun _ => o_load1 0 (0 + Int.toNat (Int.tmod (IntKind.wrap IntKind.u64 n) 16) * 1) v2)
              refine kp 9 (.func (Fn.func 58) #[] #[]) ?_
              refine WpOps.nil (thenK_at (Wp.seq (Wp.text ?_)))
              refine kp 26 (.func (Fn.func 58) #[] #[]) ?_
              refine kp 27 (.bool true) ?_
              refine WpOps.nil (thenK_at (on' (Wp.text ?_)))
              refine kp 28 (.func (Fn.func 58) #[] #[]) ?_
              refine kp 29 (.int IntKind.i64 n) ?_
              refine kp 30 (.int IntKind.i64 (Int.fdiv n (2 ^ 4))) ?_
              refine cl 31 58 [Value.int .i64 (Int.fdiv n (2 ^ 4)), Value.pointer (some ⟨1, 0, none⟩)] ?_
              refine WpCall.lent [1] (c1) (by decide) ⟨⟨[Value.bool false, Value.int IntKind.i64 0, Value.int IntKind.i64 0, Value.int IntKind.i64 (-1)], (by kernel_rfl), (by kernel_rfl), (by kernel_rfl)⟩, trivial⟩ (by kernel_rfl) (Value.tuple #[]) ([Blk.mk 46 true [Value.bool false, Value.int IntKind.i64 1, Value.int IntKind.i64 (modN (Int.fdiv n (2 ^ min 4 64)) 8), Value.int IntKind.i64 (-1)]]) (.cons (by kernel_rfl) .nil) (by kernel_rfl) (Heap.set (Heap.set (Heap.alloc (heapOf ([Blk.mk 68 true rulesM] ++ [])) (Blk.mk 46 true [Value.bool false, Value.int IntKind.i64 0, Value.int IntKind.i64 0, Value.int IntKind.i64 0])) 1 (some (Blk.mk 46 true [Value.bool false, Value.int IntKind.i64 0, Value.int IntKind.i64 0, Value.int IntKind.i64 (-1)]))) 1 (some (Blk.mk 46 true [Value.bool false, Value.int IntKind.i64 1, Value.int IntKind.i64 (modN (Int.fdiv n (2 ^ 4)) 8), Value.int IntKind.i64 (-1)]))) (by kernel_rfl) ?_
              refine WpOps.nil (thenK_at (Wp.text ?_))
              refine kp 32 (.slice none 0 0) ?_
              refine kp 33 (.agg #[Value.bool false, Value.int .i64 1, Value.int .i64 (modN (Int.fdiv n (2 ^ 4)) 8), Value.int .i64 (-1)]) ?_
              refine md 34 (.slice (some ⟨2, 0, none⟩) 1 1) (Blk.mk 46 true [Value.bool false, Value.int .i64 1, Value.int .i64 (modN (Int.fdiv n (2 ^ 4)) 8), Value.int .i64 (-1)]) ?_
              refine md 35 (.slice (some ⟨3, 0, none⟩) 1 1) (Blk.mk 46 true [Value.bool false, Value.int .i64 1, Value.int .i64 (modN (Int.fdiv n (2 ^ 4)) 8), Value.int .i64 (-1)]) ?_
              refine kp 5 (.slice (some ⟨3, 0, none⟩) 1 1) ?_
              refine WpOps.nil (blockK_norm (thenK_at (Wp.text ?_)))
              refine kp 36 (.int IntKind.i64 (IntKind.wrap .i64 ((↑0 : Int) + 1))) ?_
              refine kp 16 (.int IntKind.i64 (IntKind.wrap .i64 ((↑0 : Int) + 1))) ?_
              refine WpOps.nil (thenK_at ?_)
              refine ⟨0 + 1, by omega, by omega, ?_⟩
              try dsimp only
              rw [oV_own (by omega), oB_own (by omega)]
              exact View.of [0, 3] [⟨68, true, rulesM⟩, ⟨46, true, fc true (l.take (0 + 1))⟩] _ (by decide) rfl ⟨⟨rulesM, by kernel_rfl, rulesM_ok _ _⟩, ⟨_, by kernel_rfl, CellsOk.eq hsn (fc_flat _ _)⟩, trivial⟩ ⟨⟨by kernel_rfl, rfl⟩, ⟨by kernel_rfl, rfl⟩, ⟨by kernel_rfl, rfl⟩, ⟨by kernel_rfl, rfl⟩, ⟨congrArg (Value.int .i64) (wr _ (by omega) (by omega)), rfl⟩, trivial⟩
            · have v2 : rulesM[0 + ((IntKind.u64.wrap n).tmod 16).toNat * 1]? = some .nilFunc := by
                rw [ej]
                rcases (by omega : j = 0 ∨ j = 1 ∨ j = 6 ∨ j = 8 ∨ j = 9 ∨ j = 10 ∨ j = 11 ∨ j = 12 ∨ j = 13 ∨ j = 14 ∨ j = 15) with rfl | rfl | rfl | rfl | rfl | rfl | rfl | rfl | rfl | rfl | rfl <;> rfl
              have he : ofC true n = [Value.bool false, .int .i64 0, .int .i64 0, .int .i64 (-1)] := by
                unfold ofC
                rw [hj]
                rcases (by omega : j = 0 ∨ j = 1 ∨ j = 6 ∨ j = 8 ∨ j = 9 ∨ j = 10 ∨ j = 11 ∨ j = 12 ∨ j = 13 ∨ j = 14 ∨ j = 15) with rfl | rfl | rfl | rfl | rfl | rfl | rfl | rfl | rfl | rfl | rfl <;> rfl
              rw [he] at hsn
              refine Wp.seq (Wp.text ?_)
              refine kp 17 (.bool true) ?_ (hop := fun _ => by_fact d1)
              refine WpOps.nil (thenK_at (Wp.seq (on' (Wp.skip (thenK_at (Wp.seq (Wp.block (Wp.seq (Wp.text ?_)))))))))
              refine kp 18 (.iface 3 (Value.iface 0 (Value.agg (cutC l)))) ?_ (hop := fun _ => o_indexI (e := 3) (size := 1) (a := (↑0 : Int)) g1)
              refine kp 19 (.int IntKind.i64 n) ?_ (hop := fun _ => o_loadI1 (0) v1)
              refine kp 7 (.int IntKind.i64 n) ?_
              refine WpOps.nil (thenK_at (Wp.seq (Wp.text ?_)))
              refine kp 20 (.agg #[Value.bool false, Value.int .i64 0, Value.int .i64 0, Value.int .i64 (-1)]) ?_
              refine md 8 (.pointer (some ⟨1, 0, none⟩)) (Blk.mk 46 true [Value.bool false, Value.int .i64 0, Value.int .i64 0, Value.int .i64 0]) ?_
              refine ld (.tuple #[]) (1) (Blk.mk 46 true [Value.bool false, Value.int .i64 0, Value.int .i64 0, Value.int .i64 (-1)]) ?_
              refine WpOps.nil (thenK_at (Wp.seq (Wp.seq (Wp.text ?_))))
              refine kp 21 (.int IntKind.i64 n) ?_
              refine kp 22 (.int IntKind.u64 (IntKind.wrap .u64 n)) ?_
              refine kp 23 (.int IntKind.u64 (Int.tmod (IntKind.wrap .u64 n) 16)) ?_ (hop := fun _ => o_rem n16)
              refine kp 24 (.pointer (some (Addr.mk 0 (0 + Int.toNat (Int.tmod (IntKind.wrap .u64 n) 16) * 1) none))) ?_ (hop := fun _ => o_indexAddrP (a := Int.tmod (IntKind.wrap IntKind.u64 n) 16) (bl := 0) (off := 0) (size := 1) 67 _ g2)
              refine kp 25 (.nilFunc) ?_ (hop := fun _ => o_load1 0 (0 + Int.toNat (Int.tmod (IntKind.wrap IntKind.u64 n) 16) * 1) v2)
              refine kp 9 (.nilFunc) ?_
              refine WpOps.nil (thenK_at (Wp.seq (Wp.text ?_)))
              refine kp 26 (.nilFunc) ?_
              refine kp 27 (.bool false) ?_
              refine WpOps.nil (thenK_at (off' (Wp.skip (thenK_at (Wp.text ?_)))))
              refine kp 32 (.slice none 0 0) ?_
              refine kp 33 (.agg #[Value.bool false, Value.int .i64 0, Value.int .i64 0, Value.int .i64 (-1)]) ?_
              refine md 34 (.slice (some ⟨2, 0, none⟩) 1 1) (Blk.mk 46 true [Value.bool false, Value.int .i64 0, Value.int .i64 0, Value.int .i64 (-1)]) ?_
              refine md 35 (.slice (some ⟨3, 0, none⟩) 1 1) (Blk.mk 46 true [Value.bool false, Value.int .i64 0, Value.int .i64 0, Value.int .i64 (-1)]) ?_
              refine kp 5 (.slice (some ⟨3, 0, none⟩) 1 1) ?_
              refine WpOps.nil (blockK_norm (thenK_at (Wp.text ?_)))
              refine kp 36 (.int IntKind.i64 (IntKind.wrap .i64 ((↑0 : Int) + 1))) ?_
              refine kp 16 (.int IntKind.i64 (IntKind.wrap .i64 ((↑0 : Int) + 1))) ?_
              refine WpOps.nil (thenK_at ?_)
              refine ⟨0 + 1, by omega, by omega, ?_⟩
              try dsimp only
              rw [oV_own (by omega), oB_own (by omega)]
              exact View.of [0, 3] [⟨68, true, rulesM⟩, ⟨46, true, fc true (l.take (0 + 1))⟩] _ (by decide) rfl ⟨⟨rulesM, by kernel_rfl, rulesM_ok _ _⟩, ⟨_, by kernel_rfl, CellsOk.eq hsn (fc_flat _ _)⟩, trivial⟩ ⟨⟨by kernel_rfl, rfl⟩, ⟨by kernel_rfl, rfl⟩, ⟨by kernel_rfl, rfl⟩, ⟨by kernel_rfl, rfl⟩, ⟨congrArg (Value.int .i64) (wr _ (by omega) (by omega)), rfl⟩, trivial⟩
    · rw [oV_own h0, oB_own h0]
      have b1 : ¬ (k + 1 ≤ k) := by omega
      have hcm := cutM_eq l
      have b2 : 1 ≤ 32 ∧ (k + 1) * 32 ≤ 140737488355328 ∧ 4 = 4 ∧ k + 1 ≤ 9223372036854775807 := by omega
      have b3 := cells_whole (fc true (l.take k)) (k * 4) (by rw [fc_len, List.length_take]; omega)
      by_cases hg2 : j = 2
      · have v2 : rulesM[0 + ((IntKind.u64.wrap n).tmod 16).toNat * 1]? = some (fnV 55) := by
          rw [ej]
          subst hg2
          rfl
        have c1 := rule55 (n.fdiv (2 ^ min 4 64)) false 0 0 (-1)
        have he : ofC true n = [Value.bool false, .int .i64 1, .int .i64 0, .int .i64 (-1)] := by
          unfold ofC
          rw [hj, if_neg (by omega), if_pos (by omega)]
        rw [he] at hsn
        refine Wp.seq (Wp.text ?_)
        refine kp 17 (.bool true) ?_ (hop := fun _ => by_fact d1)
        refine WpOps.nil (thenK_at (Wp.seq (on' (Wp.skip (thenK_at (Wp.seq (Wp.block (Wp.seq (Wp.text ?_)))))))))
        refine kp 18 (.iface 3 (Value.iface (Int.toNat (↑k : Int) * 1) (Value.agg (cutC l)))) ?_ (hop := fun _ => o_indexI (e := 3) (size := 1) (a := (↑k : Int)) g1)
        refine kp 19 (.int IntKind.i64 n) ?_ (hop := fun _ => o_loadI1 (Int.toNat (↑k : Int) * 1) v1)
        refine kp 7 (.int IntKind.i64 n) ?_
        refine WpOps.nil (thenK_at (Wp.seq (Wp.text ?_)))
        refine kp 20 (.agg #[Value.bool false, Value.int .i64 0, Value.int .i64 0, Value.int .i64 (-1)]) ?_
        refine md 8 (.pointer (some ⟨2, 0, none⟩)) (Blk.mk 46 true [Value.bool false, Value.int .i64 0, Value.int .i64 0, Value.int .i64 0]) ?_
        refine ld (.tuple #[]) (2) (Blk.mk 46 true [Value.bool false, Value.int .i64 0, Value.int .i64 0, Value.int .i64 (-1)]) ?_
        refine WpOps.nil (thenK_at (Wp.seq (Wp.seq (Wp.text ?_))))
        refine kp 21 (.int IntKind.i64 n) ?_
        refine kp 22 (.int IntKind.u64 (IntKind.wrap .u64 n)) ?_
        refine kp 23 (.int IntKind.u64 (Int.tmod (IntKind.wrap .u64 n) 16)) ?_ (hop := fun _ => o_rem n16)
        refine kp 24 (.pointer (some (Addr.mk 0 (0 + Int.toNat (Int.tmod (IntKind.wrap .u64 n) 16) * 1) none))) ?_ (hop := fun _ => o_indexAddrP (a := Int.tmod (IntKind.wrap IntKind.u64 n) 16) (bl := 0) (off := 0) (size := 1) 67 _ g2)
        refine kp 25 (.func (Fn.func 55) #[] #[]) ?_ (hop := fun _ => o_load1 0 (0 + Int.toNat (Int.tmod (IntKind.wrap IntKind.u64 n) 16) * 1) v2)
        refine kp 9 (.func (Fn.func 55) #[] #[]) ?_
        refine WpOps.nil (thenK_at (Wp.seq (Wp.text ?_)))
        refine kp 26 (.func (Fn.func 55) #[] #[]) ?_
        refine kp 27 (.bool true) ?_
        refine WpOps.nil (thenK_at (on' (Wp.text ?_)))
        refine kp 28 (.func (Fn.func 55) #[] #[]) ?_
        refine kp 29 (.int IntKind.i64 n) ?_
        refine kp 30 (.int IntKind.i64 (Int.fdiv n (2 ^ 4))) ?_
        refine cl 31 55 [Value.int .i64 (Int.fdiv n (2 ^ 4)), Value.pointer (some ⟨2, 0, none⟩)] ?_
        refine WpCall.lent [2] (c1) (by decide) ⟨⟨[Value.bool false, Value.int IntKind.i64 0, Value.int IntKind.i64 0, Value.int IntKind.i64 (-1)], (by kernel_rfl), (by kernel_rfl), (by kernel_rfl)⟩, trivial⟩ (by kernel_rfl) (Value.tuple #[]) ([Blk.mk 46 true [Value.bool false, Value.int IntKind.i64 1, Value.int IntKind.i64 0, Value.int IntKind.i64 (-1)]]) (.cons (by kernel_rfl) .nil) (by kernel_rfl) (Heap.set (Heap.set (Heap.alloc (heapOf ([Blk.mk 68 true rulesM] ++ [Blk.mk 46 true (fc true (List.take k l))])) (Blk.mk 46 true [Value.bool false, Value.int IntKind.i64 0, Value.int IntKind.i64 0, Value.int IntKind.i64 0])) 2 (some (Blk.mk 46 true [Value.bool false, Value.int IntKind.i64 0, Value.int IntKind.i64 0, Value.int IntKind.i64 (-1)]))) 2 (some (Blk.mk 46 true [Value.bool false, Value.int IntKind.i64 1, Value.int IntKind.i64 0, Value.int IntKind.i64 (-1)]))) (by kernel_rfl) ?_
        refine WpOps.nil (thenK_at (Wp.text ?_))
        refine kp 32 (.slice (some ⟨1, 0, none⟩) k k) ?_
        refine kp 33 (.agg #[Value.bool false, Value.int .i64 1, Value.int .i64 0, Value.int .i64 (-1)]) ?_
        refine md 34 (.slice (some ⟨3, 0, none⟩) 1 1) (Blk.mk 46 true [Value.bool false, Value.int .i64 1, Value.int .i64 0, Value.int .i64 (-1)]) ?_
        refine ra 35 (.slice (some ⟨4, 0, none⟩) (k + 1) (k + 1)) (1) (Blk.mk 46 true (fc true (List.take k l) ++ [Value.bool false, Value.int .i64 1, Value.int .i64 0, Value.int .i64 (-1)])) ?_ (hop := fun _ => o_append (e := 46) 1 (0) (k) _ (k) b1 b2 b3)
        refine kp 5 (.slice (some ⟨4, 0, none⟩) (k + 1) (k + 1)) ?_
        refine WpOps.nil (blockK_norm (thenK_at (Wp.text ?_)))
        refine kp 36 (.int IntKind.i64 (IntKind.wrap .i64 ((↑k : Int) + 1))) ?_
        refine kp 16 (.int IntKind.i64 (IntKind.wrap .i64 ((↑k : Int) + 1))) ?_
        refine WpOps.nil (thenK_at ?_)
        refine ⟨k + 1, by omega, by omega, ?_⟩
        try dsimp only
        rw [oV_own (by omega), oB_own (by omega)]
        exact View.of [0, 4] [⟨68, true, rulesM⟩, ⟨46, true, fc true (l.take (k + 1))⟩] _ (by decide) rfl ⟨⟨rulesM, by kernel_rfl, rulesM_ok _ _⟩, ⟨_, by kernel_rfl, CellsOk.eq hsn (fc_flat _ _)⟩, trivial⟩ ⟨⟨by kernel_rfl, rfl⟩, ⟨by kernel_rfl, rfl⟩, ⟨by kernel_rfl, rfl⟩, ⟨by kernel_rfl, rfl⟩, ⟨congrArg (Value.int .i64) (wr _ (by omega) (by omega)), rfl⟩, trivial⟩
      · by_cases hg3 : j = 3
        · have v2 : rulesM[0 + ((IntKind.u64.wrap n).tmod 16).toNat * 1]? = some (fnV 56) := by
            rw [ej]
            subst hg3
            rfl
          have c1 := rule56 (n.fdiv (2 ^ min 4 64)) false 0 0 (-1)
          have he : ofC true n = [Value.bool false, .int .i64 (1 + modN (n.fdiv (2 ^ min 4 64)) 3), .int .i64 0, .int .i64 (-1)] := by
            unfold ofC
            rw [hj, if_neg (by omega), if_neg (by omega), if_pos (by omega)]
            rw [ekk]
          rw [he] at hsn
          refine Wp.seq (Wp.text ?_)
          refine kp 17 (.bool true) ?_ (hop := fun _ => by_fact d1)
          refine WpOps.nil (thenK_at (Wp.seq (on' (Wp.skip (thenK_at (Wp.seq (Wp.block (Wp.seq (Wp.text ?_)))))))))
          refine kp 18 (.iface 3 (Value.iface (Int.toNat (↑k : Int) * 1) (Value.agg (cutC l)))) ?_ (hop := fun _ => o_indexI (e := 3) (size := 1) (a := (↑k : Int)) g1)
          refine kp 19 (.int IntKind.i64 n) ?_ (hop := fun _ => o_loadI1 (Int.toNat (↑k : Int) * 1) v1)
          refine kp 7 (.int IntKind.i64 n) ?_
          refine WpOps.nil (thenK_at (Wp.seq (Wp.text ?_)))
          refine kp 20 (.agg #[Value.bool false, Value.int .i64 0, Value.int .i64 0, Value.int .i64 (-1)]) ?_
          refine md 8 (.pointer (some ⟨2, 0, none⟩)) (Blk.mk 46 true [Value.bool false, Value.int .i64 0, Value.int .i64 0, Value.int .i64 0]) ?_
          refine ld (.tuple #[]) (2) (Blk.mk 46 true [Value.bool false, Value.int .i64 0, Value.int .i64 0, Value.int .i64 (-1)]) ?_
          refine WpOps.nil (thenK_at (Wp.seq (Wp.seq (Wp.text ?_))))
          refine kp 21 (.int IntKind.i64 n) ?_
          refine kp 22 (.int IntKind.u64 (IntKind.wrap .u64 n)) ?_
          refine kp 23 (.int IntKind.u64 (Int.tmod (IntKind.wrap .u64 n) 16)) ?_ (hop := fun _ => o_rem n16)
          refine kp 24 (.pointer (some (Addr.mk 0 (0 + Int.toNat (Int.tmod (IntKind.wrap .u64 n) 16) * 1) none))) ?_ (hop := fun _ => o_indexAddrP (a := Int.tmod (IntKind.wrap IntKind.u64 n) 16) (bl := 0) (off := 0) (size := 1) 67 _ g2)
          refine kp 25 (.func (Fn.func 56) #[] #[]) ?_ (hop := fun _ => o_load1 0 (0 + Int.toNat (Int.tmod (IntKind.wrap IntKind.u64 n) 16) * 1) v2)
          refine kp 9 (.func (Fn.func 56) #[] #[]) ?_
          refine WpOps.nil (thenK_at (Wp.seq (Wp.text ?_)))
          refine kp 26 (.func (Fn.func 56) #[] #[]) ?_
          refine kp 27 (.bool true) ?_
          refine WpOps.nil (thenK_at (on' (Wp.text ?_)))
          refine kp 28 (.func (Fn.func 56) #[] #[]) ?_
          refine kp 29 (.int IntKind.i64 n) ?_
          refine kp 30 (.int IntKind.i64 (Int.fdiv n (2 ^ 4))) ?_
          refine cl 31 56 [Value.int .i64 (Int.fdiv n (2 ^ 4)), Value.pointer (some ⟨2, 0, none⟩)] ?_
          refine WpCall.lent [2] (c1) (by decide) ⟨⟨[Value.bool false, Value.int IntKind.i64 0, Value.int IntKind.i64 0, Value.int IntKind.i64 (-1)], (by kernel_rfl), (by kernel_rfl), (by kernel_rfl)⟩, trivial⟩ (by kernel_rfl) (Value.tuple #[]) ([Blk.mk 46 true [Value.bool false, Value.int IntKind.i64 (1 + modN (Int.fdiv n (2 ^ min 4 64)) 3), Value.int IntKind.i64 0, Value.int IntKind.i64 (-1)]]) (.cons (by kernel_rfl) .nil) (by kernel_rfl) (Heap.set (Heap.set (Heap.alloc (heapOf ([Blk.mk 68 true rulesM] ++ [Blk.mk 46 true (fc true (List.take k l))])) (Blk.mk 46 true [Value.bool false, Value.int IntKind.i64 0, Value.int IntKind.i64 0, Value.int IntKind.i64 0])) 2 (some (Blk.mk 46 true [Value.bool false, Value.int IntKind.i64 0, Value.int IntKind.i64 0, Value.int IntKind.i64 (-1)]))) 2 (some (Blk.mk 46 true [Value.bool false, Value.int IntKind.i64 (1 + modN (Int.fdiv n (2 ^ 4)) 3), Value.int IntKind.i64 0, Value.int IntKind.i64 (-1)]))) (by kernel_rfl) ?_
          refine WpOps.nil (thenK_at (Wp.text ?_))
          refine kp 32 (.slice (some ⟨1, 0, none⟩) k k) ?_
          refine kp 33 (.agg #[Value.bool false, Value.int .i64 (1 + modN (Int.fdiv n (2 ^ 4)) 3), Value.int .i64 0, Value.int .i64 (-1)]) ?_
          refine md 34 (.slice (some ⟨3, 0, none⟩) 1 1) (Blk.mk 46 true [Value.bool false, Value.int .i64 (1 + modN (Int.fdiv n (2 ^ 4)) 3), Value.int .i64 0, Value.int .i64 (-1)]) ?_
          refine ra 35 (.slice (some ⟨4, 0, none⟩) (k + 1) (k + 1)) (1) (Blk.mk 46 true (fc true (List.take k l) ++ [Value.bool false, Value.int .i64 (1 + modN (Int.fdiv n (2 ^ 4)) 3), Value.int .i64 0, Value.int .i64 (-1)])) ?_ (hop := fun _ => o_append (e := 46) 1 (0) (k) _ (k) b1 b2 b3)
          refine kp 5 (.slice (some ⟨4, 0, none⟩) (k + 1) (k + 1)) ?_
          refine WpOps.nil (blockK_norm (thenK_at (Wp.text ?_)))
          refine kp 36 (.int IntKind.i64 (IntKind.wrap .i64 ((↑k : Int) + 1))) ?_
          refine kp 16 (.int IntKind.i64 (IntKind.wrap .i64 ((↑k : Int) + 1))) ?_
          refine WpOps.nil (thenK_at ?_)
          refine ⟨k + 1, by omega, by omega, ?_⟩
          try dsimp only
          rw [oV_own (by omega), oB_own (by omega)]
          exact View.of [0, 4] [⟨68, true, rulesM⟩, ⟨46, true, fc true (l.take (k + 1))⟩] _ (by decide) rfl ⟨⟨rulesM, by kernel_rfl, rulesM_ok _ _⟩, ⟨_, by kernel_rfl, CellsOk.eq hsn (fc_flat _ _)⟩, trivial⟩ ⟨⟨by kernel_rfl, rfl⟩, ⟨by kernel_rfl, rfl⟩, ⟨by kernel_rfl, rfl⟩, ⟨by kernel_rfl, rfl⟩, ⟨congrArg (Value.int .i64) (wr _ (by omega) (by omega)), rfl⟩, trivial⟩
        · by_cases hg45 : j = 4 ∨ j = 5
          · have v2 : rulesM[0 + ((IntKind.u64.wrap n).tmod 16).toNat * 1]? = some (fnV 53) := by
              rw [ej]
              rcases hg45 with rfl | rfl <;> rfl
            have c1 := rule53 (n.fdiv (2 ^ min 4 64)) false 0 0 (-1)
            have he : ofC true n = [Value.bool false, .int .i64 0, .int .i64 (modN (n.fdiv (2 ^ min 4 64)) 21), .int .i64 (-1)] := by
              unfold ofC
              rw [hj, if_neg (by omega), if_neg (by omega), if_neg (by omega), if_pos (by omega)]
              rw [ekk]
            rw [he] at hsn
            refine Wp.seq (Wp.text ?_)
            refine kp 17 (.bool true) ?_ (hop := fun _ => by_fact d1)
            refine WpOps.nil (thenK_at (Wp.seq (on' (Wp.skip (thenK_at (Wp.seq (Wp.block (Wp.seq (Wp.text ?_)))))))))
            refine kp 18 (.iface 3 (Value.iface (Int.toNat (↑k : Int) * 1) (Value.agg (cutC l)))) ?_ (hop := fun _ => o_indexI (e := 3) (size := 1) (a := (↑k : Int)) g1)
            refine kp 19 (.int IntKind.i64 n) ?_ (hop := fun _ => o_loadI1 (Int.toNat (↑k : Int) * 1) v1)
            refine kp 7 (.int IntKind.i64 n) ?_
            refine WpOps.nil (thenK_at (Wp.seq (Wp.text ?_)))
            refine kp 20 (.agg #[Value.bool false, Value.int .i64 0, Value.int .i64 0, Value.int .i64 (-1)]) ?_
            refine md 8 (.pointer (some ⟨2, 0, none⟩)) (Blk.mk 46 true [Value.bool false, Value.int .i64 0, Value.int .i64 0, Value.int .i64 0]) ?_
            refine ld (.tuple #[]) (2) (Blk.mk 46 true [Value.bool false, Value.int .i64 0, Value.int .i64 0, Value.int .i64 (-1)]) ?_
            refine WpOps.nil (thenK_at (Wp.seq (Wp.seq (Wp.text ?_))))
            refine kp 21 (.int IntKind.i64 n) ?_
            refine kp 22 (.int IntKind.u64 (IntKind.wrap .u64 n)) ?_
            refine kp 23 (.int IntKind.u64 (Int.tmod (IntKind.wrap .u64 n) 16)) ?_ (hop := fun _ => o_rem n16)
            refine kp 24 (.pointer (some (Addr.mk 0 (0 + Int.toNat (Int.tmod (IntKind.wrap .u64 n) 16) * 1) none))) ?_ (hop := fun _ => o_indexAddrP (a := Int.tmod (IntKind.wrap IntKind.u64 n) 16) (bl := 0) (off := 0) (size := 1) 67 _ g2)
            refine kp 25 (.func (Fn.func 53) #[] #[]) ?_ (hop := fun _ => o_load1 0 (0 + Int.toNat (Int.tmod (IntKind.wrap IntKind.u64 n) 16) * 1) v2)
            refine kp 9 (.func (Fn.func 53) #[] #[]) ?_
            refine WpOps.nil (thenK_at (Wp.seq (Wp.text ?_)))
            refine kp 26 (.func (Fn.func 53) #[] #[]) ?_
            refine kp 27 (.bool true) ?_
            refine WpOps.nil (thenK_at (on' (Wp.text ?_)))
            refine kp 28 (.func (Fn.func 53) #[] #[]) ?_
            refine kp 29 (.int IntKind.i64 n) ?_
            refine kp 30 (.int IntKind.i64 (Int.fdiv n (2 ^ 4))) ?_
            refine cl 31 53 [Value.int .i64 (Int.fdiv n (2 ^ 4)), Value.pointer (some ⟨2, 0, none⟩)] ?_
            refine WpCall.lent [2] (c1) (by decide) ⟨⟨[Value.bool false, Value.int IntKind.i64 0, Value.int IntKind.i64 0, Value.int IntKind.i64 (-1)], (by kernel_rfl), (by kernel_rfl), (by kernel_rfl)⟩, trivial⟩ (by kernel_rfl) (Value.tuple #[]) ([Blk.mk 46 true [Value.bool false, Value.int IntKind.i64 0, Value.int IntKind.i64 (modN (Int.fdiv n (2 ^ min 4 64)) 21), Value.int IntKind.i64 (-1)]]) (.cons (by kernel_rfl) .nil) (by kernel_rfl) (Heap.set (Heap.set (Heap.alloc (heapOf ([Blk.mk 68 true rulesM] ++ [Blk.mk 46 true (fc true (List.take k l))])) (Blk.mk 46 true [Value.bool false, Value.int IntKind.i64 0, Value.int IntKind.i64 0, Value.int IntKind.i64 0])) 2 (some (Blk.mk 46 true [Value.bool false, Value.int IntKind.i64 0, Value.int IntKind.i64 0, Value.int IntKind.i64 (-1)]))) 2 (some (Blk.mk 46 true [Value.bool false, Value.int IntKind.i64 0, Value.int IntKind.i64 (modN (Int.fdiv n (2 ^ 4)) 21), Value.int IntKind.i64 (-1)]))) (by kernel_rfl) ?_
            refine WpOps.nil (thenK_at (Wp.text ?_))
            refine kp 32 (.slice (some ⟨1, 0, none⟩) k k) ?_
            refine kp 33 (.agg #[Value.bool false, Value.int .i64 0, Value.int .i64 (modN (Int.fdiv n (2 ^ 4)) 21), Value.int .i64 (-1)]) ?_
            refine md 34 (.slice (some ⟨3, 0, none⟩) 1 1) (Blk.mk 46 true [Value.bool false, Value.int .i64 0, Value.int .i64 (modN (Int.fdiv n (2 ^ 4)) 21), Value.int .i64 (-1)]) ?_
            refine ra 35 (.slice (some ⟨4, 0, none⟩) (k + 1) (k + 1)) (1) (Blk.mk 46 true (fc true (List.take k l) ++ [Value.bool false, Value.int .i64 0, Value.int .i64 (modN (Int.fdiv n (2 ^ 4)) 21), Value.int .i64 (-1)])) ?_ (hop := fun _ => o_append (e := 46) 1 (0) (k) _ (k) b1 b2 b3)
            refine kp 5 (.slice (some ⟨4, 0, none⟩) (k + 1) (k + 1)) ?_
            refine WpOps.nil (blockK_norm (thenK_at (Wp.text ?_)))
            refine kp 36 (.int IntKind.i64 (IntKind.wrap .i64 ((↑k : Int) + 1))) ?_
            refine kp 16 (.int IntKind.i64 (IntKind.wrap .i64 ((↑k : Int) + 1))) ?_
            refine WpOps.nil (thenK_at ?_)
            refine ⟨k + 1, by omega, by omega, ?_⟩
            try dsimp only
            rw [oV_own (by omega), oB_own (by omega)]
            exact View.of [0, 4] [⟨68, true, rulesM⟩, ⟨46, true, fc true (l.take (k + 1))⟩] _ (by decide) rfl ⟨⟨rulesM, by kernel_rfl, rulesM_ok _ _⟩, ⟨_, by kernel_rfl, CellsOk.eq hsn (fc_flat _ _)⟩, trivial⟩ ⟨⟨by kernel_rfl, rfl⟩, ⟨by kernel_rfl, rfl⟩, ⟨by kernel_rfl, rfl⟩, ⟨by kernel_rfl, rfl⟩, ⟨congrArg (Value.int .i64) (wr _ (by omega) (by omega)), rfl⟩, trivial⟩
          · by_cases hg7 : j = 7
            · have v2 : rulesM[0 + ((IntKind.u64.wrap n).tmod 16).toNat * 1]? = some (fnV 58) := by
                rw [ej]
                subst hg7
                rfl
              have c1 := rule58 (n.fdiv (2 ^ min 4 64)) false 0 0 (-1)
              have he : ofC true n = [Value.bool false, .int .i64 1, .int .i64 (modN (n.fdiv (2 ^ min 4 64)) 8), .int .i64 (-1)] := by
                unfold ofC
                rw [hj, if_neg (by omega), if_neg (by omega), if_neg (by omega), if_neg (by omega), if_neg (by omega), if_pos (by omega)]
                rw [ekk]
              rw [he] at hsn
              refine Wp.seq (Wp.text ?_)
              refine kp 17 (.bool true) ?_ (hop := fun _ => by_fact d1)
              refine WpOps.nil (thenK_at (Wp.seq (on' (Wp.skip (thenK_at (Wp.seq (Wp.block (Wp.seq (Wp.text ?_)))))))))
              refine kp 18 (.iface 3 (Value.iface (Int.toNat (↑k : Int) * 1) (Value.agg (cutC l)))) ?_ (hop := fun _ => o_indexI (e := 3) (size := 1) (a := (↑k : Int)) g1)
              refine kp 19 (.int IntKind.i64 n) ?_ (hop := fun _ => o_loadI1 (Int.toNat (↑k : Int) * 1) v1)
              refine kp 7 (.int IntKind.i64 n) ?_
              refine WpOps.nil (thenK_at (Wp.seq (Wp.text ?_)))
              refine kp 20 (.agg #[Value.bool false, Value.int .i64 0, Value.int .i64 0, Value.int .i64 (-1)]) ?_
              refine md 8 (.pointer (some ⟨2, 0, none⟩)) (Blk.mk 46 true [Value.bool false, Value.int .i64 0, Value.int .i64 0, Value.int .i64 0]) ?_
              refine ld (.tuple #[]) (2) (Blk.mk 46 true [Value.bool false, Value.int .i64 0, Value.int .i64 0, Value.int .i64 (-1)]) ?_
              refine WpOps.nil (thenK_at (Wp.seq (Wp.seq (Wp.text ?_))))
              refine kp 21 (.int IntKind.i64 n) ?_
              refine kp 22 (.int IntKind.u64 (IntKind.wrap .u64 n)) ?_
              refine kp 23 (.int IntKind.u64 (Int.tmod (IntKind.wrap .u64 n) 16)) ?_ (hop := fun _ => o_rem n16)
              refine kp 24 (.pointer (some (Addr.mk 0 (0 + Int.toNat (Int.tmod (IntKind.wrap .u64 n) 16) * 1) none))) ?_ (hop := fun _ => o_indexAddrP (a := Int.tmod (IntKind.wrap IntKind.u64 n) 16) (bl := 0) (off := 0) (size := 1) 67 _ g2)
              refine kp 25 (.func (Fn.func 58) #[] #[]) ?_ (hop := fun _ => o_load1 0 (0 + Int.toNat (Int.tmod (IntKind.wrap IntKind.u64 n) 16) * 1) v2)
              refine kp 9 (.func (Fn.func 58) #[] #[]) ?_
              refine WpOps.nil (thenK_at (Wp.seq (Wp.text ?_)))
              refine kp 26 (.func (Fn.func 58) #[] #[]) ?_
              refine kp 27 (.bool true) ?_
              refine WpOps.nil (thenK_at (on' (Wp.text ?_)))
              refine kp 28 (.func (Fn.func 58) #[] #[]) ?_
              refine kp 29 (.int IntKind.i64 n) ?_
              refine kp 30 (.int IntKind.i64 (Int.fdiv n (2 ^ 4))) ?_
              refine cl 31 58 [Value.int .i64 (Int.fdiv n (2 ^ 4)), Value.pointer (some ⟨2, 0, none⟩)] ?_
              refine WpCall.lent [2] (c1) (by decide) ⟨⟨[Value.bool false, Value.int IntKind.i64 0, Value.int IntKind.i64 0, Value.int IntKind.i64 (-1)], (by kernel_rfl), (by kernel_rfl), (by kernel_rfl)⟩, trivial⟩ (by kernel_rfl) (Value.tuple #[]) ([Blk.mk 46 true [Value.bool false, Value.int IntKind.i64 1, Value.int IntKind.i64 (modN (Int.fdiv n (2 ^ min 4 64)) 8), Value.int IntKind.i64 (-1)]]) (.cons (by kernel_rfl) .nil) (by kernel_rfl) (Heap.set (Heap.set (Heap.alloc (heapOf ([Blk.mk 68 true rulesM] ++ [Blk.mk 46 true (fc true (List.take k l))])) (Blk.mk 46 true [Value.bool false, Value.int IntKind.i64 0, Value.int IntKind.i64 0, Value.int IntKind.i64 0])) 2 (some (Blk.mk 46 true [Value.bool false, Value.int IntKind.i64 0, Value.int IntKind.i64 0, Value.int IntKind.i64 (-1)]))) 2 (some (Blk.mk 46 true [Value.bool false, Value.int IntKind.i64 1, Value.int IntKind.i64 (modN (Int.fdiv n (2 ^ 4)) 8), Value.int IntKind.i64 (-1)]))) (by kernel_rfl) ?_
              refine WpOps.nil (thenK_at (Wp.text ?_))
              refine kp 32 (.slice (some ⟨1, 0, none⟩) k k) ?_
              refine kp 33 (.agg #[Value.bool false, Value.int .i64 1, Value.int .i64 (modN (Int.fdiv n (2 ^ 4)) 8), Value.int .i64 (-1)]) ?_
              refine md 34 (.slice (some ⟨3, 0, none⟩) 1 1) (Blk.mk 46 true [Value.bool false, Value.int .i64 1, Value.int .i64 (modN (Int.fdiv n (2 ^ 4)) 8), Value.int .i64 (-1)]) ?_
              refine ra 35 (.slice (some ⟨4, 0, none⟩) (k + 1) (k + 1)) (1) (Blk.mk 46 true (fc true (List.take k l) ++ [Value.bool false, Value.int .i64 1, Value.int .i64 (modN (Int.fdiv n (2 ^ 4)) 8), Value.int .i64 (-1)])) ?_ (hop := fun _ => o_append (e := 46) 1 (0) (k) _ (k) b1 b2 b3)
              refine kp 5 (.slice (some ⟨4, 0, none⟩) (k + 1) (k + 1)) ?_
              refine WpOps.nil (blockK_norm (thenK_at (Wp.text ?_)))
              refine kp 36 (.int IntKind.i64 (IntKind.wrap .i64 ((↑k : Int) + 1))) ?_
              refine kp 16 (.int IntKind.i64 (IntKind.wrap .i64 ((↑k : Int) + 1))) ?_
              refine WpOps.nil (thenK_at ?_)
              refine ⟨k + 1, by omega, by omega, ?_⟩
              try dsimp only
              rw [oV_own (by omega), oB_own (by omega)]
              exact View.of [0, 4] [⟨68, true, rulesM⟩, ⟨46, true, fc true (l.take (k + 1))⟩] _ (by decide) rfl ⟨⟨rulesM, by kernel_rfl, rulesM_ok _ _⟩, ⟨_, by kernel_rfl, CellsOk.eq hsn (fc_flat _ _)⟩, trivial⟩ ⟨⟨by kernel_rfl, rfl⟩, ⟨by kernel_rfl, rfl⟩, ⟨by kernel_rfl, rfl⟩, ⟨by kernel_rfl, rfl⟩, ⟨congrArg (Value.int .i64) (wr _ (by omega) (by omega)), rfl⟩, trivial⟩
            · have v2 : rulesM[0 + ((IntKind.u64.wrap n).tmod 16).toNat * 1]? = some .nilFunc := by
                rw [ej]
                rcases (by omega : j = 0 ∨ j = 1 ∨ j = 6 ∨ j = 8 ∨ j = 9 ∨ j = 10 ∨ j = 11 ∨ j = 12 ∨ j = 13 ∨ j = 14 ∨ j = 15) with rfl | rfl | rfl | rfl | rfl | rfl | rfl | rfl | rfl | rfl | rfl <;> rfl
              have he : ofC true n = [Value.bool false, .int .i64 0, .int .i64 0, .int .i64 (-1)] := by
                unfold ofC
                rw [hj]
                rcases (by omega : j = 0 ∨ j = 1 ∨ j = 6 ∨ j = 8 ∨ j = 9 ∨ j = 10 ∨ j = 11 ∨ j = 12 ∨ j = 13 ∨ j = 14 ∨ j = 15) with rfl | rfl | rfl | rfl | rfl | rfl | rfl | rfl | rfl | rfl | rfl <;> rfl
              rw [he] at hsn
              refine Wp.seq (Wp.text ?_)
              refine kp 17 (.bool true) ?_ (hop := fun _ => by_fact d1)
              refine WpOps.nil (thenK_at (Wp.seq (on' (Wp.skip (thenK_at (Wp.seq (Wp.block (Wp.seq (Wp.text ?_)))))))))
              refine kp 18 (.iface 3 (Value.iface (Int.toNat (↑k : Int) * 1) (Value.agg (cutC l)))) ?_ (hop := fun _ => o_indexI (e := 3) (size := 1) (a := (↑k : Int)) g1)
              refine kp 19 (.int IntKind.i64 n) ?_ (hop := fun _ => o_loadI1 (Int.toNat (↑k : Int) * 1) v1)
              refine kp 7 (.int IntKind.i64 n) ?_
              refine WpOps.nil (thenK_at (Wp.seq (Wp.text ?_)))
              refine kp 20 (.agg #[Value.bool false, Value.int .i64 0, Value.int .i64 0, Value.int .i64 (-1)]) ?_
              refine md 8 (.pointer (some ⟨2, 0, none⟩)) (Blk.mk 46 true [Value.bool false, Value.int .i64 0, Value.int .i64 0, Value.int .i64 0]) ?_
              refine ld (.tuple #[]) (2) (Blk.mk 46 true [Value.bool false, Value.int .i64 0, Value.int .i64 0, Value.int .i64 (-1)]) ?_
              refine WpOps.nil (thenK_at (Wp.seq (Wp.seq (Wp.text ?_))))
              refine kp 21 (.int IntKind.i64 n) ?_
              refine kp 22 (.int IntKind.u64 (IntKind.wrap .u64 n)) ?_
              refine kp 23 (.int IntKind.u64 (Int.tmod (IntKind.wrap .u64 n) 16)) ?_ (hop := fun _ => o_rem n16)
              refine kp 24 (.pointer (some (Addr.mk 0 (0 + Int.toNat (Int.tmod (IntKind.wrap .u64 n) 16) * 1) none))) ?_ (hop := fun _ => o_indexAddrP (a := Int.tmod (IntKind.wrap IntKind.u64 n) 16) (bl := 0) (off := 0) (size := 1) 67 _ g2)
              refine kp 25 (.nilFunc) ?_ (hop := fun _ => o_load1 0 (0 + Int.toNat (Int.tmod (IntKind.wrap IntKind.u64 n) 16) * 1) v2)
              refine kp 9 (.nilFunc) ?_
              refine WpOps.nil (thenK_at (Wp.seq (Wp.text ?_)))
              refine kp 26 (.nilFunc) ?_
              refine kp 27 (.bool false) ?_
              refine WpOps.nil (thenK_at (off' (Wp.skip (thenK_at (Wp.text ?_)))))
              refine kp 32 (.slice (some ⟨1, 0, none⟩) k k) ?_
              refine kp 33 (.agg #[Value.bool false, Value.int .i64 0, Value.int .i64 0, Value.int .i64 (-1)]) ?_
              refine md 34 (.slice (some ⟨3, 0, none⟩) 1 1) (Blk.mk 46 true [Value.bool false, Value.int .i64 0, Value.int .i64 0, Value.int .i64 (-1)]) ?_
              refine ra 35 (.slice (some ⟨4, 0, none⟩) (k + 1) (k + 1)) (1) (Blk.mk 46 true (fc true (List.take k l) ++ [Value.bool false, Value.int .i64 0, Value.int .i64 0, Value.int .i64 (-1)])) ?_ (hop := fun _ => o_append (e := 46) 1 (0) (k) _ (k) b1 b2 b3)
              refine kp 5 (.slice (some ⟨4, 0, none⟩) (k + 1) (k + 1)) ?_
              refine WpOps.nil (blockK_norm (thenK_at (Wp.text ?_)))
              refine kp 36 (.int IntKind.i64 (IntKind.wrap .i64 ((↑k : Int) + 1))) ?_
              refine kp 16 (.int IntKind.i64 (IntKind.wrap .i64 ((↑k : Int) + 1))) ?_
              refine WpOps.nil (thenK_at ?_)
              refine ⟨k + 1, by omega, by omega, ?_⟩
              try dsimp only
              rw [oV_own (by omega), oB_own (by omega)]
              exact View.of [0, 4] [⟨68, true, rulesM⟩, ⟨46, true, fc true (l.take (k + 1))⟩] _ (by decide) rfl ⟨⟨rulesM, by kernel_rfl, rulesM_ok _ _⟩, ⟨_, by kernel_rfl, CellsOk.eq hsn (fc_flat _ _)⟩, trivial⟩ ⟨⟨by kernel_rfl, rfl⟩, ⟨by kernel_rfl, rfl⟩, ⟨by kernel_rfl, rfl⟩, ⟨by kernel_rfl, rfl⟩, ⟨congrArg (Value.int .i64) (wr _ (by omega) (by omega)), rfl⟩, trivial⟩
  · obtain rfl : k = cutM l := by omega
    have hcm := cutM_eq l
    have hend : l.take (cutM l) = l.take 200 := by
      rw [hcm]
      rcases Nat.le_total l.length 200 with h | h
      · rw [Nat.min_eq_left h, List.take_length, List.take_of_length_le h]
      · rw [Nat.min_eq_right h]
    have d3 : decide ((cutM l : Int) < cutM l) = false := decide_eq_false (by omega)
    have hlen : cutM l * 4 = (fc true (l.take 200)).length := by rw [fc_len, List.length_take]; omega
    rw [hend, ← hcm]
    have hf := fc_flat true (l.take 200)
    generalize fc true (l.take 200) = cs at hlen hf
    unfold outF
    by_cases h0 : cutM l = 0
    · rw [if_pos h0, h0, oV_nil, oB_nil]
      have d4 : decide (((0 : Nat) : Int) < cutM l) = false := by rw [h0]; rfl
      rw [h0] at d4
      refine Wp.seq (Wp.text ?_)
      refine kp 17 (.bool false) ?_
      refine WpOps.nil (thenK_at (Wp.seq (off' (Wp.exit (thenK_exit (thenK_exit (blockK_hit (thenK_at (Wp.seq (Wp.text ?_))))))))))
      refine kp 37 (.slice none 0 0) ?_
      refine kp 4 (.slice none 0 0) ?_
      refine WpOps.nil (thenK_at (Wp.ret ?_))
      refine endK_retn [Value.slice none 0 0] (Value.slice none 0 0) (by kernel_rfl) (by kernel_rfl) ?_
      obtain ⟨ti, ht⟩ := types46
      exact ⟨[], by decide, by kernel_rfl, trivial, .w (.ice (.slice none 0 0) (by kernel_rfl) (.c (.inr ⟨rfl, 46, ti, ht, rfl⟩)))⟩
    · rw [oV_own h0, oB_own h0, if_neg h0]
      refine Wp.seq (Wp.text ?_)
      refine kp 17 (.bool false) ?_ (hop := fun _ => by_fact d3)
      refine WpOps.nil (thenK_at (Wp.seq (off' (Wp.exit (thenK_exit (thenK_exit (blockK_hit (thenK_at (Wp.seq (Wp.text ?_))))))))))
      refine kp 37 (.slice (some ⟨1, 0, none⟩) (cutM l) (cutM l)) ?_
      refine kp 4 (.slice (some ⟨1, 0, none⟩) (cutM l) (cutM l)) ?_
      refine WpOps.nil (thenK_at (Wp.ret ?_))
      refine endK_retn [Value.slice (some (Addr.mk 1 0 none)) (cutM l) (cutM l)] (Value.slice (some (Addr.mk 1 0 none)) (cutM l) (cutM l)) (by kernel_rfl) (by kernel_rfl) ?_
      exact ⟨[], by decide, by kernel_rfl, trivial, .w (.ice (FS 46 (cutM l) 0 cs.toArray) (ice_rowW 46 cs (by kernel_rfl) hf hlen (by kernel_rfl)) (.c (.inl rfl)))⟩
end Go.Proofs.Ytdkmdpklojeepaa.D
