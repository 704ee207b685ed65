/- The law RelayScripts. -/
import Derived.Test.YtdkmdpklojeepaaFwLem
import Derived.Test.YtdkmdpklojeepaaF09l
namespace Go.Proofs.Ytdkmdpklojeepaa.D
open Go.Fw Go.RowKit

theorem f5 : E.funcs 5 = some Try.f5 := by kernel_rfl
theorem law5 (x : Nat) (l : List Int) (hl : ∀ n ∈ l, I64 n) (hz : l.length ≤ 17592186044416) : Fun E 5 [sl x l] (.bool true) := by
  refine Fun.of f5 rfl (of_decide_eq_true (by kernel_rfl)) rfl ?_
  have c0 := sane8
  by_cases hbig : l.length ≤ 1000
  · have d0 : decide ((l.length : Int) > 1000) = false := decide_eq_false (by omega)
    have c1 := copy19 x l hz
    have c2 := of15 x l hl hbig
    have c3 := mild11 x l hl hbig
    have c4 := of16 0 l hl hbig
    have c5 := mild12 0 l hl hbig
    have c6 := ints20 x 0 l (by omega)
    have e : min l.length 200 = (l.take 200).length := by rw [List.length_take]; omega
    rw [e] at c2 c3 c4 c5
    have hzL : (l.take 200).length ≤ 200 := by rw [List.length_take]; omega
    generalize l.take 200 = L at c2 c3 c4 c5 hzL
    unfold outF at c2 c3 c4 c5
    by_cases h0 : L.length = 0
    · rw [if_pos h0] at c2 c3 c4 c5
      have c7 := calm21n
      have c8 := calm22n
      refine Wp.seq (Wp.text ?_)
      refine kp 2 (.bool false) ?_
      refine WpOps.nil (thenK_at (Wp.seq (Wp.seq (Wp.text ?_))))
      refine kp 11 (.iface 3 (Value.iface (List.length l) (Value.iface x (Value.agg (List.toArray (List.map (fun n => Value.int .i64 n) l)))))) ?_
      refine kp 12 (.int IntKind.i64 (↑(List.length l) : Int)) ?_
      refine kp 13 (.bool false) ?_ (hop := fun _ => by_fact d0)
      refine WpOps.nil (thenK_at (off' (Wp.skip (thenK_at (Wp.seq (Wp.text ?_))))))
      refine kp 15 (.iface 3 (Value.iface (List.length l) (Value.iface x (Value.agg (List.toArray (List.map (fun n => Value.int .i64 n) l)))))) ?_
      refine fr 16 19 [Value.iface 3 (Value.iface (List.length l) (Value.iface x (Value.agg (List.toArray (List.map (fun n => Value.int .i64 n) l)))))] ?_
      refine WpFun.of (c1) ?_
      refine kp 3 (.iface 3 (Value.iface (List.length l) (Value.iface 0 (Value.agg (List.toArray (List.map (fun n => Value.int .i64 n) l)))))) ?_
      refine WpOps.nil (thenK_at (Wp.seq (Wp.text ?_)))
      refine kp 17 (.iface 3 (Value.iface (List.length l) (Value.iface x (Value.agg (List.toArray (List.map (fun n => Value.int .i64 n) l)))))) ?_
      refine fr 18 15 [Value.iface 3 (Value.iface (List.length l) (Value.iface x (Value.agg (List.toArray (List.map (fun n => Value.int .i64 n) l)))))] ?_
      refine WpFun.of (c2) ?_
      refine kp 4 (.iface 46 (Value.iface 0 (Value.iface 2 (Value.agg #[])))) ?_
      refine WpOps.nil (thenK_at (Wp.seq (Wp.text ?_)))
      refine kp 19 (.iface 3 (Value.iface (List.length l) (Value.iface x (Value.agg (List.toArray (List.map (fun n => Value.int .i64 n) l)))))) ?_
      refine fr 20 11 [Value.iface 3 (Value.iface (List.length l) (Value.iface x (Value.agg (List.toArray (List.map (fun n => Value.int .i64 n) l)))))] ?_
      refine WpFun.of (c3) ?_
      refine kp 5 (.iface 46 (Value.iface 0 (Value.iface 2 (Value.agg #[])))) ?_
      refine WpOps.nil (thenK_at (Wp.seq (Wp.text ?_)))
      refine kp 21 (.iface 3 (Value.iface (List.length l) (Value.iface 0 (Value.agg (List.toArray (List.map (fun n => Value.int .i64 n) l)))))) ?_
      refine fr 22 16 [Value.iface 3 (Value.iface (List.length l) (Value.iface 0 (Value.agg (List.toArray (List.map (fun n => Value.int .i64 n) l)))))] ?_
      refine WpFun.of (c4) ?_
      refine kp 6 (.iface 36 (Value.iface 0 (Value.iface 2 (Value.agg #[])))) ?_
      refine WpOps.nil (thenK_at (Wp.seq (Wp.text ?_)))
      refine kp 23 (.iface 3 (Value.iface (List.length l) (Value.iface 0 (Value.agg (List.toArray (List.map (fun n => Value.int .i64 n) l)))))) ?_
      refine fr 24 12 [Value.iface 3 (Value.iface (List.length l) (Value.iface 0 (Value.agg (List.toArray (List.map (fun n => Value.int .i64 n) l)))))] ?_
      refine WpFun.of (c5) ?_
      refine kp 7 (.iface 36 (Value.iface 0 (Value.iface 2 (Value.agg #[])))) ?_
      refine WpOps.nil (thenK_at (Wp.seq (Wp.seq (Wp.text ?_))))
      refine kp 25 (.iface 46 (Value.iface 0 (Value.iface 2 (Value.agg #[])))) ?_
      refine kp 26 (.int IntKind.i64 (↑0 : Int)) ?_
      refine kp 27 (.iface 36 (Value.iface 0 (Value.iface 2 (Value.agg #[])))) ?_
      refine kp 28 (.int IntKind.i64 (↑0 : Int)) ?_
      refine kp 29 (.bool false) ?_
      refine kp 30 (.bool false) ?_
      refine kp 31 (.iface 46 (Value.iface 0 (Value.iface 2 (Value.agg #[])))) ?_
      refine kp 32 (.int IntKind.i64 (↑0 : Int)) ?_
      refine kp 33 (.iface 36 (Value.iface 0 (Value.iface 2 (Value.agg #[])))) ?_
      refine kp 34 (.int IntKind.i64 (↑0 : Int)) ?_
      refine kp 35 (.bool false) ?_
      refine kp 36 (.bool false) ?_
      refine kp 37 (.bool false) ?_
      refine kp 38 (.iface 3 (Value.iface (List.length l) (Value.iface x (Value.agg (List.toArray (List.map (fun n => Value.int .i64 n) l)))))) ?_
      refine kp 39 (.iface 3 (Value.iface (List.length l) (Value.iface 0 (Value.agg (List.toArray (List.map (fun n => Value.int .i64 n) l)))))) ?_
      refine fr 40 20 [Value.iface 3 (Value.iface (List.length l) (Value.iface x (Value.agg (List.toArray (List.map (fun n => Value.int .i64 n) l))))), Value.iface 3 (Value.iface (List.length l) (Value.iface 0 (Value.agg (List.toArray (List.map (fun n => Value.int .i64 n) l)))))] ?_
      refine WpFun.of (c6) ?_
      refine kp 41 (.bool false) ?_
      refine kp 42 (.bool false) ?_
      refine WpOps.nil (thenK_at (off' (Wp.skip (thenK_at (Wp.seq (Wp.seq (Wp.text ?_)))))))
      refine kp 8 (.int IntKind.i64 0) ?_
      refine WpOps.nil (thenK_at (Wp.block ?_))
      refine Wp.unroll (WpL.step ?_)
      refine Wp.seq (Wp.seq (Wp.text ?_))
      refine kp 43 (.int IntKind.i64 0) ?_
      refine kp 44 (.iface 36 (Value.iface 0 (Value.iface 2 (Value.agg #[])))) ?_
      refine kp 45 (.int IntKind.i64 (↑0 : Int)) ?_
      refine kp 46 (.bool false) ?_
      refine WpOps.nil (thenK_at (off' (Wp.exit (thenK_exit (thenK_exit (blockK_hit (thenK_at (Wp.seq (Wp.text ?_)))))))))
      refine kp 69 (.iface 46 (Value.iface 0 (Value.iface 2 (Value.agg #[])))) ?_
      refine fr 70 21 [Value.iface 46 (Value.iface 0 (Value.iface 2 (Value.agg #[])))] ?_
      refine WpFun.of (c7) ?_
      refine kp 9 (.bool true) ?_
      refine WpOps.nil (thenK_at (Wp.seq (Wp.text ?_)))
      refine kp 71 (.iface 46 (Value.iface 0 (Value.iface 2 (Value.agg #[])))) ?_
      refine fr 72 21 [Value.iface 46 (Value.iface 0 (Value.iface 2 (Value.agg #[])))] ?_
      refine WpFun.of (c7) ?_
      refine kp 10 (.bool true) ?_
      refine WpOps.nil (thenK_at (Wp.seq (Wp.text ?_)))
      refine kp 73 (.bool true) ?_
      refine kp 74 (.iface 36 (Value.iface 0 (Value.iface 2 (Value.agg #[])))) ?_
      refine fr 75 22 [Value.iface 36 (Value.iface 0 (Value.iface 2 (Value.agg #[])))] ?_
      refine WpFun.of (c8) ?_
      refine kp 76 (.bool true) ?_
      refine kp 77 (.bool true) ?_
      refine kp 78 (.bool true) ?_
      refine kp 79 (.bool true) ?_
      refine kp 80 (.bool true) ?_
      refine fr 81 8 [] ?_
      refine WpFun.of (c0) ?_
      refine kp 82 (.bool true) ?_
      refine kp 2 (.bool true) ?_
      refine WpOps.nil (thenK_at (Wp.ret ?_))
      refine endK_retn [Value.bool true] (Value.bool true) (by kernel_rfl) (by kernel_rfl) ?_
      rfl
    · rw [if_neg h0] at c2 c3 c4 c5
      have c7 := calm21 false L (by omega)
      have c8 := calm21 true L (by omega)
      have c9 := calm22 false L h0 (by omega)
      rw [mild_calm] at c8
      have n0 : ((L.length : Int) != (L.length : Int)) = false := by simp
      refine Wp.seq (Wp.text ?_)
      refine kp 2 (.bool false) ?_
      refine WpOps.nil (thenK_at (Wp.seq (Wp.seq (Wp.text ?_))))
      refine kp 11 (.iface 3 (Value.iface (List.length l) (Value.iface x (Value.agg (List.toArray (List.map (fun n => Value.int .i64 n) l)))))) ?_
      refine kp 12 (.int IntKind.i64 (↑(List.length l) : Int)) ?_
      refine kp 13 (.bool false) ?_ (hop := fun _ => by_fact d0)
      refine WpOps.nil (thenK_at (off' (Wp.skip (thenK_at (Wp.seq (Wp.text ?_))))))
      refine kp 15 (.iface 3 (Value.iface (List.length l) (Value.iface x (Value.agg (List.toArray (List.map (fun n => Value.int .i64 n) l)))))) ?_
      refine fr 16 19 [Value.iface 3 (Value.iface (List.length l) (Value.iface x (Value.agg (List.toArray (List.map (fun n => Value.int .i64 n) l)))))] ?_
      refine WpFun.of (c1) ?_
      refine kp 3 (.iface 3 (Value.iface (List.length l) (Value.iface 0 (Value.agg (List.toArray (List.map (fun n => Value.int .i64 n) l)))))) ?_
      refine WpOps.nil (thenK_at (Wp.seq (Wp.text ?_)))
      refine kp 17 (.iface 3 (Value.iface (List.length l) (Value.iface x (Value.agg (List.toArray (List.map (fun n => Value.int .i64 n) l)))))) ?_
      refine fr 18 15 [Value.iface 3 (Value.iface (List.length l) (Value.iface x (Value.agg (List.toArray (List.map (fun n => Value.int .i64 n) l)))))] ?_
      refine WpFun.of (c2) ?_
      refine kp 4 (.iface 46 (Value.iface (List.length L) (Value.iface 0 (Value.agg (List.toArray (fc false L)))))) ?_
      refine WpOps.nil (thenK_at (Wp.seq (Wp.text ?_)))
      refine kp 19 (.iface 3 (Value.iface (List.length l) (Value.iface x (Value.agg (List.toArray (List.map (fun n => Value.int .i64 n) l)))))) ?_
      refine fr 20 11 [Value.iface 3 (Value.iface (List.length l) (Value.iface x (Value.agg (List.toArray (List.map (fun n => Value.int .i64 n) l)))))] ?_
      refine WpFun.of (c3) ?_
      refine kp 5 (.iface 46 (Value.iface (List.length L) (Value.iface 0 (Value.agg (List.toArray (fc true L)))))) ?_
      refine WpOps.nil (thenK_at (Wp.seq (Wp.text ?_)))
      refine kp 21 (.iface 3 (Value.iface (List.length l) (Value.iface 0 (Value.agg (List.toArray (List.map (fun n => Value.int .i64 n) l)))))) ?_
      refine fr 22 16 [Value.iface 3 (Value.iface (List.length l) (Value.iface 0 (Value.agg (List.toArray (List.map (fun n => Value.int .i64 n) l)))))] ?_
      refine WpFun.of (c4) ?_
      refine kp 6 (.iface 36 (Value.iface (List.length L) (Value.iface 0 (Value.agg (List.toArray (fc false L)))))) ?_
      refine WpOps.nil (thenK_at (Wp.seq (Wp.text ?_)))
      refine kp 23 (.iface 3 (Value.iface (List.length l) (Value.iface 0 (Value.agg (List.toArray (List.map (fun n => Value.int .i64 n) l)))))) ?_
      refine fr 24 12 [Value.iface 3 (Value.iface (List.length l) (Value.iface 0 (Value.agg (List.toArray (List.map (fun n => Value.int .i64 n) l)))))] ?_
      refine WpFun.of (c5) ?_
      refine kp 7 (.iface 36 (Value.iface (List.length L) (Value.iface 0 (Value.agg (List.toArray (fc true L)))))) ?_
      refine WpOps.nil (thenK_at (Wp.seq (Wp.seq (Wp.text ?_))))
      refine kp 25 (.iface 46 (Value.iface (List.length L) (Value.iface 0 (Value.agg (List.toArray (fc false L)))))) ?_
      refine kp 26 (.int IntKind.i64 (↑(List.length L) : Int)) ?_
      refine kp 27 (.iface 36 (Value.iface (List.length L) (Value.iface 0 (Value.agg (List.toArray (fc false L)))))) ?_
      refine kp 28 (.int IntKind.i64 (↑(List.length L) : Int)) ?_
      refine kp 29 (.bool false) ?_ (hop := fun _ => by_fact n0)
      refine kp 30 (.bool false) ?_
      refine kp 31 (.iface 46 (Value.iface (List.length L) (Value.iface 0 (Value.agg (List.toArray (fc true L)))))) ?_
      refine kp 32 (.int IntKind.i64 (↑(List.length L) : Int)) ?_
      refine kp 33 (.iface 36 (Value.iface (List.length L) (Value.iface 0 (Value.agg (List.toArray (fc true L)))))) ?_
      refine kp 34 (.int IntKind.i64 (↑(List.length L) : Int)) ?_
      refine kp 35 (.bool false) ?_ (hop := fun _ => by_fact n0)
      refine kp 36 (.bool false) ?_
      refine kp 37 (.bool false) ?_
      refine kp 38 (.iface 3 (Value.iface (List.length l) (Value.iface x (Value.agg (List.toArray (List.map (fun n => Value.int .i64 n) l)))))) ?_
      refine kp 39 (.iface 3 (Value.iface (List.length l) (Value.iface 0 (Value.agg (List.toArray (List.map (fun n => Value.int .i64 n) l)))))) ?_
      refine fr 40 20 [Value.iface 3 (Value.iface (List.length l) (Value.iface x (Value.agg (List.toArray (List.map (fun n => Value.int .i64 n) l))))), Value.iface 3 (Value.iface (List.length l) (Value.iface 0 (Value.agg (List.toArray (List.map (fun n => Value.int .i64 n) l)))))] ?_
      refine WpFun.of (c6) ?_
      refine kp 41 (.bool false) ?_
      refine kp 42 (.bool false) ?_
      refine WpOps.nil (thenK_at (off' (Wp.skip (thenK_at (Wp.seq (Wp.seq (Wp.text ?_)))))))
      refine kp 8 (.int IntKind.i64 0) ?_
      refine WpOps.nil (thenK_at (Wp.block ?_))
      refine Wp.loop (G := Nat) (fun k => layj [(4, FS 46 L.length 0 (fc false L).toArray), (5, FS 46 L.length 0 (fc true L).toArray), (6, FS 36 L.length 0 (fc false L).toArray), (7, FS 36 L.length 0 (fc true L).toArray), (8, .int .i64 k)]) (fun _ => heapOf []) (fun k => L.length - k) (fun k => k ≤ L.length) 0
        (View.of [] [] _ (by decide) rfl trivial ⟨⟨by kernel_rfl, rfl⟩, ⟨by kernel_rfl, rfl⟩, ⟨by kernel_rfl, rfl⟩, ⟨by kernel_rfl, rfl⟩, ⟨by kernel_rfl, rfl⟩, trivial⟩) (Nat.zero_le _) ?_
      intro k hk
      by_cases hlt : k < L.length
      · have d1 : decide ((k : Int) < L.length) = true := decide_eq_true (by omega)
        have g1 : 0 ≤ (k : Int) ∧ (k : Int) < L.length := by omega
        have v1 := fc_cells false L k hlt
        have v2 := fc_cells true L k hlt
        obtain ⟨p1, p2, p3, p4, hp⟩ := ofC_is false (L.getD k 0)
        obtain ⟨q1, q2, q3, q4, hq⟩ := ofC_is true (L.getD k 0)
        rw [hp] at v1
        rw [hq] at v2
        refine Wp.seq (Wp.seq (Wp.text ?_))
        refine kp 43 (.int IntKind.i64 (↑k : Int)) ?_
        refine kp 44 (.iface 36 (Value.iface (List.length L) (Value.iface 0 (Value.agg (List.toArray (fc false L)))))) ?_
        refine kp 45 (.int IntKind.i64 (↑(List.length L) : Int)) ?_
        refine kp 46 (.bool true) ?_ (hop := fun _ => by_fact d1)
        refine WpOps.nil (thenK_at (on' (Wp.skip (thenK_at (Wp.seq (Wp.block (Wp.seq ?_)))))))
        refine Wp.region (by kernel_rfl) ?_
        refine kp 49 (.iface 46 (Value.iface (List.length L) (Value.iface 0 (Value.agg (List.toArray (fc false L)))))) ?_
        refine kp 50 (.int IntKind.i64 (↑k : Int)) ?_
        refine kp 51 (.iface 46 (Value.iface (Int.toNat (↑k : Int) * 4) (Value.agg (List.toArray (fc false L))))) ?_ (hop := fun _ => o_indexI (e := 46) (size := 4) (a := (↑k : Int)) g1)
        refine kp 52 (.agg #[Value.bool p1, Value.int .i64 p2, Value.int .i64 p3, Value.int .i64 p4]) ?_ (hop := fun _ => o_loadIA (Int.toNat (↑k : Int) * 4) v1)
        refine kp 53 (.iface 36 (Value.iface (List.length L) (Value.iface 0 (Value.agg (List.toArray (fc false L)))))) ?_
        refine kp 54 (.int IntKind.i64 (↑k : Int)) ?_
        refine kp 55 (.iface 36 (Value.iface (Int.toNat (↑k : Int) * 4) (Value.agg (List.toArray (fc false L))))) ?_ (hop := fun _ => o_indexI (e := 36) (size := 4) (a := (↑k : Int)) g1)
        refine kp 56 (.agg #[Value.bool p1, Value.int .i64 p2, Value.int .i64 p3, Value.int .i64 p4]) ?_ (hop := fun _ => o_loadIA (Int.toNat (↑k : Int) * 4) v1)
        refine kp 57 (.bool !(fun q => p1 == p1 && q) ((fun q => p2 == p2 && q) ((fun q => p3 == p3 && q) ((fun q => p4 == p4 && q) true)))) ?_
        refine kp 58 (.bool !(fun q => p1 == p1 && q) ((fun q => p2 == p2 && q) ((fun q => p3 == p3 && q) ((fun q => p4 == p4 && q) true)))) ?_
        refine WpOps.fork 10 (!(fun q => p1 == p1 && q) ((fun q => p2 == p2 && q) ((fun q => p3 == p3 && q) ((fun q => p4 == p4 && q) true)))) [59, 60, 61, 62, 63, 64, 65, 66, 67, 68] 68 (true) (!(fun q => q1 == q1 && q) ((fun q => q2 == q2 && q) ((fun q => q3 == q3 && q) ((fun q => q4 == q4 && q) true)))) (by kernel_rfl) (fun g68 => ?_) (fun g68 => ?_) (fun f_68 b68 hb68 => ?_)
        · refine um 59 ?_ (hw := wants_tf g68)
          refine um 60 ?_ (hw := wants_tf g68)
          refine um 61 ?_ (hw := wants_tf g68)
          refine um 62 ?_ (hw := wants_tf g68)
          refine um 63 ?_ (hw := wants_tf g68)
          refine um 64 ?_ (hw := wants_tf g68)
          refine um 65 ?_ (hw := wants_tf g68)
          refine um 66 ?_ (hw := wants_tf g68)
          refine um 67 ?_ (hw := wants_tf g68)
          refine kp 68 (.bool true) ?_ (hop := fun _ => o_pickT g68)
          refine WpOps.nil ?_
          exact ⟨rfl, (.upd rfl (.upd rfl (.upd rfl (.upd rfl (.upd rfl (.upd rfl (.upd rfl (.upd rfl (.upd rfl (.upd rfl .refl)))))))))), (by kernel_rfl)⟩
        · refine kp 59 (.iface 46 (Value.iface (List.length L) (Value.iface 0 (Value.agg (List.toArray (fc true L)))))) ?_ (hw := wants_ff g68)
          refine kp 60 (.int IntKind.i64 (↑k : Int)) ?_ (hw := wants_ff g68)
          refine kp 61 (.iface 46 (Value.iface (Int.toNat (↑k : Int) * 4) (Value.agg (List.toArray (fc true L))))) ?_ (hw := wants_ff g68) (hop := fun _ => o_indexI (e := 46) (size := 4) (a := (↑k : Int)) g1)
          refine kp 62 (.agg #[Value.bool q1, Value.int .i64 q2, Value.int .i64 q3, Value.int .i64 q4]) ?_ (hw := wants_ff g68) (hop := fun _ => o_loadIA (Int.toNat (↑k : Int) * 4) v2)
          refine kp 63 (.iface 36 (Value.iface (List.length L) (Value.iface 0 (Value.agg (List.toArray (fc true L)))))) ?_ (hw := wants_ff g68)
          refine kp 64 (.int IntKind.i64 (↑k : Int)) ?_ (hw := wants_ff g68)
          refine kp 65 (.iface 36 (Value.iface (Int.toNat (↑k : Int) * 4) (Value.agg (List.toArray (fc true L))))) ?_ (hw := wants_ff g68) (hop := fun _ => o_indexI (e := 36) (size := 4) (a := (↑k : Int)) g1)
          refine kp 66 (.agg #[Value.bool q1, Value.int .i64 q2, Value.int .i64 q3, Value.int .i64 q4]) ?_ (hw := wants_ff g68) (hop := fun _ => o_loadIA (Int.toNat (↑k : Int) * 4) v2)
          refine kp 67 (.bool !(fun q => q1 == q1 && q) ((fun q => q2 == q2 && q) ((fun q => q3 == q3 && q) ((fun q => q4 == q4 && q) true)))) ?_ (hw := wants_ff g68)
          refine kp 68 (.bool !(fun q => q1 == q1 && q) ((fun q => q2 == q2 && q) ((fun q => q3 == q3 && q) ((fun q => q4 == q4 && q) true)))) ?_ (hop := fun _ => o_pickF g68)
          refine WpOps.nil ?_
          exact ⟨rfl, (.upd rfl (.upd rfl (.upd rfl (.upd rfl (.upd rfl (.upd rfl (.upd rfl (.upd rfl (.upd rfl (.upd rfl .refl)))))))))), (by kernel_rfl)⟩
        refine WpOps.nil (thenK_at ?_)
        obtain rfl : b68 = false := by rw [hb68]; simp
        refine off' (Wp.skip (blockK_norm (thenK_at (Wp.text ?_))))
        refine kp 47 (.int IntKind.i64 (↑k : Int)) ?_
        refine kp 48 (.int IntKind.i64 (IntKind.wrap .i64 ((↑k : Int) + 1))) ?_
        refine kp 8 (.int IntKind.i64 (IntKind.wrap .i64 ((↑k : Int) + 1))) ?_
        refine WpOps.nil (thenK_at ?_)
        exact ⟨k + 1, by omega, by omega, View.of [] [] _ (by decide) rfl trivial ⟨⟨by kernel_rfl, rfl⟩, ⟨by kernel_rfl, rfl⟩, ⟨by kernel_rfl, rfl⟩, ⟨by kernel_rfl, rfl⟩, ⟨congrArg (Value.int .i64) (wr _ (by omega) (by omega)), rfl⟩, trivial⟩⟩
      · obtain rfl : k = L.length := by omega
        have d1 : decide ((L.length : Int) < L.length) = false := decide_eq_false (by omega)
        refine Wp.seq (Wp.seq (Wp.text ?_))
        refine kp 43 (.int IntKind.i64 (↑(List.length L) : Int)) ?_
        refine kp 44 (.iface 36 (Value.iface (List.length L) (Value.iface 0 (Value.agg (List.toArray (fc false L)))))) ?_
        refine kp 45 (.int IntKind.i64 (↑(List.length L) : Int)) ?_
        refine kp 46 (.bool false) ?_ (hop := fun _ => by_fact d1)
        refine WpOps.nil (thenK_at (off' (Wp.exit (thenK_exit (thenK_exit (blockK_hit (thenK_at (Wp.seq (Wp.text ?_)))))))))
        refine kp 69 (.iface 46 (Value.iface (List.length L) (Value.iface 0 (Value.agg (List.toArray (fc false L)))))) ?_
        refine fr 70 21 [Value.iface 46 (Value.iface (List.length L) (Value.iface 0 (Value.agg (List.toArray (fc false L)))))] ?_
        refine WpFun.of (c7) ?_
        refine kp 9 (.bool (List.all L (calmB false))) ?_
        refine WpOps.nil (thenK_at (Wp.seq (Wp.text ?_)))
        refine kp 71 (.iface 46 (Value.iface (List.length L) (Value.iface 0 (Value.agg (List.toArray (fc true L)))))) ?_
        refine fr 72 21 [Value.iface 46 (Value.iface (List.length L) (Value.iface 0 (Value.agg (List.toArray (fc true L)))))] ?_
        refine WpFun.of (c8) ?_
        refine kp 10 (.bool true) ?_
        refine WpOps.nil (thenK_at (Wp.seq (Wp.text ?_)))
        refine kp 73 (.bool (List.all L (calmB false))) ?_
        refine kp 74 (.iface 36 (Value.iface (List.length L) (Value.iface 0 (Value.agg (List.toArray (fc false L)))))) ?_
        refine fr 75 22 [Value.iface 36 (Value.iface (List.length L) (Value.iface 0 (Value.agg (List.toArray (fc false L)))))] ?_
        refine WpFun.of (c9) ?_
        refine kp 76 (.bool (List.all L (calmB false) == List.all L (calmB false))) ?_
        refine kp 77 (.bool (List.all L (calmB false) == List.all L (calmB false))) ?_
        refine WpOps.fork 2 (List.all L (calmB false) == List.all L (calmB false)) [78, 79] 79 (true) (false) (by kernel_rfl) (fun g79 => ?_) (fun g79 => ?_) (fun f_79 b79 hb79 => ?_)
        · refine kp 78 (.bool true) ?_ (hw := wants_tt g79)
          refine kp 79 (.bool true) ?_ (hop := fun _ => o_pickT g79)
          refine WpOps.nil ?_
          exact ⟨rfl, (.upd rfl (.upd rfl .refl)), (by kernel_rfl)⟩
        · refine um 78 ?_ (hw := wants_ft g79)
          refine kp 79 (.bool false) ?_ (hop := fun _ => o_pickF g79)
          refine WpOps.nil ?_
          exact ⟨rfl, (.upd rfl (.upd rfl .refl)), (by kernel_rfl)⟩
        refine kp 80 (.bool b79) ?_
        refine WpOps.fork 2 (b79) [81, 82] 82 (true) (false) (by kernel_rfl) (fun g82 => ?_) (fun g82 => ?_) (fun f_82 b82 hb82 => ?_)
        · refine fr 81 8 [] ?_ (hw := wants_tt g82)
          refine WpFun.of (c0) ?_
          refine kp 82 (.bool true) ?_ (hop := fun _ => o_pickT g82)
          refine WpOps.nil ?_
          exact ⟨rfl, (.upd rfl (.upd rfl .refl)), (by kernel_rfl)⟩
        · refine um 81 ?_ (hw := wants_ft g82)
          refine kp 82 (.bool false) ?_ (hop := fun _ => o_pickF g82)
          refine WpOps.nil ?_
          exact ⟨rfl, (.upd rfl (.upd rfl .refl)), (by kernel_rfl)⟩
        refine kp 2 (.bool b82) ?_
        refine WpOps.nil (thenK_at (Wp.ret ?_))
        refine endK_retn [Value.bool b82] (Value.bool b82) (by kernel_rfl) (by kernel_rfl) ?_
        obtain rfl : b79 = true := by rw [hb79]; simp
        obtain rfl : b82 = true := hb82
        rfl
  · have d0 : decide ((l.length : Int) > 1000) = true := decide_eq_true (by omega)
    refine Wp.seq (Wp.text ?_)
    refine kp 2 (.bool false) ?_
    refine WpOps.nil (thenK_at (Wp.seq (Wp.seq (Wp.text ?_))))
    refine kp 11 (.iface 3 (Value.iface (List.length l) (Value.iface x (Value.agg (List.toArray (List.map (fun n => Value.int .i64 n) l)))))) ?_
    refine kp 12 (.int IntKind.i64 (↑(List.length l) : Int)) ?_
    refine kp 13 (.bool true) ?_ (hop := fun _ => by_fact d0)
    refine WpOps.nil (thenK_at (on' (Wp.seq (Wp.text ?_))))
    refine fr 14 8 [] ?_
    refine WpFun.of (c0) ?_
    refine kp 2 (.bool true) ?_
    refine WpOps.nil (thenK_at (Wp.ret (thenK_ret ?_)))
    refine endK_retn [Value.bool true] (Value.bool true) (by kernel_rfl) (by kernel_rfl) ?_
    rfl
end Go.Proofs.Ytdkmdpklojeepaa.D
