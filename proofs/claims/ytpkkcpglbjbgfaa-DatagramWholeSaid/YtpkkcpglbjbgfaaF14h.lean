/- Comparisons; all; the law DatagramCuts. -/
import Derived.Test.YtpkkcpglbjbgfaaFwLem
import Derived.Test.YtpkkcpglbjbgfaaF14f
namespace Go.Proofs.Ytpkkcpglbjbgfaa.D
open Go.Fw Go.RowKit

theorem f43 : E.funcs 43 = some Try.f43 := by kernel_rfl
theorem ints43 (x y : Nat) (a : List Int) (hl : a.length ≤ 9223372036854775806) : Fun E 43 [sl x a, sl y a] (.bool true) := by
  refine Fun.of f43 rfl (of_decide_eq_true (by kernel_rfl)) rfl ?_
  have n0 : ((a.length : Int) != (a.length : Int)) = false := by simp
  refine Wp.seq (Wp.text ?_)
  refine kp 4 (.bool false) ?_
  refine WpOps.nil (thenK_at (Wp.seq (Wp.seq (Wp.text ?_))))
  refine kp 6 (.iface 3 (Value.iface (List.length a) (Value.iface x (Value.agg (List.toArray (List.map (fun n => Value.int .i64 n) a)))))) ?_
  refine kp 7 (.int IntKind.i64 (↑(List.length a) : Int)) ?_
  refine kp 8 (.iface 3 (Value.iface (List.length a) (Value.iface y (Value.agg (List.toArray (List.map (fun n => Value.int .i64 n) a)))))) ?_
  refine kp 9 (.int IntKind.i64 (↑(List.length a) : Int)) ?_
  refine kp 10 (.bool false) ?_ (hop := fun _ => by_fact n0)
  refine WpOps.nil (thenK_at (off' (Wp.skip (thenK_at (Wp.seq (Wp.seq (Wp.text ?_)))))))
  refine kp 5 (.int IntKind.i64 0) ?_
  refine WpOps.nil (thenK_at (Wp.block ?_))
  refine Wp.loop (G := Nat) (fun i => layj [(0, sl x a), (1, sl y a), (5, .int .i64 i)]) (fun _ => heapOf []) (fun i => a.length - i) (fun i => i ≤ a.length) 0
    (View.of [] [] _ List.nodup_nil rfl trivial ⟨⟨by kernel_rfl, rfl⟩, ⟨by kernel_rfl, rfl⟩, ⟨by kernel_rfl, rfl⟩, trivial⟩) (Nat.zero_le _) ?_
  intro i hi
  refine Wp.seq (Wp.seq (Wp.text ?_))
  refine kp 11 (.int IntKind.i64 (↑i : Int)) ?_
  refine kp 12 (.iface 3 (Value.iface (List.length a) (Value.iface x (Value.agg (List.toArray (List.map (fun n => Value.int .i64 n) a)))))) ?_
  refine kp 13 (.int IntKind.i64 (↑(List.length a) : Int)) ?_
  refine kp 14 (.bool (decide ((↑i : Int) < (↑(List.length a) : Int)))) ?_
  refine WpOps.nil (thenK_at ?_)
  refine Wp.split (decide ((↑i : Int) < (↑(List.length a) : Int))) (by kernel_rfl) (fun hc => ?_) (fun hc => ?_)
  · have hlt : (i : Int) < a.length := of_decide_eq_true hc
    have h0 : 0 ≤ (i : Int) ∧ (i : Int) < a.length := ⟨Int.natCast_nonneg _, hlt⟩
    have hv := sl_at a i (by omega)
    have hne : ((a.getD i 0) != (a.getD i 0)) = false := by simp
    refine Wp.skip (thenK_at (Wp.seq (Wp.block (Wp.seq ?_))))
    refine Wp.region (by kernel_rfl) ?_
    refine kp 17 (.iface 3 (Value.iface (List.length a) (Value.iface x (Value.agg (List.toArray (List.map (fun n => Value.int .i64 n) a)))))) ?_
    refine kp 18 (.int IntKind.i64 (↑i : Int)) ?_
    refine kp 19 (.iface 3 (Value.iface (Int.toNat (↑i : Int) * 1) (Value.agg (List.toArray (List.map (fun n => Value.int .i64 n) a))))) ?_ (hop := fun _ => o_indexI (e := 3) (size := 1) (a := (↑i : Int)) h0)
    refine kp 20 (.int IntKind.i64 (List.getD a i 0)) ?_ (hop := fun _ => o_loadI1 (Int.toNat (↑i : Int) * 1) hv)
    refine kp 21 (.iface 3 (Value.iface (List.length a) (Value.iface y (Value.agg (List.toArray (List.map (fun n => Value.int .i64 n) a)))))) ?_
    refine kp 22 (.int IntKind.i64 (↑i : Int)) ?_
    refine kp 23 (.iface 3 (Value.iface (Int.toNat (↑i : Int) * 1) (Value.agg (List.toArray (List.map (fun n => Value.int .i64 n) a))))) ?_ (hop := fun _ => o_indexI (e := 3) (size := 1) (a := (↑i : Int)) h0)
    refine kp 24 (.int IntKind.i64 (List.getD a i 0)) ?_ (hop := fun _ => o_loadI1 (Int.toNat (↑i : Int) * 1) hv)
    refine kp 25 (.bool false) ?_ (hop := fun _ => by_fact hne)
    refine WpOps.nil (thenK_at (off' (Wp.skip (blockK_norm (thenK_at (Wp.text ?_))))))
    refine kp 15 (.int IntKind.i64 (↑i : Int)) ?_
    refine kp 16 (.int IntKind.i64 (IntKind.wrap .i64 ((↑i : Int) + 1))) ?_
    refine kp 5 (.int IntKind.i64 (IntKind.wrap .i64 ((↑i : Int) + 1))) ?_
    refine WpOps.nil (thenK_at ?_)
    exact ⟨i + 1, by omega, by omega, View.of [] [] _ List.nodup_nil rfl trivial ⟨⟨by kernel_rfl, rfl⟩, ⟨by kernel_rfl, rfl⟩, ⟨congrArg (Value.int .i64) (wrap_i64 ((i : Int) + 1) (by omega) (by omega)), rfl⟩, trivial⟩⟩
  · refine Wp.exit (thenK_exit (thenK_exit (blockK_hit (thenK_at (Wp.seq (Wp.text ?_))))))
    refine kp 4 (.bool true) ?_
    refine WpOps.nil (thenK_at (Wp.ret ?_))
    refine endK_retn [Value.bool true] (Value.bool true) (by kernel_rfl) (by kernel_rfl) ?_
    rfl

theorem f25 : E.funcs 25 = some Try.f25 := by kernel_rfl
theorem same25 (g : Gr) (h1 : g.fr.length ≤ 9223372036854775806) (h2 : g.to.length ≤ 9223372036854775806) : Fun E 25 [gv g, gv g] (.bool true) := by
  refine Fun.of f25 rfl (of_decide_eq_true (by kernel_rfl)) rfl ?_
  have i1 := ints43 g.fx g.fx g.fr h1
  have i2 := ints43 g.tx g.tx g.to h2
  have e1 : (g.number == g.number) = true := by simp
  have e2 : (g.life == g.life) = true := by simp
  have e3 : (g.at' == g.at') = true := by simp
  have e4 : (g.total == g.total) = true := by simp
  have e5 : (g.report == g.report) = true := by simp
  have e6 : (g.more == g.more) = true := by simp
  have e7 : (g.may == g.may) = true := by simp
  have e8 : (g.wants == g.wants) = true := by simp
  have e9 : (g.data.toList == g.data.toList) = true := by simp
  refine Wp.seq (Wp.text ?_)
  refine md 2 (.pointer (some ⟨0, 0, none⟩)) (Blk.mk 32 true (gc g)) ?_
  refine md 3 (.pointer (some ⟨1, 0, none⟩)) (Blk.mk 32 true (gc g)) ?_
  refine kp 4 (.bool false) ?_
  refine WpOps.nil (thenK_at (Wp.seq (Wp.text ?_)))
  refine kp 5 (.pointer (some ⟨0, 0, none⟩)) ?_
  refine kp 6 (.iface 3 (Value.iface (List.length (Gr.fr g)) (Value.iface (Gr.fx g) (Value.agg (List.toArray (List.map (fun n => Value.int .i64 n) (Gr.fr g))))))) ?_
  refine kp 7 (.pointer (some ⟨1, 0, none⟩)) ?_
  refine kp 8 (.iface 3 (Value.iface (List.length (Gr.fr g)) (Value.iface (Gr.fx g) (Value.agg (List.toArray (List.map (fun n => Value.int .i64 n) (Gr.fr g))))))) ?_
  refine fr 9 43 [Value.iface 3 (Value.iface (List.length (Gr.fr g)) (Value.iface (Gr.fx g) (Value.agg (List.toArray (List.map (fun n => Value.int .i64 n) (Gr.fr g)))))), Value.iface 3 (Value.iface (List.length (Gr.fr g)) (Value.iface (Gr.fx g) (Value.agg (List.toArray (List.map (fun n => Value.int .i64 n) (Gr.fr g))))))] ?_
  refine WpFun.of (i1) ?_
  refine kp 10 (.bool true) ?_
  refine kp 11 (.pointer (some ⟨0, 1, none⟩)) ?_
  refine kp 12 (.iface 3 (Value.iface (List.length (Gr.to g)) (Value.iface (Gr.tx g) (Value.agg (List.toArray (List.map (fun n => Value.int .i64 n) (Gr.to g))))))) ?_
  refine kp 13 (.pointer (some ⟨1, 1, none⟩)) ?_
  refine kp 14 (.iface 3 (Value.iface (List.length (Gr.to g)) (Value.iface (Gr.tx g) (Value.agg (List.toArray (List.map (fun n => Value.int .i64 n) (Gr.to g))))))) ?_
  refine fr 15 43 [Value.iface 3 (Value.iface (List.length (Gr.to g)) (Value.iface (Gr.tx g) (Value.agg (List.toArray (List.map (fun n => Value.int .i64 n) (Gr.to g)))))), Value.iface 3 (Value.iface (List.length (Gr.to g)) (Value.iface (Gr.tx g) (Value.agg (List.toArray (List.map (fun n => Value.int .i64 n) (Gr.to g))))))] ?_
  refine WpFun.of (i2) ?_
  refine kp 16 (.bool true) ?_
  refine kp 17 (.bool true) ?_
  refine kp 18 (.pointer (some ⟨0, 2, none⟩)) ?_
  refine kp 19 (.int IntKind.i64 (Gr.number g)) ?_
  refine kp 20 (.pointer (some ⟨1, 2, none⟩)) ?_
  refine kp 21 (.int IntKind.i64 (Gr.number g)) ?_
  refine kp 22 (.bool true) ?_ (hop := fun _ => by_fact e1)
  refine kp 23 (.bool true) ?_
  refine kp 24 (.bool true) ?_
  refine kp 25 (.pointer (some ⟨0, 3, none⟩)) ?_
  refine kp 26 (.int IntKind.i64 (Gr.life g)) ?_
  refine kp 27 (.pointer (some ⟨1, 3, none⟩)) ?_
  refine kp 28 (.int IntKind.i64 (Gr.life g)) ?_
  refine kp 29 (.bool true) ?_ (hop := fun _ => by_fact e2)
  refine kp 30 (.bool true) ?_
  refine kp 31 (.bool true) ?_
  refine kp 32 (.pointer (some ⟨0, 4, none⟩)) ?_
  refine kp 33 (.int IntKind.i64 (Gr.at' g)) ?_
  refine kp 34 (.pointer (some ⟨1, 4, none⟩)) ?_
  refine kp 35 (.int IntKind.i64 (Gr.at' g)) ?_
  refine kp 36 (.bool true) ?_ (hop := fun _ => by_fact e3)
  refine kp 37 (.bool true) ?_
  refine kp 38 (.bool true) ?_
  refine kp 39 (.pointer (some ⟨0, 5, none⟩)) ?_
  refine kp 40 (.int IntKind.i64 (Gr.total g)) ?_
  refine kp 41 (.pointer (some ⟨1, 5, none⟩)) ?_
  refine kp 42 (.int IntKind.i64 (Gr.total g)) ?_
  refine kp 43 (.bool true) ?_ (hop := fun _ => by_fact e4)
  refine kp 44 (.bool true) ?_
  refine kp 45 (.bool true) ?_
  refine kp 46 (.pointer (some ⟨0, 6, none⟩)) ?_
  refine kp 47 (.int IntKind.i64 (Gr.report g)) ?_
  refine kp 48 (.pointer (some ⟨1, 6, none⟩)) ?_
  refine kp 49 (.int IntKind.i64 (Gr.report g)) ?_
  refine kp 50 (.bool true) ?_ (hop := fun _ => by_fact e5)
  refine kp 51 (.bool true) ?_
  refine kp 52 (.bool true) ?_
  refine kp 53 (.pointer (some ⟨0, 7, none⟩)) ?_
  refine kp 54 (.bool (Gr.more g)) ?_
  refine kp 55 (.pointer (some ⟨1, 7, none⟩)) ?_
  refine kp 56 (.bool (Gr.more g)) ?_
  refine kp 57 (.bool true) ?_ (hop := fun _ => by_fact e6)
  refine kp 58 (.bool true) ?_
  refine kp 59 (.bool true) ?_
  refine kp 60 (.pointer (some ⟨0, 8, none⟩)) ?_
  refine kp 61 (.bool (Gr.may g)) ?_
  refine kp 62 (.pointer (some ⟨1, 8, none⟩)) ?_
  refine kp 63 (.bool (Gr.may g)) ?_
  refine kp 64 (.bool true) ?_ (hop := fun _ => by_fact e7)
  refine kp 65 (.bool true) ?_
  refine kp 66 (.bool true) ?_
  refine kp 67 (.pointer (some ⟨0, 9, none⟩)) ?_
  refine kp 68 (.bool (Gr.wants g)) ?_
  refine kp 69 (.pointer (some ⟨1, 9, none⟩)) ?_
  refine kp 70 (.bool (Gr.wants g)) ?_
  refine kp 71 (.bool true) ?_ (hop := fun _ => by_fact e8)
  refine kp 72 (.bool true) ?_
  refine kp 73 (.bool true) ?_
  refine kp 74 (.pointer (some ⟨0, 10, none⟩)) ?_
  refine kp 75 (.string (Gr.data g)) ?_
  refine kp 76 (.pointer (some ⟨1, 10, none⟩)) ?_
  refine kp 77 (.string (Gr.data g)) ?_
  refine kp 78 (.bool true) ?_ (hop := fun _ => by_fact e9)
  refine kp 79 (.bool true) ?_
  refine kp 4 (.bool true) ?_
  refine WpOps.nil (thenK_at (Wp.ret ?_))
  refine endK_retn [Value.bool true] (Value.bool true) (by kernel_rfl) (by kernel_rfl) ?_
  rfl

theorem cells_at (l : List Gr) (i : Nat) (hi : i < l.length) : cellsAt (cellsG l) ((i : Int).toNat * 11) 11 = some (gc (l[i]'hi)) := by
  rw [Int.toNat_natCast]
  have hlen := cellsG_len l
  have : i * 11 + 11 ≤ (cellsG l).length := by rw [hlen]; omega
  simp only [cellsAt, if_pos this, Option.some.injEq]
  clear hlen this
  induction l generalizing i with
  | nil => cases hi
  | cons g r ih =>
    cases i with
    | zero =>
      simp only [cellsG, List.flatMap_cons, Nat.zero_mul, List.drop_zero, List.getElem_cons_zero]
      rw [List.take_append_of_le_length (by simp [gc])]
      rfl
    | succ i =>
      have hd : (gc g).length = 11 := rfl
      simp only [cellsG, List.flatMap_cons, List.getElem_cons_succ]
      rw [show (i + 1) * 11 = (gc g).length + i * 11 by rw [hd]; omega, List.drop_append]
      simp only [Nat.add_sub_cancel_left]
      rw [List.drop_of_length_le (by omega), List.nil_append]
      exact ih i (by simpa using hi)

theorem f17 : E.funcs 17 = some Try.f17 := by kernel_rfl
theorem sameAll17 (l : List Gr) (hl : l.length ≤ 9223372036854775806) (ok : ∀ g ∈ l, OkGr g) : Fun E 17 [grams 32 l, grams 32 l] (.bool true) := by
  refine Fun.of f17 rfl (of_decide_eq_true (by kernel_rfl)) rfl ?_
  have n0 : ((l.length : Int) != (l.length : Int)) = false := by simp
  refine Wp.seq (Wp.text ?_)
  refine kp 4 (.bool false) ?_
  refine WpOps.nil (thenK_at (Wp.seq (Wp.seq (Wp.text ?_))))
  refine kp 6 (.iface 32 (Value.iface (List.length l) (Value.iface 0 (Value.agg (List.toArray (cellsG l)))))) ?_
  refine kp 7 (.int IntKind.i64 (↑(List.length l) : Int)) ?_
  refine kp 8 (.iface 32 (Value.iface (List.length l) (Value.iface 0 (Value.agg (List.toArray (cellsG l)))))) ?_
  refine kp 9 (.int IntKind.i64 (↑(List.length l) : Int)) ?_
  refine kp 10 (.bool false) ?_ (hop := fun _ => by_fact n0)
  refine WpOps.nil (thenK_at (off' (Wp.skip (thenK_at (Wp.seq (Wp.seq (Wp.text ?_)))))))
  refine kp 5 (.int IntKind.i64 0) ?_
  refine WpOps.nil (thenK_at (Wp.block ?_))
  refine Wp.loop (G := Nat) (fun i => layj [(0, grams 32 l), (1, grams 32 l), (5, .int .i64 i)]) (fun _ => heapOf []) (fun i => l.length - i) (fun i => i ≤ l.length) 0
    (View.of [] [] _ List.nodup_nil rfl trivial ⟨⟨by kernel_rfl, rfl⟩, ⟨by kernel_rfl, rfl⟩, ⟨by kernel_rfl, rfl⟩, trivial⟩) (Nat.zero_le _) ?_
  intro i hi
  refine Wp.seq (Wp.seq (Wp.text ?_))
  refine kp 11 (.int IntKind.i64 (↑i : Int)) ?_
  refine kp 12 (.iface 32 (Value.iface (List.length l) (Value.iface 0 (Value.agg (List.toArray (cellsG l)))))) ?_
  refine kp 13 (.int IntKind.i64 (↑(List.length l) : Int)) ?_
  refine kp 14 (.bool (decide ((↑i : Int) < (↑(List.length l) : Int)))) ?_
  refine WpOps.nil (thenK_at ?_)
  refine Wp.split (decide ((↑i : Int) < (↑(List.length l) : Int))) (by kernel_rfl) (fun hc => ?_) (fun hc => ?_)
  · have hlt : (i : Int) < l.length := of_decide_eq_true hc
    have hlt2 : i < l.length := by omega
    have h0 : 0 ≤ (i : Int) ∧ (i : Int) < l.length := ⟨Int.natCast_nonneg _, hlt⟩
    have hv := cells_at l i hlt2
    have og := ok _ (List.getElem_mem hlt2)
    have s1 := same25 l[i] (by have := og.fl; omega) (by have := og.tl; omega)
    refine Wp.skip (thenK_at (Wp.seq (Wp.block (Wp.seq ?_))))
    refine Wp.region (by kernel_rfl) ?_
    refine kp 17 (.iface 32 (Value.iface (List.length l) (Value.iface 0 (Value.agg (List.toArray (cellsG l)))))) ?_
    refine kp 18 (.int IntKind.i64 (↑i : Int)) ?_
    refine kp 19 (.iface 32 (Value.iface (Int.toNat (↑i : Int) * 11) (Value.agg (List.toArray (cellsG l))))) ?_ (hop := fun _ => o_indexI (e := 32) (size := 11) (a := (↑i : Int)) h0)
    refine kp 20 (.agg (List.toArray (gc l[i]))) ?_ (hop := fun _ => o_loadIA (Int.toNat (↑i : Int) * 11) hv)
    refine kp 21 (.iface 32 (Value.iface (List.length l) (Value.iface 0 (Value.agg (List.toArray (cellsG l)))))) ?_
    refine kp 22 (.int IntKind.i64 (↑i : Int)) ?_
    refine kp 23 (.iface 32 (Value.iface (Int.toNat (↑i : Int) * 11) (Value.agg (List.toArray (cellsG l))))) ?_ (hop := fun _ => o_indexI (e := 32) (size := 11) (a := (↑i : Int)) h0)
    refine kp 24 (.agg (List.toArray (gc l[i]))) ?_ (hop := fun _ => o_loadIA (Int.toNat (↑i : Int) * 11) hv)
    refine fr 25 25 [Value.agg (List.toArray (gc l[i])), Value.agg (List.toArray (gc l[i]))] ?_
    refine WpFun.of (s1) ?_
    refine kp 26 (.bool false) ?_
    refine WpOps.nil (thenK_at (off' (Wp.skip (blockK_norm (thenK_at (Wp.text ?_))))))
    refine kp 15 (.int IntKind.i64 (↑i : Int)) ?_
    refine kp 16 (.int IntKind.i64 (IntKind.wrap .i64 ((↑i : Int) + 1))) ?_
    refine kp 5 (.int IntKind.i64 (IntKind.wrap .i64 ((↑i : Int) + 1))) ?_
    refine WpOps.nil (thenK_at ?_)
    exact ⟨i + 1, by omega, by omega, View.of [] [] _ List.nodup_nil rfl trivial ⟨⟨by kernel_rfl, rfl⟩, ⟨by kernel_rfl, rfl⟩, ⟨congrArg (Value.int .i64) (wrap_i64 ((i : Int) + 1) (by omega) (by omega)), rfl⟩, trivial⟩⟩
  · refine Wp.exit (thenK_exit (thenK_exit (blockK_hit (thenK_at (Wp.seq (Wp.text ?_))))))
    refine kp 4 (.bool true) ?_
    refine WpOps.nil (thenK_at (Wp.ret ?_))
    refine endK_retn [Value.bool true] (Value.bool true) (by kernel_rfl) (by kernel_rfl) ?_
    rfl
theorem sane19 : Fun E 19 [] (.bool true) := Fun.closed 60 (.bool true) (by kernel_rfl)
end Go.Proofs.Ytpkkcpglbjbgfaa.D
