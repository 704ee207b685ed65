/- The law DatagramWhole. -/
import Derived.Test.YtpkkcpglbjbgfaaFwLem
import Derived.Test.YtpkkcpglbjbgfaaFwCons
import Derived.Test.YtpkkcpglbjbgfaaFwMat
import Derived.Test.YtpkkcpglbjbgfaaFwEnter
import Derived.Test.YtpkkcpglbjbgfaaFwOver
import Derived.Test.YtpkkcpglbjbgfaaH14i
namespace Go.Proofs.Ytpkkcpglbjbgfaa.D
open Go.Fw Go.RowKit

theorem f28 : E.funcs 28 = some Try.f28 := by kernel_rfl
def modN (x : Int) (n : Nat) : Int := if x.tmod n < 0 then x.tmod n + n else x.tmod n
theorem modN_in (x : Int) (n : Nat) (hn : 0 < n) : 0 ≤ modN x n ∧ modN x n < n := by
  have h1 := Int.tmod_lt_of_pos x (b := n) (by omega)
  have h2 := Int.lt_tmod_of_pos x (b := n) (by omega)
  unfold modN
  split <;> omega
theorem mod28 (x : Int) (n : Nat) (hn : 0 < n) (h : n ≤ 5000) : Fun E 28 [.int .i64 x, .int .i64 n] (.int .i64 (modN x n)) := by
  refine Fun.of f28 rfl (of_decide_eq_true (by kernel_rfl)) rfl ?_
  have c0 : decide ((n : Int) < 1) = false := decide_eq_false (by omega)
  have n0 : (n : Int) ≠ 0 := by omega
  have h1 := Int.tmod_lt_of_pos x (b := n) (by omega)
  have h2 := Int.lt_tmod_of_pos x (b := n) (by omega)
  refine Wp.seq (Wp.text ?_)
  refine kp 4 (.int IntKind.i64 0) ?_
  refine WpOps.nil (thenK_at (Wp.seq (Wp.seq (Wp.text ?_))))
  refine kp 6 (.int IntKind.i64 (↑n : Int)) ?_
  refine kp 7 (.bool false) ?_ (hop := fun _ => by_fact c0)
  refine WpOps.nil (thenK_at (off' (Wp.skip (thenK_at (Wp.seq (Wp.text ?_))))))
  refine kp 8 (.int IntKind.i64 x) ?_
  refine kp 9 (.int IntKind.i64 (↑n : Int)) ?_
  refine kp 10 (.int IntKind.i64 (Int.tmod x (↑n : Int))) ?_ (hop := fun _ => o_rem n0)
  refine kp 5 (.int IntKind.i64 (Int.tmod x (↑n : Int))) ?_
  refine WpOps.nil (thenK_at (Wp.seq (Wp.seq (Wp.text ?_))))
  refine kp 11 (.int IntKind.i64 (Int.tmod x (↑n : Int))) ?_
  refine kp 12 (.bool (decide (Int.tmod x (↑n : Int) < 0))) ?_
  refine WpOps.nil (thenK_at ?_)
  refine Wp.split (decide (Int.tmod x (↑n : Int) < 0)) (by kernel_rfl) (fun hc => ?_) (fun hc => ?_)
  · have hm : modN x n = x.tmod n + n := if_pos (of_decide_eq_true hc)
    have hw : IntKind.i64.wrap (x.tmod n + n) = modN x n := by rw [hm, wr _ (by omega) (by omega)]
    refine Wp.text ?_
    refine kp 13 (.int IntKind.i64 (Int.tmod x (↑n : Int))) ?_
    refine kp 14 (.int IntKind.i64 (↑n : Int)) ?_
    refine kp 15 (.int IntKind.i64 (IntKind.wrap .i64 (Int.tmod x (↑n : Int) + (↑n : Int)))) ?_
    refine kp 5 (.int IntKind.i64 (IntKind.wrap .i64 (Int.tmod x (↑n : Int) + (↑n : Int)))) ?_
    refine WpOps.nil (thenK_at (Wp.seq (Wp.text ?_)))
    refine kp 16 (.int IntKind.i64 (IntKind.wrap .i64 (Int.tmod x (↑n : Int) + (↑n : Int)))) ?_
    refine kp 4 (.int IntKind.i64 (IntKind.wrap .i64 (Int.tmod x (↑n : Int) + (↑n : Int)))) ?_
    refine WpOps.nil (thenK_at (Wp.ret ?_))
    refine endK_retn [Value.int IntKind.i64 (IntKind.wrap IntKind.i64 (Int.tmod x (↑n : Int) + (↑n : Int)))] (Value.int IntKind.i64 (IntKind.wrap IntKind.i64 (Int.tmod x (↑n : Int) + (↑n : Int)))) (by kernel_rfl) (by kernel_rfl) ?_
    rw [hw]
    rfl
  · have hm : modN x n = x.tmod n := if_neg (of_decide_eq_false hc)
    refine Wp.skip (thenK_at (Wp.seq (Wp.text ?_)))
    refine kp 16 (.int IntKind.i64 (Int.tmod x (↑n : Int))) ?_
    refine kp 4 (.int IntKind.i64 (Int.tmod x (↑n : Int))) ?_
    refine WpOps.nil (thenK_at (Wp.ret ?_))
    refine endK_retn [Value.int IntKind.i64 (Int.tmod x (↑n : Int))] (Value.int IntKind.i64 (Int.tmod x (↑n : Int))) (by kernel_rfl) (by kernel_rfl) ?_
    rw [hm]
    rfl
/-- How many are left. -/
def lf (n : Nat) (c : Nat → Bool) : Nat := ((List.range n).filter fun k => !c k).length
theorem lf_succ (n : Nat) (c : Nat → Bool) : lf (n + 1) c = lf n c + (if c n = true then 0 else 1) := by
  unfold lf
  rw [List.range_succ, List.filter_append, List.length_append]
  cases h : c n <;> simp [h]
theorem lf_congr {n : Nat} {c d : Nat → Bool} (h : ∀ k, k < n → c k = d k) : lf n c = lf n d := by
  induction n with
  | zero => rfl
  | succ n ih => rw [lf_succ, lf_succ, ih fun k hk => h k (by omega), h n (by omega)]
theorem lf_up {c : Nat → Bool} : ∀ {n k : Nat}, k < n → c k = false → lf n (up c k) + 1 = lf n c
  | n + 1, k, hk, hc => by
    rw [lf_succ, lf_succ]
    by_cases e : k = n
    · subst e
      rw [lf_congr (c := up c k) (d := c) fun j hj => if_neg (by omega), show up c k k = true from if_pos rfl, hc]
      simp
    · have h1 := lf_up (n := n) (k := k) (by omega) hc
      rw [show up c k n = c n from if_neg (fun h => e h.symm)]
      omega
theorem lf_zero {c : Nat → Bool} : ∀ {n : Nat}, lf n c = 0 ↔ ∀ k, k < n → c k = true
  | 0 => ⟨fun _ k hk => absurd hk (Nat.not_lt_zero _), fun _ => rfl⟩
  | n + 1 => by
    rw [lf_succ]
    constructor
    · intro h k hk
      have h1 : lf n c = 0 := by omega
      by_cases e : k = n
      · subst e
        cases h2 : c k with
        | true => rfl
        | false => rw [h2] at h; simp at h
      · exact lf_zero.1 h1 k (by omega)
    · intro h
      rw [lf_zero.2 fun k hk => h k (by omega), h n (by omega)]
      rfl
theorem lf_le (n : Nat) (c : Nat → Bool) : lf n c ≤ n := by
  have := List.length_filter_le (fun k => !c k) (List.range n)
  unfold lf
  rwa [List.length_range] at this
theorem lf_none (n : Nat) : lf n (fun _ => false) = n := by
  induction n with
  | zero => rfl
  | succ n ih => rw [lf_succ, ih]; rfl
/-- Numbers as cells. -/
def ints (l : List Int) : List Value := l.map fun n => Value.int .i64 n
def rg (j : Nat) : List Int := (List.range j).map fun i : Nat => (i : Int)
theorem ints_len (l : List Int) : (ints l).length = l.length := by simp [ints]
theorem rg_len (j : Nat) : (rg j).length = j := by simp [rg]
theorem ints_fl (l : List Int) : (ints l).all flat = true := List.all_eq_true.2 (sl_flat l)
theorem ints_snoc (l : List Int) (j : Nat) : ints (l ++ rg j) ++ [Value.int .i64 (j : Int)] = ints (l ++ rg (j + 1)) := by
  unfold ints rg
  rw [List.range_succ]
  simp
theorem ints_all (l : List Int) (n : Nat) (h : l.length = n) : cellsAt (ints l) 0 (n * 1) = some (ints l) := by
  unfold cellsAt
  rw [if_pos (by rw [ints_len]; omega), List.drop_zero, List.take_of_length_le (by rw [ints_len]; omega)]
theorem ints_get (l : List Int) {i : Nat} (h : i < l.length) : (ints l)[0 + (i : Int).toNat * 1]? = some (.int .i64 (l.getD i 0)) := by
  rw [Int.toNat_natCast, Nat.zero_add, Nat.mul_one]
  unfold ints
  rw [List.getElem?_map, List.getElem?_eq_getElem h, List.getD_eq_getElem?_getD, List.getElem?_eq_getElem h]
  rfl
theorem toR_whole {G p0 : Gr} {a : Nat} (h : Pc G a p0) (ha : p0.at' = G.at') (hm : G.more = false) : toR (whole G.data (ownG p0)) = toR G := by
  show ({ fr := p0.fr, fx := 0, to := p0.to, tx := 0, number := p0.number, life := p0.life, at' := p0.at', total := p0.total, report := p0.report, more := false, may := p0.may, wants := p0.wants, data := G.data } : Gr) = { fr := G.fr, fx := 0, to := G.to, tx := 0, number := G.number, life := G.life, at' := G.at', total := G.total, report := G.report, more := G.more, may := G.may, wants := G.wants, data := G.data }
  rw [h.fr, h.to, h.num, h.life, h.total, h.report, h.may, h.wants, ha, hm]
theorem f8 : E.funcs 8 = some Try.f8 := by kernel_rfl
theorem law8_no (g : Gr) (size less : Int) (x : Nat) (od : List Int) (V : Value) (c1 : Fun E 29 [caseV g size less x od] (.tuple #[V, .bool false])) : Fun E 8 [caseV g size less x od] (.bool true) := by
  have c0 := sane19
  have c2 := new30
  refine Fun.of f8 rfl (of_decide_eq_true (by kernel_rfl)) rfl ?_
  unfold caseV caseC at *
  refine Wp.seq (Wp.text ?_)
  refine md 1 (.pointer (some ⟨0, 0, none⟩)) (Blk.mk 52 true [Value.iface 3 (Value.iface (List.length (Gr.fr g)) (Value.iface (Gr.fx g) (Value.agg (List.toArray (List.map (fun n => Value.int .i64 n) (Gr.fr g)))))), Value.iface 3 (Value.iface (List.length (Gr.to g)) (Value.iface (Gr.tx g) (Value.agg (List.toArray (List.map (fun n => Value.int .i64 n) (Gr.to g)))))), Value.int .i64 (Gr.number g), Value.int .i64 (Gr.life g), Value.int .i64 (Gr.at' g), Value.int .i64 (Gr.total g), Value.int .i64 (Gr.report g), Value.bool (Gr.more g), Value.bool (Gr.may g), Value.bool (Gr.wants g), Value.string (Gr.data g), Value.int .i64 size, Value.int .i64 less, Value.iface 3 (Value.iface (List.length od) (Value.iface x (Value.agg (List.toArray (List.map (fun n => Value.int .i64 n) od)))))]) ?_
  refine kp 2 (.bool false) ?_
  refine WpOps.nil (thenK_at (Wp.seq (Wp.text ?_)))
  refine kp 17 (.agg #[Value.iface 3 (Value.iface (List.length (Gr.fr g)) (Value.iface (Gr.fx g) (Value.agg (List.toArray (List.map (fun n => Value.int .i64 n) (Gr.fr g)))))), Value.iface 3 (Value.iface (List.length (Gr.to g)) (Value.iface (Gr.tx g) (Value.agg (List.toArray (List.map (fun n => Value.int .i64 n) (Gr.to g)))))), Value.int .i64 (Gr.number g), Value.int .i64 (Gr.life g), Value.int .i64 (Gr.at' g), Value.int .i64 (Gr.total g), Value.int .i64 (Gr.report g), Value.bool (Gr.more g), Value.bool (Gr.may g), Value.bool (Gr.wants g), Value.string (Gr.data g), Value.int .i64 size, Value.int .i64 less, Value.iface 3 (Value.iface (List.length od) (Value.iface x (Value.agg (List.toArray (List.map (fun n => Value.int .i64 n) od)))))]) ?_
  refine fr 18 29 [Value.agg #[Value.iface 3 (Value.iface (List.length (Gr.fr g)) (Value.iface (Gr.fx g) (Value.agg (List.toArray (List.map (fun n => Value.int .i64 n) (Gr.fr g)))))), Value.iface 3 (Value.iface (List.length (Gr.to g)) (Value.iface (Gr.tx g) (Value.agg (List.toArray (List.map (fun n => Value.int .i64 n) (Gr.to g)))))), Value.int .i64 (Gr.number g), Value.int .i64 (Gr.life g), Value.int .i64 (Gr.at' g), Value.int .i64 (Gr.total g), Value.int .i64 (Gr.report g), Value.bool (Gr.more g), Value.bool (Gr.may g), Value.bool (Gr.wants g), Value.string (Gr.data g), Value.int .i64 size, Value.int .i64 less, Value.iface 3 (Value.iface (List.length od) (Value.iface x (Value.agg (List.toArray (List.map (fun n => Value.int .i64 n) od)))))]] ?_
  refine WpFun.of (c1) ?_
  refine kp 16 (.tuple #[V, Value.bool false]) ?_
  refine kp 19 (V) ?_
  refine kp 20 (.bool false) ?_
  refine kp 3 (V) ?_
  refine kp 4 (.bool false) ?_
  refine WpOps.nil (thenK_at (Wp.seq (Wp.text ?_)))
  refine cl 22 30 [Value.int .i64 1, Value.int .i64 60] ?_
  refine WpCall.lent [] (c2) (by decide) trivial (by kernel_rfl) (Value.tuple #[Value.pointer (some (Addr.mk (List.getD [1] 0 0) 0 none)), Value.int IntKind.i64 0]) ([Blk.mk 66 true [Value.int IntKind.i64 1, Value.int IntKind.i64 60, Value.slice none 0 0]]) (.cons (by kernel_rfl) .nil) (by kernel_rfl) (Heap.alloc (Heap.alloc Heap.none (Blk.mk 52 true [Value.iface 3 (Value.iface (List.length (Gr.fr g)) (Value.iface (Gr.fx g) (Value.agg (List.toArray (List.map (fun n => Value.int IntKind.i64 n) (Gr.fr g)))))), Value.iface 3 (Value.iface (List.length (Gr.to g)) (Value.iface (Gr.tx g) (Value.agg (List.toArray (List.map (fun n => Value.int IntKind.i64 n) (Gr.to g)))))), Value.int IntKind.i64 (Gr.number g), Value.int IntKind.i64 (Gr.life g), Value.int IntKind.i64 (Gr.at' g), Value.int IntKind.i64 (Gr.total g), Value.int IntKind.i64 (Gr.report g), Value.bool (Gr.more g), Value.bool (Gr.may g), Value.bool (Gr.wants g), Value.string (Gr.data g), Value.int IntKind.i64 size, Value.int IntKind.i64 less, Value.iface 3 (Value.iface (List.length od) (Value.iface x (Value.agg (List.toArray (List.map (fun n => Value.int IntKind.i64 n) od)))))])) (Blk.mk 66 true [Value.int IntKind.i64 1, Value.int IntKind.i64 60, Value.slice none 0 0])) (by kernel_rfl) ?_
  refine kp 21 (.tuple #[Value.pointer (some (Addr.mk (List.getD [1] 0 0) 0 none)), Value.int .i64 0]) ?_
  refine kp 23 (.pointer (some ⟨1, 0, none⟩)) ?_
  refine kp 24 (.int IntKind.i64 0) ?_
  refine kp 5 (.pointer (some ⟨1, 0, none⟩)) ?_
  refine kp 6 (.int IntKind.i64 0) ?_
  refine WpOps.nil (thenK_at (Wp.seq (Wp.seq (Wp.text ?_))))
  refine kp 25 (.bool false) ?_
  refine kp 26 (.bool true) ?_
  refine kp 27 (.bool true) ?_
  refine um 28 ?_
  refine um 29 ?_
  refine kp 30 (.bool true) ?_
  refine kp 31 (.bool true) ?_
  refine um 32 ?_
  refine um 33 ?_
  refine kp 34 (.bool true) ?_
  refine WpOps.nil (thenK_at (on' (Wp.seq (Wp.text ?_))))
  refine kp 35 (.int IntKind.i64 0) ?_
  refine kp 36 (.bool true) ?_
  refine kp 37 (.bool true) ?_
  refine fr 38 19 [] ?_
  refine WpFun.of (c0) ?_
  refine kp 39 (.bool true) ?_
  refine kp 2 (.bool true) ?_
  refine WpOps.nil (thenK_at (Wp.ret (thenK_ret ?_)))
  refine endK_retn [Value.bool true] (Value.bool true) (by kernel_rfl) (by kernel_rfl) ?_
  rfl
set_option maxHeartbeats 16000000 in
theorem law8_yes (G : Gr) (size less : Int) (x : Nat) (od : List Int) (ho : od.length * 8 ≤ 140737488351232) (P : List Gr) (hP : Pcs G P) (hn : P.length ≤ 200) (c1 : Fun E 29 [caseV G size less x od] (.tuple #[grams 24 P, .bool true])) : Fun E 8 [caseV G size less x od] (.bool true) := by
  have c0 := sane19
  have c2 := new30
  have c3 := copy31L x od (by omega)
  have hfo : (od.map fun n => Value.int .i64 n).all flat = true := ints_fl od
  have hn0 := hP.len
  obtain ⟨p0, hp0⟩ : ∃ p0, P[0]? = some p0 := ⟨_, List.getElem?_eq_getElem hn0⟩
  have ci1 := To16 G hP.okr
  have ci2 := same25 (toR G) (by have := hP.okr.fl; show G.fr.length ≤ _; omega) (by have := hP.okr.tl; show G.to.length ≤ _; omega)
  have hq0 := hP.piece hp0
  have ci3 := To16 (whole G.data (ownG p0)) ⟨(ok_own hq0.okr).fx, (ok_own hq0.okr).tx, hq0.okr.fl, hq0.okr.tl⟩
  rw [toR_whole hq0 (by rw [hq0.at', off_zero, hP.at']; rfl) hP.more] at ci3
  have q5 : 0 ≤ (P.length : Int) ∧ (P.length : Int) = P.length ∧ ((1 : Nat) : Int) * (P.length : Int) ≤ 281474976710656 ∧ (P.length : Int) ≤ 9223372036854775807 := by omega
  refine Fun.of f8 rfl (of_decide_eq_true (by kernel_rfl)) rfl ?_
  unfold caseV at c1 ⊢
  unfold grams at c1
  unfold caseC at c1
  refine Wp.seq (Wp.text ?_)
  refine md 1 (.pointer (some ⟨0, 0, none⟩)) (Blk.mk 52 true [Value.iface 3 (Value.iface (List.length (Gr.fr G)) (Value.iface (Gr.fx G) (Value.agg (List.toArray (List.map (fun n => Value.int .i64 n) (Gr.fr G)))))), Value.iface 3 (Value.iface (List.length (Gr.to G)) (Value.iface (Gr.tx G) (Value.agg (List.toArray (List.map (fun n => Value.int .i64 n) (Gr.to G)))))), Value.int .i64 (Gr.number G), Value.int .i64 (Gr.life G), Value.int .i64 (Gr.at' G), Value.int .i64 (Gr.total G), Value.int .i64 (Gr.report G), Value.bool (Gr.more G), Value.bool (Gr.may G), Value.bool (Gr.wants G), Value.string (Gr.data G), Value.int .i64 size, Value.int .i64 less, Value.iface 3 (Value.iface (List.length od) (Value.iface x (Value.agg (List.toArray (List.map (fun n => Value.int .i64 n) od)))))]) ?_
  refine kp 2 (.bool false) ?_
  refine WpOps.nil (thenK_at (Wp.seq (Wp.text ?_)))
  refine kp 17 (.agg #[Value.iface 3 (Value.iface (List.length (Gr.fr G)) (Value.iface (Gr.fx G) (Value.agg (List.toArray (List.map (fun n => Value.int .i64 n) (Gr.fr G)))))), Value.iface 3 (Value.iface (List.length (Gr.to G)) (Value.iface (Gr.tx G) (Value.agg (List.toArray (List.map (fun n => Value.int .i64 n) (Gr.to G)))))), Value.int .i64 (Gr.number G), Value.int .i64 (Gr.life G), Value.int .i64 (Gr.at' G), Value.int .i64 (Gr.total G), Value.int .i64 (Gr.report G), Value.bool (Gr.more G), Value.bool (Gr.may G), Value.bool (Gr.wants G), Value.string (Gr.data G), Value.int .i64 size, Value.int .i64 less, Value.iface 3 (Value.iface (List.length od) (Value.iface x (Value.agg (List.toArray (List.map (fun n => Value.int .i64 n) od)))))]) ?_
  refine fr 18 29 [Value.agg #[Value.iface 3 (Value.iface (List.length (Gr.fr G)) (Value.iface (Gr.fx G) (Value.agg (List.toArray (List.map (fun n => Value.int .i64 n) (Gr.fr G)))))), Value.iface 3 (Value.iface (List.length (Gr.to G)) (Value.iface (Gr.tx G) (Value.agg (List.toArray (List.map (fun n => Value.int .i64 n) (Gr.to G)))))), Value.int .i64 (Gr.number G), Value.int .i64 (Gr.life G), Value.int .i64 (Gr.at' G), Value.int .i64 (Gr.total G), Value.int .i64 (Gr.report G), Value.bool (Gr.more G), Value.bool (Gr.may G), Value.bool (Gr.wants G), Value.string (Gr.data G), Value.int .i64 size, Value.int .i64 less, Value.iface 3 (Value.iface (List.length od) (Value.iface x (Value.agg (List.toArray (List.map (fun n => Value.int .i64 n) od)))))]] ?_
  refine WpFun.of (c1) ?_
  refine kp 16 (.tuple #[FS 24 (List.length P) 0 (List.toArray (cellsG P)), Value.bool true]) ?_
  refine kp 19 (.iface 24 (Value.iface (List.length P) (Value.iface 0 (Value.agg (List.toArray (cellsG P)))))) ?_
  refine kp 20 (.bool true) ?_
  refine kp 3 (.iface 24 (Value.iface (List.length P) (Value.iface 0 (Value.agg (List.toArray (cellsG P)))))) ?_
  refine kp 4 (.bool true) ?_
  refine WpOps.nil (thenK_at (Wp.seq (Wp.text ?_)))
  refine cl 22 30 [Value.int .i64 1, Value.int .i64 60] ?_
  refine WpCall.lent [] (c2) (by decide) trivial (by kernel_rfl) (Value.tuple #[Value.pointer (some (Addr.mk (List.getD [1] 0 0) 0 none)), Value.int IntKind.i64 0]) ([Blk.mk 66 true [Value.int IntKind.i64 1, Value.int IntKind.i64 60, Value.slice none 0 0]]) (.cons (by kernel_rfl) .nil) (by kernel_rfl) (Heap.alloc (Heap.alloc Heap.none (Blk.mk 52 true [Value.iface 3 (Value.iface (List.length (Gr.fr G)) (Value.iface (Gr.fx G) (Value.agg (List.toArray (List.map (fun n => Value.int IntKind.i64 n) (Gr.fr G)))))), Value.iface 3 (Value.iface (List.length (Gr.to G)) (Value.iface (Gr.tx G) (Value.agg (List.toArray (List.map (fun n => Value.int IntKind.i64 n) (Gr.to G)))))), Value.int IntKind.i64 (Gr.number G), Value.int IntKind.i64 (Gr.life G), Value.int IntKind.i64 (Gr.at' G), Value.int IntKind.i64 (Gr.total G), Value.int IntKind.i64 (Gr.report G), Value.bool (Gr.more G), Value.bool (Gr.may G), Value.bool (Gr.wants G), Value.string (Gr.data G), Value.int IntKind.i64 size, Value.int IntKind.i64 less, Value.iface 3 (Value.iface (List.length od) (Value.iface x (Value.agg (List.toArray (List.map (fun n => Value.int IntKind.i64 n) od)))))])) (Blk.mk 66 true [Value.int IntKind.i64 1, Value.int IntKind.i64 60, Value.slice none 0 0])) (by kernel_rfl) ?_
  refine kp 21 (.tuple #[Value.pointer (some (Addr.mk (List.getD [1] 0 0) 0 none)), Value.int .i64 0]) ?_
  refine kp 23 (.pointer (some ⟨1, 0, none⟩)) ?_
  refine kp 24 (.int IntKind.i64 0) ?_
  refine kp 5 (.pointer (some ⟨1, 0, none⟩)) ?_
  refine kp 6 (.int IntKind.i64 0) ?_
  refine WpOps.nil (thenK_at (Wp.seq (Wp.seq (Wp.text ?_))))
  refine kp 25 (.bool true) ?_
  refine kp 26 (.bool false) ?_
  refine kp 27 (.bool false) ?_
  refine kp 28 (.int IntKind.i64 0) ?_
  refine kp 29 (.bool false) ?_
  refine kp 30 (.bool false) ?_
  refine kp 31 (.bool false) ?_
  refine kp 32 (.pointer (some ⟨1, 0, none⟩)) ?_
  refine kp 33 (.bool false) ?_
  refine kp 34 (.bool false) ?_
  refine WpOps.nil (thenK_at (off' (Wp.skip (thenK_at (Wp.seq (Wp.text ?_))))))
  refine kp 40 (.iface 24 (Value.iface (List.length P) (Value.iface 0 (Value.agg (List.toArray (cellsG P)))))) ?_
  refine kp 41 (.int IntKind.i64 (↑(List.length P) : Int)) ?_
  refine md 42 (.slice (some ⟨2, 0, none⟩) (Int.toNat (↑(List.length P) : Int)) (Int.toNat (↑(List.length P) : Int))) (Blk.mk 4 true (zeros [Value.bool false] (Int.toNat (↑(List.length P) : Int)))) ?_ (hop := fun _ => o_makeSlice (e := 4) q5)
  refine kp 7 (.slice (some ⟨2, 0, none⟩) (Int.toNat (↑(List.length P) : Int)) (Int.toNat (↑(List.length P) : Int))) ?_
  refine WpOps.nil (thenK_at (Wp.seq (Wp.text ?_)))
  refine kp 43 (.iface 24 (Value.iface (List.length P) (Value.iface 0 (Value.agg (List.toArray (cellsG P)))))) ?_
  refine kp 44 (.int IntKind.i64 (↑(List.length P) : Int)) ?_
  refine kp 8 (.int IntKind.i64 (↑(List.length P) : Int)) ?_
  refine WpOps.nil (thenK_at (Wp.seq (Wp.text ?_)))
  refine kp 45 (.pointer (some ⟨0, 13, none⟩)) ?_
  refine kp 46 (.iface 3 (Value.iface (List.length od) (Value.iface x (Value.agg (List.toArray (List.map (fun n => Value.int .i64 n) od)))))) ?_
  refine cl 47 31 [Value.iface 3 (Value.iface (List.length od) (Value.iface x (Value.agg (List.toArray (List.map (fun n => Value.int .i64 n) od)))))] ?_
  refine WpCall.lent [] (c3) (by decide) trivial (by kernel_rfl) (Value.slice (some (Addr.mk (List.getD [3] 0 0) 0 none)) (List.length od) (List.length od)) ([Blk.mk 3 true (List.map (fun n => Value.int IntKind.i64 n) od)]) (.cons (unB_flat (by assumption)) .nil) (by kernel_rfl) (Heap.alloc (Heap.alloc (Heap.alloc (Heap.alloc Heap.none (Blk.mk 52 true [Value.iface 3 (Value.iface (List.length (Gr.fr G)) (Value.iface (Gr.fx G) (Value.agg (List.toArray (List.map (fun n => Value.int IntKind.i64 n) (Gr.fr G)))))), Value.iface 3 (Value.iface (List.length (Gr.to G)) (Value.iface (Gr.tx G) (Value.agg (List.toArray (List.map (fun n => Value.int IntKind.i64 n) (Gr.to G)))))), Value.int IntKind.i64 (Gr.number G), Value.int IntKind.i64 (Gr.life G), Value.int IntKind.i64 (Gr.at' G), Value.int IntKind.i64 (Gr.total G), Value.int IntKind.i64 (Gr.report G), Value.bool (Gr.more G), Value.bool (Gr.may G), Value.bool (Gr.wants G), Value.string (Gr.data G), Value.int IntKind.i64 size, Value.int IntKind.i64 less, Value.iface 3 (Value.iface (List.length od) (Value.iface x (Value.agg (List.toArray (List.map (fun n => Value.int IntKind.i64 n) od)))))])) (Blk.mk 66 true [Value.int IntKind.i64 1, Value.int IntKind.i64 60, Value.slice none 0 0])) (Blk.mk 4 true (zeros [Value.bool false] (Int.toNat (↑(List.length P) : Int))))) (Blk.mk 3 true (List.map (fun n => Value.int IntKind.i64 n) od))) (by kernel_rfl) ?_
  refine kp 9 (.slice (some ⟨3, 0, none⟩) (List.length od) (List.length od)) ?_
  refine WpOps.nil (thenK_at (Wp.seq (Wp.seq (Wp.text ?_))))
  refine kp 10 (.int IntKind.i64 0) ?_
  refine WpOps.nil (thenK_at (Wp.block ?_))
  refine Wp.loop (G := Nat) (fun j => layj [(1, .pointer (some ⟨0, 0, none⟩)), (3, FS 24 P.length 0 (cellsG P).toArray), (5, .pointer (some ⟨1, 0, none⟩)), (7, .slice (some ⟨2, 0, none⟩) P.length P.length), (8, .int .i64 P.length), (9, .slice (some ⟨3, 0, none⟩) (od.length + j) (od.length + j)), (10, .int .i64 (j : Nat))]) (fun j => heapOf [⟨52, true, caseC G size less x od⟩, ⟨66, true, [.int .i64 1, .int .i64 60, .slice none 0 0]⟩, ⟨4, true, bC P.length (fun _ => false)⟩, ⟨3, true, ints (od ++ rg j)⟩]) (fun j => P.length - j) (fun j => j ≤ P.length) 0
    (View.of [0, 1, 2, 3] [⟨52, true, caseC G size less x od⟩, ⟨66, true, [.int .i64 1, .int .i64 60, .slice none 0 0]⟩, ⟨4, true, bC P.length (fun _ => false)⟩, ⟨3, true, ints (od ++ rg 0)⟩] _ (by decide) rfl ⟨⟨_, by kernel_rfl, CellsOk.eq rfl (by kernel_rfl)⟩, ⟨_, by kernel_rfl, CellsOk.eq rfl (by kernel_rfl)⟩, ⟨zeros [.bool false] P.length, by kernel_rfl, CellsOk.eq (bC_zero _) (bC_flat _ _)⟩, ⟨ints od, by kernel_rfl, CellsOk.eq (by simp [rg]) (ints_fl _)⟩, trivial⟩ ⟨⟨by kernel_rfl, by kernel_rfl⟩, ⟨by kernel_rfl, rfl⟩, ⟨by kernel_rfl, by kernel_rfl⟩, ⟨by kernel_rfl, by kernel_rfl⟩, ⟨by kernel_rfl, rfl⟩, ⟨by kernel_rfl, by kernel_rfl⟩, ⟨by kernel_rfl, rfl⟩, trivial⟩) (Nat.zero_le _) ?_
  · intro j hj
    unfold caseC
    by_cases hlt : j < P.length
    · have d1 : decide ((j : Int) < P.length) = true := decide_eq_true (by omega)
      have hL : (od ++ rg j).length = od.length + j := by rw [List.length_append, rg_len]
      have q1 : ¬ (od.length + j + 1 ≤ od.length + j) := by omega
      have q2 : 1 ≤ 8 ∧ (od.length + j + 1) * 8 ≤ 140737488355328 ∧ 1 = 1 ∧ od.length + j + 1 ≤ 9223372036854775807 := by omega
      have q3 := ints_all (od ++ rg j) _ hL
      have q4 := ints_snoc od j
      refine Wp.seq (Wp.seq (Wp.text ?_))
      refine kp 48 (.int IntKind.i64 (↑j : Int)) ?_
      refine kp 49 (.iface 24 (Value.iface (List.length P) (Value.iface 0 (Value.agg (List.toArray (cellsG P)))))) ?_
      refine kp 50 (.int IntKind.i64 (↑(List.length P) : Int)) ?_
      refine kp 51 (.bool true) ?_ (hop := fun _ => by_fact d1)
      refine WpOps.nil (thenK_at (on' (Wp.skip (thenK_at (Wp.seq (Wp.block (Wp.text ?_)))))))
      refine kp 54 (.slice (some ⟨3, 0, none⟩) (List.length od + j) (List.length od + j)) ?_
      refine kp 55 (.int IntKind.i64 (↑j : Int)) ?_
      refine cg 56 (.slice (some ⟨4, 0, none⟩) 1 1) (Heap.alloc (heapOf [Blk.mk 52 true [Value.iface 3 (Value.iface (List.length (Gr.fr G)) (Value.iface (Gr.fx G) (Value.agg (List.toArray (List.map (fun n => Value.int .i64 n) (Gr.fr G)))))), Value.iface 3 (Value.iface (List.length (Gr.to G)) (Value.iface (Gr.tx G) (Value.agg (List.toArray (List.map (fun n => Value.int .i64 n) (Gr.to G)))))), Value.int .i64 (Gr.number G), Value.int .i64 (Gr.life G), Value.int .i64 (Gr.at' G), Value.int .i64 (Gr.total G), Value.int .i64 (Gr.report G), Value.bool (Gr.more G), Value.bool (Gr.may G), Value.bool (Gr.wants G), Value.string (Gr.data G), Value.int .i64 size, Value.int .i64 less, Value.iface 3 (Value.iface (List.length od) (Value.iface x (Value.agg (List.toArray (List.map (fun n => Value.int .i64 n) od)))))], Blk.mk 66 true [Value.int .i64 1, Value.int .i64 60, Value.slice none 0 0], Blk.mk 4 true (bC (List.length P) fun x => false), Blk.mk 3 true (ints (od ++ rg j))]) (Blk.mk 3 true [Value.int .i64 (↑j : Int)])) ?_
      refine ra 57 (.slice (some ⟨5, 0, none⟩) (List.length od + j + 1) (List.length od + j + 1)) (3) (Blk.mk 3 true (ints (od ++ rg j) ++ [Value.int .i64 (↑j : Int)])) ?_ (hop := fun _ => o_append (e := 3) (3) (0) (List.length od + j) _ (List.length od + j) q1 q2 q3)
      refine kp 9 (.slice (some ⟨5, 0, none⟩) (List.length od + j + 1) (List.length od + j + 1)) ?_
      refine WpOps.nil (blockK_norm (thenK_at (Wp.text ?_)))
      refine kp 52 (.int IntKind.i64 (↑j : Int)) ?_
      refine kp 53 (.int IntKind.i64 (IntKind.wrap .i64 ((↑j : Int) + 1))) ?_
      refine kp 10 (.int IntKind.i64 (IntKind.wrap .i64 ((↑j : Int) + 1))) ?_
      refine WpOps.nil (thenK_at ?_)
      exact ⟨j + 1, by omega, by omega, View.of [0, 1, 2, 5] [⟨52, true, caseC G size less x od⟩, ⟨66, true, [.int .i64 1, .int .i64 60, .slice none 0 0]⟩, ⟨4, true, bC P.length (fun _ => false)⟩, ⟨3, true, ints (od ++ rg (j + 1))⟩] _ (by decide) rfl ⟨⟨_, by kernel_rfl, CellsOk.eq rfl (by kernel_rfl)⟩, ⟨_, by kernel_rfl, CellsOk.eq rfl (by kernel_rfl)⟩, ⟨_, by kernel_rfl, CellsOk.eq rfl (bC_flat _ _)⟩, ⟨_, by kernel_rfl, CellsOk.eq q4 (ints_fl _)⟩, trivial⟩ ⟨⟨by kernel_rfl, by kernel_rfl⟩, ⟨by kernel_rfl, rfl⟩, ⟨by kernel_rfl, by kernel_rfl⟩, ⟨by kernel_rfl, by kernel_rfl⟩, ⟨by kernel_rfl, rfl⟩, ⟨by kernel_rfl, by kernel_rfl⟩, ⟨congrArg (Value.int .i64) (wr _ (by omega) (by omega)), rfl⟩, trivial⟩⟩
    · obtain rfl : j = P.length := by omega
      have d1 : decide ((P.length : Int) < P.length) = false := decide_eq_false (by omega)
      refine Wp.seq (Wp.seq (Wp.text ?_))
      refine kp 48 (.int IntKind.i64 (↑(List.length P) : Int)) ?_
      refine kp 49 (.iface 24 (Value.iface (List.length P) (Value.iface 0 (Value.agg (List.toArray (cellsG P)))))) ?_
      refine kp 50 (.int IntKind.i64 (↑(List.length P) : Int)) ?_
      refine kp 51 (.bool false) ?_ (hop := fun _ => by_fact d1)
      refine WpOps.nil (thenK_at (off' (Wp.exit (thenK_exit (thenK_exit (blockK_hit (thenK_at (Wp.seq (Wp.seq (Wp.text ?_))))))))))
      refine kp 11 (.int IntKind.i64 0) ?_
      refine WpOps.nil (thenK_at (Wp.block ?_))
      refine Wp.loop (G := Nat × (Nat → Bool) × List Blk) (fun g => layj [(1, .pointer (some ⟨0, 0, none⟩)), (3, FS 24 P.length 0 (cellsG P).toArray), (5, .pointer (some ⟨3, 0, none⟩)), (7, .slice (some ⟨1, 0, none⟩) P.length P.length), (8, .int .i64 (lf P.length g.2.1 : Nat)), (9, .slice (some ⟨2, 0, none⟩) (od.length + P.length) (od.length + P.length)), (11, .int .i64 (g.1 : Nat))]) (fun g => heapOf (⟨52, true, caseC G size less x od⟩ :: ⟨4, true, bC P.length g.2.1⟩ :: ⟨3, true, ints (od ++ rg P.length)⟩ :: g.2.2.map u5)) (fun g => od.length + P.length - g.1) (fun g => g.1 ≤ od.length + P.length ∧ ((g.2.1 = (fun _ => false) ∧ g.2.2 = blk0) ∨ (0 < lf P.length g.2.1 ∧ Open G p0 P g.2.1 g.2.2) ∨ (lf P.length g.2.1 = 0 ∧ Done G p0 P g.2.2))) (0, (fun _ => false), blk0) ?_ ⟨Nat.zero_le _, .inl ⟨rfl, rfl⟩⟩ ?_
      · dsimp only
        rw [lf_none]
        exact View.of [0, 2, 3, 1] [⟨52, true, caseC G size less x od⟩, ⟨4, true, bC P.length (fun _ => false)⟩, ⟨3, true, ints (od ++ rg P.length)⟩, ⟨66, true, [.int .i64 1, .int .i64 60, .slice none 0 0]⟩] _ (by decide) rfl ⟨⟨_, by kernel_rfl, CellsOk.eq rfl (by kernel_rfl)⟩, ⟨_, by kernel_rfl, CellsOk.eq rfl (bC_flat _ _)⟩, ⟨_, by kernel_rfl, CellsOk.eq rfl (ints_fl _)⟩, ⟨_, by kernel_rfl, CellsOk.eq rfl (by kernel_rfl)⟩, trivial⟩ ⟨⟨by kernel_rfl, by kernel_rfl⟩, ⟨by kernel_rfl, rfl⟩, ⟨by kernel_rfl, by kernel_rfl⟩, ⟨by kernel_rfl, by kernel_rfl⟩, ⟨by kernel_rfl, rfl⟩, ⟨by kernel_rfl, by kernel_rfl⟩, ⟨by kernel_rfl, rfl⟩, trivial⟩
      rintro ⟨i, c, A⟩ ⟨hi, hS⟩
      dsimp only at hi hS ⊢
      unfold caseC
      have hOL : (od ++ rg P.length).length = od.length + P.length := by rw [List.length_append, rg_len]
      by_cases h1 : i < od.length + P.length
      · have d1 : decide ((i : Int) < ((od.length + P.length : Nat) : Int)) = true := decide_eq_true (by omega)
        by_cases h2 : 0 < lf P.length c
        · have d2 : decide ((lf P.length c : Int) > 0) = true := decide_eq_true (by omega)
          by_cases h3 : i < 600
          · have d3 : decide ((i : Int) < 600) = true := decide_eq_true (by omega)
            have g4 : 0 ≤ (i : Int) ∧ (i : Int) < ((od.length + P.length : Nat) : Int) := by omega
            have v1 := ints_get (od ++ rg P.length) (i := i) (by omega)
            have cm := mod28 ((od ++ rg P.length).getD i 0) P.length hn0 (by omega)
            obtain ⟨m1, m2⟩ := modN_in ((od ++ rg P.length).getD i 0) P.length hn0
            obtain ⟨k, hk⟩ := Int.eq_ofNat_of_zero_le m1
            rw [hk] at cm m2
            have hkn : k < P.length := by omega
            have gk : 0 ≤ (k : Int) ∧ (k : Int) < P.length := by omega
            have vp := cells_at P k hkn
            have hp : P[k]? = some P[k] := List.getElem?_eq_getElem hkn
            generalize P[k] = p at vp hp
            have vk : (bC P.length c)[0 + (k : Int).toNat * 1]? = some (.bool (c k)) := by
              rw [Int.toNat_natCast, Nat.zero_add, Nat.mul_one]
              exact bC_at _ hkn
            have q6 : true = true ∧ 0 + (k : Int).toNat * 1 + 1 ≤ (bC P.length c).length := ⟨rfl, by rw [bC_len, Int.toNat_natCast]; omega⟩
            have e1 : (bC P.length c).set (0 + (k : Int).toNat * 1) (.bool true) = bC P.length (up c k) := by
              rw [Int.toNat_natCast, Nat.zero_add, Nat.mul_one]
              unfold bC
              rw [map_set]
              refine List.map_congr_left fun i _ => ?_
              unfold up
              split <;> rfl
            have hle := lf_le P.length c
            generalize (od ++ rg P.length).getD i 0 = oi at v1 cm
            rcases hS with ⟨rfl, rfl⟩ | ⟨_, hO⟩ | ⟨hl0, _⟩
            · have hck : (fun _ : Nat => false) k = false := rfl
              rw [show (fun _ : Nat => false) k = false from rfl] at vk
              by_cases hall : ∀ j, j < P.length → up (fun _ => false) k j = true
              · have hlf := lf_up (c := (fun _ => false)) hkn hck
                have hw : IntKind.i64.wrap ((lf P.length (fun _ => false) : Int) - 1) = (lf P.length (up (fun _ => false) k) : Int) := by rw [wr _ (by omega) (by omega)]; omega
                have hl2 : lf P.length (up (fun _ => false) k) = 0 := lf_zero.2 hall
                have e3 : (IntKind.i64.wrap ((lf P.length (fun _ => false) : Int) - 1) == 0) = true := by rw [hw, hl2]; rfl
                obtain ⟨A', hD, cT⟩ := first_done hP hp0 hp hall
                obtain ⟨⟨b0, b1, b2, b3, b4, rfl⟩, hok⟩ := done_ok hD
                simp only [List.all_cons, List.all_nil, Bool.and_true, Bool.and_eq_true] at hok
                obtain ⟨o0, o1, o2, o3, o4⟩ := hok
                have cT2 := lend1 (c0 := ⟨52, true, caseC G size less x od⟩) (c1 := ⟨4, true, bC P.length (up (fun _ => false) k)⟩) (c2 := ⟨3, true, ints (od ++ rg P.length)⟩) cT rfl
                clear cT
                change SCall E 32 [.pointer (some ⟨3, 0, none⟩), gv p] _ (.tuple #[gv (whole G.data (ownG p0)), .bool true, .int .i64 0]) _ at cT2
                unfold caseC at cT2
                show Wp _ _ _ _ _ (heapOf [⟨52, true, gc G ++ [.int .i64 size, .int .i64 less, sl x od]⟩, ⟨4, true, bC P.length (fun _ => false)⟩, ⟨3, true, ints (od ++ rg P.length)⟩, ⟨66, true, [.int .i64 1, .int .i64 60, .slice none 0 0]⟩]) _
                refine Wp.seq (Wp.seq (Wp.text ?_))
                refine kp 58 (.int IntKind.i64 (↑i : Int)) ?_
                refine kp 59 (.slice (some ⟨2, 0, none⟩) (List.length od + List.length P) (List.length od + List.length P)) ?_
                refine kp 60 (.int IntKind.i64 (↑(List.length od + List.length P) : Int)) ?_
                refine kp 61 (.bool true) ?_ (hop := fun _ => by_fact d1)
                refine kp 62 (.bool true) ?_
                refine kp 63 (.int IntKind.i64 (↑(lf (List.length P) fun x => false) : Int)) ?_
                refine kp 64 (.bool true) ?_ (hop := fun _ => by_fact d2)
                refine kp 65 (.bool true) ?_
                refine kp 66 (.bool true) ?_
                refine kp 67 (.int IntKind.i64 (↑i : Int)) ?_
                refine kp 68 (.bool true) ?_ (hop := fun _ => by_fact d3)
                refine kp 69 (.bool true) ?_
                refine WpOps.nil (thenK_at (on' (Wp.skip (thenK_at (Wp.seq (Wp.block (Wp.seq (Wp.text ?_))))))))
                refine kp 72 (.slice (some ⟨2, 0, none⟩) (List.length od + List.length P) (List.length od + List.length P)) ?_
                refine kp 73 (.int IntKind.i64 (↑i : Int)) ?_
                refine kp 74 (.pointer (some (Addr.mk 2 (0 + Int.toNat (↑i : Int) * 1) none))) ?_ (hop := fun _ => o_indexAddr (a := (↑i : Int)) (bl := 2) (off := 0) (size := 1) 3 (List.length od + List.length P) g4)
                refine kp 75 (.int IntKind.i64 oi) ?_ (hop := fun _ => o_load1 (2) (0 + Int.toNat (↑i : Int) * 1) v1)
                refine kp 76 (.iface 24 (Value.iface (List.length P) (Value.iface 0 (Value.agg (List.toArray (cellsG P)))))) ?_
                refine kp 77 (.int IntKind.i64 (↑(List.length P) : Int)) ?_
                refine fr 78 28 [Value.int .i64 oi, Value.int .i64 (↑(List.length P) : Int)] ?_
                refine WpFun.of (cm) ?_
                refine kp 12 (.int IntKind.i64 (↑k : Int)) ?_
                refine WpOps.nil (thenK_at (Wp.seq (Wp.seq (Wp.text ?_))))
                refine kp 79 (.slice (some ⟨1, 0, none⟩) (List.length P) (List.length P)) ?_
                refine kp 80 (.int IntKind.i64 (↑k : Int)) ?_
                refine kp 81 (.pointer (some (Addr.mk 1 (0 + Int.toNat (↑k : Int) * 1) none))) ?_ (hop := fun _ => o_indexAddr (a := (↑k : Int)) (bl := 1) (off := 0) (size := 1) 4 (List.length P) gk)
                refine kp 82 (.bool false) ?_ (hop := fun _ => o_load1 (1) (0 + Int.toNat (↑k : Int) * 1) vk)
                refine kp 83 (.bool true) ?_
                refine WpOps.nil (thenK_at (on' (Wp.seq (Wp.text ?_))))
                refine kp 84 (.slice (some ⟨1, 0, none⟩) (List.length P) (List.length P)) ?_
                refine kp 85 (.int IntKind.i64 (↑k : Int)) ?_
                refine kp 86 (.pointer (some (Addr.mk 1 (0 + Int.toNat (↑k : Int) * 1) none))) ?_ (hop := fun _ => o_indexAddr (a := (↑k : Int)) (bl := 1) (off := 0) (size := 1) 4 (List.length P) gk)
                refine cg0 (.tuple #[]) (Heap.set (heapOf [Blk.mk 52 true [Value.iface 3 (Value.iface (List.length (Gr.fr G)) (Value.iface (Gr.fx G) (Value.agg (List.toArray (List.map (fun n => Value.int .i64 n) (Gr.fr G)))))), Value.iface 3 (Value.iface (List.length (Gr.to G)) (Value.iface (Gr.tx G) (Value.agg (List.toArray (List.map (fun n => Value.int .i64 n) (Gr.to G)))))), Value.int .i64 (Gr.number G), Value.int .i64 (Gr.life G), Value.int .i64 (Gr.at' G), Value.int .i64 (Gr.total G), Value.int .i64 (Gr.report G), Value.bool (Gr.more G), Value.bool (Gr.may G), Value.bool (Gr.wants G), Value.string (Gr.data G), Value.int .i64 size, Value.int .i64 less, Value.iface 3 (Value.iface (List.length od) (Value.iface x (Value.agg (List.toArray (List.map (fun n => Value.int .i64 n) od)))))], Blk.mk 4 true (bC (List.length P) fun x => false), Blk.mk 3 true (ints (od ++ rg (List.length P))), Blk.mk 66 true [Value.int .i64 1, Value.int .i64 60, Value.slice none 0 0]]) 1 (some (Blk.mk 4 true (List.set (bC (List.length P) fun x => false) (0 + Int.toNat (↑k : Int) * 1) (Value.bool true))))) ?_ (hop := fun _ => o_store1 (1) (0 + Int.toNat (↑k : Int) * 1) q6)
                refine WpOps.nil (thenK_at (Wp.text ?_))
                refine kp 87 (.int IntKind.i64 (↑(lf (List.length P) fun x => false) : Int)) ?_
                refine kp 88 (.int IntKind.i64 (IntKind.wrap .i64 ((↑(lf (List.length P) fun x => false) : Int) - 1))) ?_
                refine kp 8 (.int IntKind.i64 (IntKind.wrap .i64 ((↑(lf (List.length P) fun x => false) : Int) - 1))) ?_
                refine WpOps.nil (thenK_at (Wp.seq (Wp.text ?_)))
                refine kp 90 (.pointer (some ⟨3, 0, none⟩)) ?_
                refine kp 91 (.iface 24 (Value.iface (List.length P) (Value.iface 0 (Value.agg (List.toArray (cellsG P)))))) ?_
                refine kp 92 (.int IntKind.i64 (↑k : Int)) ?_
                refine kp 93 (.iface 24 (Value.iface (Int.toNat (↑k : Int) * 11) (Value.agg (List.toArray (cellsG P))))) ?_ (hop := fun _ => o_indexI (e := 24) (size := 11) (a := (↑k : Int)) gk)
                refine kp 94 (.agg (List.toArray (gc p))) ?_ (hop := fun _ => o_loadIA (Int.toNat (↑k : Int) * 11) vp)
                refine cl 95 32 [Value.pointer (some ⟨3, 0, none⟩), Value.agg (List.toArray (gc p))] ?_
                refine WpCall.enterL cT2 (by rw [e1]; exact heapOf_set _ 1 _ (by simp)) ?_
                refine kp 89 (.tuple #[gv (whole (Gr.data G) (ownG p0)), Value.bool true, Value.int .i64 0]) ?_
                refine kp 96 (.agg (List.toArray (gc (whole (Gr.data G) (ownG p0))))) ?_
                refine kp 97 (.bool true) ?_
                refine kp 98 (.int IntKind.i64 0) ?_
                refine cg 13 (.pointer (some ⟨8, 0, none⟩)) (Heap.alloc (heapOf [Blk.mk 52 true [Value.iface 3 (Value.iface (List.length (Gr.fr G)) (Value.iface (Gr.fx G) (Value.agg (List.toArray (List.map (fun n => Value.int .i64 n) (Gr.fr G)))))), Value.iface 3 (Value.iface (List.length (Gr.to G)) (Value.iface (Gr.tx G) (Value.agg (List.toArray (List.map (fun n => Value.int .i64 n) (Gr.to G)))))), Value.int .i64 (Gr.number G), Value.int .i64 (Gr.life G), Value.int .i64 (Gr.at' G), Value.int .i64 (Gr.total G), Value.int .i64 (Gr.report G), Value.bool (Gr.more G), Value.bool (Gr.may G), Value.bool (Gr.wants G), Value.string (Gr.data G), Value.int .i64 size, Value.int .i64 less, Value.iface 3 (Value.iface (List.length od) (Value.iface x (Value.agg (List.toArray (List.map (fun n => Value.int .i64 n) od)))))], Blk.mk 4 true (bC (List.length P) (up (fun x => false) k)), Blk.mk 3 true (ints (od ++ rg (List.length P))), u5 b0, u5 b1, u5 b2, u5 b3, u5 b4]) (Blk.mk 24 true zc)) ?_
                refine ld (.tuple #[]) (8) (Blk.mk 24 true [Value.iface 3 (Value.iface (List.length (Gr.fr (whole (Gr.data G) (ownG p0)))) (Value.iface (Gr.fx (whole (Gr.data G) (ownG p0))) (Value.agg (List.toArray (List.map (fun n => Value.int .i64 n) (Gr.fr (whole (Gr.data G) (ownG p0)))))))), Value.iface 3 (Value.iface (List.length (Gr.to (whole (Gr.data G) (ownG p0)))) (Value.iface (Gr.tx (whole (Gr.data G) (ownG p0))) (Value.agg (List.toArray (List.map (fun n => Value.int .i64 n) (Gr.to (whole (Gr.data G) (ownG p0)))))))), Value.int .i64 (Gr.number (whole (Gr.data G) (ownG p0))), Value.int .i64 (Gr.life (whole (Gr.data G) (ownG p0))), Value.int .i64 (Gr.at' (whole (Gr.data G) (ownG p0))), Value.int .i64 (Gr.total (whole (Gr.data G) (ownG p0))), Value.int .i64 (Gr.report (whole (Gr.data G) (ownG p0))), Value.bool (Gr.more (whole (Gr.data G) (ownG p0))), Value.bool (Gr.may (whole (Gr.data G) (ownG p0))), Value.bool (Gr.wants (whole (Gr.data G) (ownG p0))), Value.string (Gr.data (whole (Gr.data G) (ownG p0)))]) ?_
                refine kp 14 (.bool true) ?_
                refine kp 15 (.int IntKind.i64 0) ?_
                refine WpOps.nil (thenK_at (Wp.seq ?_))
                refine Wp.region (by kernel_rfl) ?_
                refine kp 99 (.int IntKind.i64 0) ?_
                refine kp 100 (.bool false) ?_
                refine kp 101 (.bool false) ?_
                refine kp 102 (.bool true) ?_
                refine kp 103 (.int IntKind.i64 (IntKind.wrap .i64 ((↑(lf (List.length P) fun x => false) : Int) - 1))) ?_
                refine kp 104 (.bool true) ?_ (hop := fun _ => by_fact e3)
                refine kp 105 (.bool false) ?_
                refine kp 106 (.bool false) ?_ (hop := fun _ => o_pickF hck)
                refine kp 107 (.bool false) ?_
                refine kp 108 (.bool true) ?_
                refine kp 109 (.bool true) ?_
                refine kp 110 (.agg #[Value.iface 3 (Value.iface (List.length (Gr.fr (whole (Gr.data G) (ownG p0)))) (Value.iface (Gr.fx (whole (Gr.data G) (ownG p0))) (Value.agg (List.toArray (List.map (fun n => Value.int .i64 n) (Gr.fr (whole (Gr.data G) (ownG p0)))))))), Value.iface 3 (Value.iface (List.length (Gr.to (whole (Gr.data G) (ownG p0)))) (Value.iface (Gr.tx (whole (Gr.data G) (ownG p0))) (Value.agg (List.toArray (List.map (fun n => Value.int .i64 n) (Gr.to (whole (Gr.data G) (ownG p0)))))))), Value.int .i64 (Gr.number (whole (Gr.data G) (ownG p0))), Value.int .i64 (Gr.life (whole (Gr.data G) (ownG p0))), Value.int .i64 (Gr.at' (whole (Gr.data G) (ownG p0))), Value.int .i64 (Gr.total (whole (Gr.data G) (ownG p0))), Value.int .i64 (Gr.report (whole (Gr.data G) (ownG p0))), Value.bool (Gr.more (whole (Gr.data G) (ownG p0))), Value.bool (Gr.may (whole (Gr.data G) (ownG p0))), Value.bool (Gr.wants (whole (Gr.data G) (ownG p0))), Value.string (Gr.data (whole (Gr.data G) (ownG p0)))]) ?_
                refine fr 111 16 [Value.agg #[Value.iface 3 (Value.iface (List.length (Gr.fr (whole (Gr.data G) (ownG p0)))) (Value.iface (Gr.fx (whole (Gr.data G) (ownG p0))) (Value.agg (List.toArray (List.map (fun n => Value.int .i64 n) (Gr.fr (whole (Gr.data G) (ownG p0)))))))), Value.iface 3 (Value.iface (List.length (Gr.to (whole (Gr.data G) (ownG p0)))) (Value.iface (Gr.tx (whole (Gr.data G) (ownG p0))) (Value.agg (List.toArray (List.map (fun n => Value.int .i64 n) (Gr.to (whole (Gr.data G) (ownG p0)))))))), Value.int .i64 (Gr.number (whole (Gr.data G) (ownG p0))), Value.int .i64 (Gr.life (whole (Gr.data G) (ownG p0))), Value.int .i64 (Gr.at' (whole (Gr.data G) (ownG p0))), Value.int .i64 (Gr.total (whole (Gr.data G) (ownG p0))), Value.int .i64 (Gr.report (whole (Gr.data G) (ownG p0))), Value.bool (Gr.more (whole (Gr.data G) (ownG p0))), Value.bool (Gr.may (whole (Gr.data G) (ownG p0))), Value.bool (Gr.wants (whole (Gr.data G) (ownG p0))), Value.string (Gr.data (whole (Gr.data G) (ownG p0)))]] ?_
                refine WpFun.of (ci3) ?_
                refine kp 112 (.pointer (some ⟨0, 0, none⟩)) ?_
                refine kp 113 (gv G) ?_
                refine fr 114 16 [gv G] ?_
                refine WpFun.of (ci1) ?_
                refine fr 115 25 [Value.agg (List.toArray (gc (toR G))), Value.agg (List.toArray (gc (toR G)))] ?_
                refine WpFun.of (ci2) ?_
                refine kp 116 (.bool false) ?_
                refine kp 117 (.bool false) ?_
                refine kp 118 (.bool false) ?_ (hop := fun _ => o_pickF hck)
                refine WpOps.nil (thenK_at (off' (Wp.skip (blockK_norm (thenK_at (Wp.text ?_))))))
                refine kp 70 (.int IntKind.i64 (↑i : Int)) ?_
                refine kp 71 (.int IntKind.i64 (IntKind.wrap .i64 ((↑i : Int) + 1))) ?_
                refine kp 11 (.int IntKind.i64 (IntKind.wrap .i64 ((↑i : Int) + 1))) ?_
                refine WpOps.nil (thenK_at ?_)
                exact ⟨(i + 1, (up (fun _ => false) k), [b0, b1, b2, b3, b4]), by dsimp only; omega, ⟨by dsimp only; omega, .inr (.inr ⟨hl2, hD⟩)⟩, View.same [⟨52, true, caseC G size less x od⟩, ⟨4, true, bC P.length (up (fun _ => false) k)⟩, ⟨3, true, ints (od ++ rg P.length)⟩, u5 b0, u5 b1, u5 b2, u5 b3, u5 b4] _ (Nat.zero_le _) (pre8 ⟨by kernel_rfl, by kernel_rfl⟩ ⟨by kernel_rfl, okCs_flat (bC_flat _ _)⟩ ⟨by kernel_rfl, okCs_flat (ints_fl _)⟩ ⟨by kernel_rfl, u5_ok o0⟩ ⟨by kernel_rfl, u5_ok o1⟩ ⟨by kernel_rfl, u5_ok o2⟩ ⟨by kernel_rfl, u5_ok o3⟩ ⟨by kernel_rfl, u5_ok o4⟩) ⟨⟨by kernel_rfl, by kernel_rfl⟩, ⟨by kernel_rfl, rfl⟩, ⟨by kernel_rfl, by kernel_rfl⟩, ⟨by kernel_rfl, by kernel_rfl⟩, ⟨congrArg (Value.int .i64) hw, rfl⟩, ⟨by kernel_rfl, by kernel_rfl⟩, ⟨congrArg (Value.int .i64) (wr _ (by omega) (by omega)), rfl⟩, trivial⟩⟩
              · have hlf := lf_up (c := (fun _ => false)) hkn hck
                have hw : IntKind.i64.wrap ((lf P.length (fun _ => false) : Int) - 1) = (lf P.length (up (fun _ => false) k) : Int) := by rw [wr _ (by omega) (by omega)]; omega
                have hl2 : 0 < lf P.length (up (fun _ => false) k) := Nat.pos_of_ne_zero fun h => hall (lf_zero.1 h)
                have e3 : (IntKind.i64.wrap ((lf P.length (fun _ => false) : Int) - 1) == 0) = false := by rw [hw]; exact beq_eq_false_iff_ne.2 (by omega)
                obtain ⟨A', hD, cT⟩ := first_inc hP hp0 hp hall
                obtain ⟨⟨b0, b1, b2, b3, b4, rfl⟩, hok⟩ := open_ok hD
                simp only [List.all_cons, List.all_nil, Bool.and_true, Bool.and_eq_true] at hok
                obtain ⟨o0, o1, o2, o3, o4⟩ := hok
                have cT2 := lend1 (c0 := ⟨52, true, caseC G size less x od⟩) (c1 := ⟨4, true, bC P.length (up (fun _ => false) k)⟩) (c2 := ⟨3, true, ints (od ++ rg P.length)⟩) cT rfl
                clear cT
                change SCall E 32 [.pointer (some ⟨3, 0, none⟩), gv p] _ (.tuple #[.agg zc.toArray, .bool false, .int .i64 0]) _ at cT2
                unfold caseC at cT2
                show Wp _ _ _ _ _ (heapOf [⟨52, true, gc G ++ [.int .i64 size, .int .i64 less, sl x od]⟩, ⟨4, true, bC P.length (fun _ => false)⟩, ⟨3, true, ints (od ++ rg P.length)⟩, ⟨66, true, [.int .i64 1, .int .i64 60, .slice none 0 0]⟩]) _
                refine Wp.seq (Wp.seq (Wp.text ?_))
                refine kp 58 (.int IntKind.i64 (↑i : Int)) ?_
                refine kp 59 (.slice (some ⟨2, 0, none⟩) (List.length od + List.length P) (List.length od + List.length P)) ?_
                refine kp 60 (.int IntKind.i64 (↑(List.length od + List.length P) : Int)) ?_
                refine kp 61 (.bool true) ?_ (hop := fun _ => by_fact d1)
                refine kp 62 (.bool true) ?_
                refine kp 63 (.int IntKind.i64 (↑(lf (List.length P) fun x => false) : Int)) ?_
                refine kp 64 (.bool true) ?_ (hop := fun _ => by_fact d2)
                refine kp 65 (.bool true) ?_
                refine kp 66 (.bool true) ?_
                refine kp 67 (.int IntKind.i64 (↑i : Int)) ?_
                refine kp 68 (.bool true) ?_ (hop := fun _ => by_fact d3)
                refine kp 69 (.bool true) ?_
                refine WpOps.nil (thenK_at (on' (Wp.skip (thenK_at (Wp.seq (Wp.block (Wp.seq (Wp.text ?_))))))))
                refine kp 72 (.slice (some ⟨2, 0, none⟩) (List.length od + List.length P) (List.length od + List.length P)) ?_
                refine kp 73 (.int IntKind.i64 (↑i : Int)) ?_
                refine kp 74 (.pointer (some (Addr.mk 2 (0 + Int.toNat (↑i : Int) * 1) none))) ?_ (hop := fun _ => o_indexAddr (a := (↑i : Int)) (bl := 2) (off := 0) (size := 1) 3 (List.length od + List.length P) g4)
                refine kp 75 (.int IntKind.i64 oi) ?_ (hop := fun _ => o_load1 (2) (0 + Int.toNat (↑i : Int) * 1) v1)
                refine kp 76 (.iface 24 (Value.iface (List.length P) (Value.iface 0 (Value.agg (List.toArray (cellsG P)))))) ?_
                refine kp 77 (.int IntKind.i64 (↑(List.length P) : Int)) ?_
                refine fr 78 28 [Value.int .i64 oi, Value.int .i64 (↑(List.length P) : Int)] ?_
                refine WpFun.of (cm) ?_
                refine kp 12 (.int IntKind.i64 (↑k : Int)) ?_
                refine WpOps.nil (thenK_at (Wp.seq (Wp.seq (Wp.text ?_))))
                refine kp 79 (.slice (some ⟨1, 0, none⟩) (List.length P) (List.length P)) ?_
                refine kp 80 (.int IntKind.i64 (↑k : Int)) ?_
                refine kp 81 (.pointer (some (Addr.mk 1 (0 + Int.toNat (↑k : Int) * 1) none))) ?_ (hop := fun _ => o_indexAddr (a := (↑k : Int)) (bl := 1) (off := 0) (size := 1) 4 (List.length P) gk)
                refine kp 82 (.bool false) ?_ (hop := fun _ => o_load1 (1) (0 + Int.toNat (↑k : Int) * 1) vk)
                refine kp 83 (.bool true) ?_
                refine WpOps.nil (thenK_at (on' (Wp.seq (Wp.text ?_))))
                refine kp 84 (.slice (some ⟨1, 0, none⟩) (List.length P) (List.length P)) ?_
                refine kp 85 (.int IntKind.i64 (↑k : Int)) ?_
                refine kp 86 (.pointer (some (Addr.mk 1 (0 + Int.toNat (↑k : Int) * 1) none))) ?_ (hop := fun _ => o_indexAddr (a := (↑k : Int)) (bl := 1) (off := 0) (size := 1) 4 (List.length P) gk)
                refine cg0 (.tuple #[]) (Heap.set (heapOf [Blk.mk 52 true [Value.iface 3 (Value.iface (List.length (Gr.fr G)) (Value.iface (Gr.fx G) (Value.agg (List.toArray (List.map (fun n => Value.int .i64 n) (Gr.fr G)))))), Value.iface 3 (Value.iface (List.length (Gr.to G)) (Value.iface (Gr.tx G) (Value.agg (List.toArray (List.map (fun n => Value.int .i64 n) (Gr.to G)))))), Value.int .i64 (Gr.number G), Value.int .i64 (Gr.life G), Value.int .i64 (Gr.at' G), Value.int .i64 (Gr.total G), Value.int .i64 (Gr.report G), Value.bool (Gr.more G), Value.bool (Gr.may G), Value.bool (Gr.wants G), Value.string (Gr.data G), Value.int .i64 size, Value.int .i64 less, Value.iface 3 (Value.iface (List.length od) (Value.iface x (Value.agg (List.toArray (List.map (fun n => Value.int .i64 n) od)))))], Blk.mk 4 true (bC (List.length P) fun x => false), Blk.mk 3 true (ints (od ++ rg (List.length P))), Blk.mk 66 true [Value.int .i64 1, Value.int .i64 60, Value.slice none 0 0]]) 1 (some (Blk.mk 4 true (List.set (bC (List.length P) fun x => false) (0 + Int.toNat (↑k : Int) * 1) (Value.bool true))))) ?_ (hop := fun _ => o_store1 (1) (0 + Int.toNat (↑k : Int) * 1) q6)
                refine WpOps.nil (thenK_at (Wp.text ?_))
                refine kp 87 (.int IntKind.i64 (↑(lf (List.length P) fun x => false) : Int)) ?_
                refine kp 88 (.int IntKind.i64 (IntKind.wrap .i64 ((↑(lf (List.length P) fun x => false) : Int) - 1))) ?_
                refine kp 8 (.int IntKind.i64 (IntKind.wrap .i64 ((↑(lf (List.length P) fun x => false) : Int) - 1))) ?_
                refine WpOps.nil (thenK_at (Wp.seq (Wp.text ?_)))
                refine kp 90 (.pointer (some ⟨3, 0, none⟩)) ?_
                refine kp 91 (.iface 24 (Value.iface (List.length P) (Value.iface 0 (Value.agg (List.toArray (cellsG P)))))) ?_
                refine kp 92 (.int IntKind.i64 (↑k : Int)) ?_
                refine kp 93 (.iface 24 (Value.iface (Int.toNat (↑k : Int) * 11) (Value.agg (List.toArray (cellsG P))))) ?_ (hop := fun _ => o_indexI (e := 24) (size := 11) (a := (↑k : Int)) gk)
                refine kp 94 (.agg (List.toArray (gc p))) ?_ (hop := fun _ => o_loadIA (Int.toNat (↑k : Int) * 11) vp)
                refine cl 95 32 [Value.pointer (some ⟨3, 0, none⟩), Value.agg (List.toArray (gc p))] ?_
                refine WpCall.enterL cT2 (by rw [e1]; exact heapOf_set _ 1 _ (by simp)) ?_
                refine kp 89 (.tuple #[Value.agg #[Value.slice none 0 0, Value.slice none 0 0, Value.int .i64 0, Value.int .i64 0, Value.int .i64 0, Value.int .i64 0, Value.int .i64 0, Value.bool false, Value.bool false, Value.bool false, Value.string ByteArray.empty], Value.bool false, Value.int .i64 0]) ?_
                refine kp 96 (.agg #[Value.slice none 0 0, Value.slice none 0 0, Value.int .i64 0, Value.int .i64 0, Value.int .i64 0, Value.int .i64 0, Value.int .i64 0, Value.bool false, Value.bool false, Value.bool false, Value.string ByteArray.empty]) ?_
                refine kp 97 (.bool false) ?_
                refine kp 98 (.int IntKind.i64 0) ?_
                refine cg 13 (.pointer (some ⟨8, 0, none⟩)) (Heap.alloc (heapOf [Blk.mk 52 true [Value.iface 3 (Value.iface (List.length (Gr.fr G)) (Value.iface (Gr.fx G) (Value.agg (List.toArray (List.map (fun n => Value.int .i64 n) (Gr.fr G)))))), Value.iface 3 (Value.iface (List.length (Gr.to G)) (Value.iface (Gr.tx G) (Value.agg (List.toArray (List.map (fun n => Value.int .i64 n) (Gr.to G)))))), Value.int .i64 (Gr.number G), Value.int .i64 (Gr.life G), Value.int .i64 (Gr.at' G), Value.int .i64 (Gr.total G), Value.int .i64 (Gr.report G), Value.bool (Gr.more G), Value.bool (Gr.may G), Value.bool (Gr.wants G), Value.string (Gr.data G), Value.int .i64 size, Value.int .i64 less, Value.iface 3 (Value.iface (List.length od) (Value.iface x (Value.agg (List.toArray (List.map (fun n => Value.int .i64 n) od)))))], Blk.mk 4 true (bC (List.length P) (up (fun x => false) k)), Blk.mk 3 true (ints (od ++ rg (List.length P))), u5 b0, u5 b1, u5 b2, u5 b3, u5 b4]) (Blk.mk 24 true zc)) ?_
                refine ld (.tuple #[]) (8) (Blk.mk 24 true [Value.slice none 0 0, Value.slice none 0 0, Value.int .i64 0, Value.int .i64 0, Value.int .i64 0, Value.int .i64 0, Value.int .i64 0, Value.bool false, Value.bool false, Value.bool false, Value.string ByteArray.empty]) ?_
                refine kp 14 (.bool false) ?_
                refine kp 15 (.int IntKind.i64 0) ?_
                refine WpOps.nil (thenK_at (Wp.seq ?_))
                refine Wp.region (by kernel_rfl) ?_
                refine kp 99 (.int IntKind.i64 0) ?_
                refine kp 100 (.bool false) ?_
                refine kp 101 (.bool false) ?_
                refine kp 102 (.bool false) ?_
                refine kp 103 (.int IntKind.i64 (IntKind.wrap .i64 ((↑(lf (List.length P) fun x => false) : Int) - 1))) ?_
                refine kp 104 (.bool false) ?_ (hop := fun _ => by_fact e3)
                refine kp 105 (.bool false) ?_
                refine kp 106 (.bool false) ?_ (hop := fun _ => o_pickF hck)
                refine kp 107 (.bool false) ?_
                refine kp 108 (.bool false) ?_
                refine kp 109 (.bool false) ?_
                refine um 110 ?_
                refine um 111 ?_
                refine um 112 ?_
                refine um 113 ?_
                refine um 114 ?_
                refine um 115 ?_
                refine um 116 ?_
                refine kp 117 (.bool false) ?_ (hop := fun _ => o_pickF hck)
                refine kp 118 (.bool false) ?_ (hop := fun _ => o_pickF hck)
                refine WpOps.nil (thenK_at (off' (Wp.skip (blockK_norm (thenK_at (Wp.text ?_))))))
                refine kp 70 (.int IntKind.i64 (↑i : Int)) ?_
                refine kp 71 (.int IntKind.i64 (IntKind.wrap .i64 ((↑i : Int) + 1))) ?_
                refine kp 11 (.int IntKind.i64 (IntKind.wrap .i64 ((↑i : Int) + 1))) ?_
                refine WpOps.nil (thenK_at ?_)
                exact ⟨(i + 1, (up (fun _ => false) k), [b0, b1, b2, b3, b4]), by dsimp only; omega, ⟨by dsimp only; omega, .inr (.inl ⟨hl2, hD⟩)⟩, View.same [⟨52, true, caseC G size less x od⟩, ⟨4, true, bC P.length (up (fun _ => false) k)⟩, ⟨3, true, ints (od ++ rg P.length)⟩, u5 b0, u5 b1, u5 b2, u5 b3, u5 b4] _ (Nat.zero_le _) (pre8 ⟨by kernel_rfl, by kernel_rfl⟩ ⟨by kernel_rfl, okCs_flat (bC_flat _ _)⟩ ⟨by kernel_rfl, okCs_flat (ints_fl _)⟩ ⟨by kernel_rfl, u5_ok o0⟩ ⟨by kernel_rfl, u5_ok o1⟩ ⟨by kernel_rfl, u5_ok o2⟩ ⟨by kernel_rfl, u5_ok o3⟩ ⟨by kernel_rfl, u5_ok o4⟩) ⟨⟨by kernel_rfl, by kernel_rfl⟩, ⟨by kernel_rfl, rfl⟩, ⟨by kernel_rfl, by kernel_rfl⟩, ⟨by kernel_rfl, by kernel_rfl⟩, ⟨congrArg (Value.int .i64) hw, rfl⟩, ⟨by kernel_rfl, by kernel_rfl⟩, ⟨congrArg (Value.int .i64) (wr _ (by omega) (by omega)), rfl⟩, trivial⟩⟩
            · obtain ⟨⟨a0, a1, a2, a3, a4, rfl⟩, hokA⟩ := open_ok hO
              cases hck : c k with
              | true =>
                rw [hck] at vk
                have hall : ¬ ∀ j, j < P.length → up c k j = true := by
                  rw [up_self hck]
                  intro h
                  have := lf_zero.2 h
                  omega
                have e3 : ((lf P.length c : Int) == 0) = false := beq_eq_false_iff_ne.2 (by omega)
                obtain ⟨A', hD, cT⟩ := step_inc hP hp0 hO hp hall
                rw [up_self hck] at hD
                obtain ⟨⟨b0, b1, b2, b3, b4, rfl⟩, hok⟩ := open_ok hD
                simp only [List.all_cons, List.all_nil, Bool.and_true, Bool.and_eq_true] at hok
                obtain ⟨o0, o1, o2, o3, o4⟩ := hok
                have cT2 := lend5 (c0 := ⟨52, true, caseC G size less x od⟩) (c1 := ⟨4, true, bC P.length c⟩) (c2 := ⟨3, true, ints (od ++ rg P.length)⟩) cT hokA rfl
                clear cT
                change SCall E 32 [.pointer (some ⟨3, 0, none⟩), gv p] _ (.tuple #[.agg zc.toArray, .bool false, .int .i64 0]) _ at cT2
                unfold caseC at cT2
                show Wp _ _ _ _ _ (heapOf [⟨52, true, gc G ++ [.int .i64 size, .int .i64 less, sl x od]⟩, ⟨4, true, bC P.length c⟩, ⟨3, true, ints (od ++ rg P.length)⟩, u5 a0, u5 a1, u5 a2, u5 a3, u5 a4]) _
                refine Wp.seq (Wp.seq (Wp.text ?_))
                refine kp 58 (.int IntKind.i64 (↑i : Int)) ?_
                refine kp 59 (.slice (some ⟨2, 0, none⟩) (List.length od + List.length P) (List.length od + List.length P)) ?_
                refine kp 60 (.int IntKind.i64 (↑(List.length od + List.length P) : Int)) ?_
                refine kp 61 (.bool true) ?_ (hop := fun _ => by_fact d1)
                refine kp 62 (.bool true) ?_
                refine kp 63 (.int IntKind.i64 (↑(lf (List.length P) c) : Int)) ?_
                refine kp 64 (.bool true) ?_ (hop := fun _ => by_fact d2)
                refine kp 65 (.bool true) ?_
                refine kp 66 (.bool true) ?_
                refine kp 67 (.int IntKind.i64 (↑i : Int)) ?_
                refine kp 68 (.bool true) ?_ (hop := fun _ => by_fact d3)
                refine kp 69 (.bool true) ?_
                refine WpOps.nil (thenK_at (on' (Wp.skip (thenK_at (Wp.seq (Wp.block (Wp.seq (Wp.text ?_))))))))
                refine kp 72 (.slice (some ⟨2, 0, none⟩) (List.length od + List.length P) (List.length od + List.length P)) ?_
                refine kp 73 (.int IntKind.i64 (↑i : Int)) ?_
                refine kp 74 (.pointer (some (Addr.mk 2 (0 + Int.toNat (↑i : Int) * 1) none))) ?_ (hop := fun _ => o_indexAddr (a := (↑i : Int)) (bl := 2) (off := 0) (size := 1) 3 (List.length od + List.length P) g4)
                refine kp 75 (.int IntKind.i64 oi) ?_ (hop := fun _ => o_load1 (2) (0 + Int.toNat (↑i : Int) * 1) v1)
                refine kp 76 (.iface 24 (Value.iface (List.length P) (Value.iface 0 (Value.agg (List.toArray (cellsG P)))))) ?_
                refine kp 77 (.int IntKind.i64 (↑(List.length P) : Int)) ?_
                refine fr 78 28 [Value.int .i64 oi, Value.int .i64 (↑(List.length P) : Int)] ?_
                refine WpFun.of (cm) ?_
                refine kp 12 (.int IntKind.i64 (↑k : Int)) ?_
                refine WpOps.nil (thenK_at (Wp.seq (Wp.seq (Wp.text ?_))))
                refine kp 79 (.slice (some ⟨1, 0, none⟩) (List.length P) (List.length P)) ?_
                refine kp 80 (.int IntKind.i64 (↑k : Int)) ?_
                refine kp 81 (.pointer (some (Addr.mk 1 (0 + Int.toNat (↑k : Int) * 1) none))) ?_ (hop := fun _ => o_indexAddr (a := (↑k : Int)) (bl := 1) (off := 0) (size := 1) 4 (List.length P) gk)
                refine kp 82 (.bool true) ?_ (hop := fun _ => o_load1 (1) (0 + Int.toNat (↑k : Int) * 1) vk)
                refine kp 83 (.bool false) ?_
                refine WpOps.nil (thenK_at (off' (Wp.skip (thenK_at (Wp.seq (Wp.text ?_))))))
                refine kp 90 (.pointer (some ⟨3, 0, none⟩)) ?_
                refine kp 91 (.iface 24 (Value.iface (List.length P) (Value.iface 0 (Value.agg (List.toArray (cellsG P)))))) ?_
                refine kp 92 (.int IntKind.i64 (↑k : Int)) ?_
                refine kp 93 (.iface 24 (Value.iface (Int.toNat (↑k : Int) * 11) (Value.agg (List.toArray (cellsG P))))) ?_ (hop := fun _ => o_indexI (e := 24) (size := 11) (a := (↑k : Int)) gk)
                refine kp 94 (.agg (List.toArray (gc p))) ?_ (hop := fun _ => o_loadIA (Int.toNat (↑k : Int) * 11) vp)
                refine cl 95 32 [Value.pointer (some ⟨3, 0, none⟩), Value.agg (List.toArray (gc p))] ?_
                refine WpCall.enterL cT2 rfl ?_
                refine kp 89 (.tuple #[Value.agg #[Value.slice none 0 0, Value.slice none 0 0, Value.int .i64 0, Value.int .i64 0, Value.int .i64 0, Value.int .i64 0, Value.int .i64 0, Value.bool false, Value.bool false, Value.bool false, Value.string ByteArray.empty], Value.bool false, Value.int .i64 0]) ?_
                refine kp 96 (.agg #[Value.slice none 0 0, Value.slice none 0 0, Value.int .i64 0, Value.int .i64 0, Value.int .i64 0, Value.int .i64 0, Value.int .i64 0, Value.bool false, Value.bool false, Value.bool false, Value.string ByteArray.empty]) ?_
                refine kp 97 (.bool false) ?_
                refine kp 98 (.int IntKind.i64 0) ?_
                refine cg 13 (.pointer (some ⟨8, 0, none⟩)) (Heap.alloc (heapOf [Blk.mk 52 true [Value.iface 3 (Value.iface (List.length (Gr.fr G)) (Value.iface (Gr.fx G) (Value.agg (List.toArray (List.map (fun n => Value.int .i64 n) (Gr.fr G)))))), Value.iface 3 (Value.iface (List.length (Gr.to G)) (Value.iface (Gr.tx G) (Value.agg (List.toArray (List.map (fun n => Value.int .i64 n) (Gr.to G)))))), Value.int .i64 (Gr.number G), Value.int .i64 (Gr.life G), Value.int .i64 (Gr.at' G), Value.int .i64 (Gr.total G), Value.int .i64 (Gr.report G), Value.bool (Gr.more G), Value.bool (Gr.may G), Value.bool (Gr.wants G), Value.string (Gr.data G), Value.int .i64 size, Value.int .i64 less, Value.iface 3 (Value.iface (List.length od) (Value.iface x (Value.agg (List.toArray (List.map (fun n => Value.int .i64 n) od)))))], Blk.mk 4 true (bC (List.length P) c), Blk.mk 3 true (ints (od ++ rg (List.length P))), u5 b0, u5 b1, u5 b2, u5 b3, u5 b4]) (Blk.mk 24 true zc)) ?_
                refine ld (.tuple #[]) (8) (Blk.mk 24 true [Value.slice none 0 0, Value.slice none 0 0, Value.int .i64 0, Value.int .i64 0, Value.int .i64 0, Value.int .i64 0, Value.int .i64 0, Value.bool false, Value.bool false, Value.bool false, Value.string ByteArray.empty]) ?_
                refine kp 14 (.bool false) ?_
                refine kp 15 (.int IntKind.i64 0) ?_
                refine WpOps.nil (thenK_at (Wp.seq ?_))
                refine Wp.region (by kernel_rfl) ?_
                refine kp 99 (.int IntKind.i64 0) ?_
                refine kp 100 (.bool false) ?_
                refine kp 101 (.bool false) ?_
                refine kp 102 (.bool false) ?_
                refine kp 103 (.int IntKind.i64 (↑(lf (List.length P) c) : Int)) ?_
                refine kp 104 (.bool false) ?_ (hop := fun _ => by_fact e3)
                refine kp 105 (.bool false) ?_
                refine kp 106 (.bool false) ?_
                refine kp 107 (.bool false) ?_
                refine kp 108 (.bool false) ?_
                refine kp 109 (.bool false) ?_
                refine um 110 ?_
                refine um 111 ?_
                refine um 112 ?_
                refine um 113 ?_
                refine um 114 ?_
                refine um 115 ?_
                refine um 116 ?_
                refine kp 117 (.bool false) ?_
                refine kp 118 (.bool false) ?_
                refine WpOps.nil (thenK_at (off' (Wp.skip (blockK_norm (thenK_at (Wp.text ?_))))))
                refine kp 70 (.int IntKind.i64 (↑i : Int)) ?_
                refine kp 71 (.int IntKind.i64 (IntKind.wrap .i64 ((↑i : Int) + 1))) ?_
                refine kp 11 (.int IntKind.i64 (IntKind.wrap .i64 ((↑i : Int) + 1))) ?_
                refine WpOps.nil (thenK_at ?_)
                exact ⟨(i + 1, c, [b0, b1, b2, b3, b4]), by dsimp only; omega, ⟨by dsimp only; omega, .inr (.inl ⟨h2, hD⟩)⟩, View.same [⟨52, true, caseC G size less x od⟩, ⟨4, true, bC P.length c⟩, ⟨3, true, ints (od ++ rg P.length)⟩, u5 b0, u5 b1, u5 b2, u5 b3, u5 b4] _ (Nat.zero_le _) (pre8 ⟨by kernel_rfl, by kernel_rfl⟩ ⟨by kernel_rfl, okCs_flat (bC_flat _ _)⟩ ⟨by kernel_rfl, okCs_flat (ints_fl _)⟩ ⟨by kernel_rfl, u5_ok o0⟩ ⟨by kernel_rfl, u5_ok o1⟩ ⟨by kernel_rfl, u5_ok o2⟩ ⟨by kernel_rfl, u5_ok o3⟩ ⟨by kernel_rfl, u5_ok o4⟩) ⟨⟨by kernel_rfl, by kernel_rfl⟩, ⟨by kernel_rfl, rfl⟩, ⟨by kernel_rfl, by kernel_rfl⟩, ⟨by kernel_rfl, by kernel_rfl⟩, ⟨by kernel_rfl, rfl⟩, ⟨by kernel_rfl, by kernel_rfl⟩, ⟨congrArg (Value.int .i64) (wr _ (by omega) (by omega)), rfl⟩, trivial⟩⟩
              | false =>
                rw [hck] at vk
                by_cases hall : ∀ j, j < P.length → up c k j = true
                · have hlf := lf_up (c := c) hkn hck
                  have hw : IntKind.i64.wrap ((lf P.length c : Int) - 1) = (lf P.length (up c k) : Int) := by rw [wr _ (by omega) (by omega)]; omega
                  have hl2 : lf P.length (up c k) = 0 := lf_zero.2 hall
                  have e3 : (IntKind.i64.wrap ((lf P.length c : Int) - 1) == 0) = true := by rw [hw, hl2]; rfl
                  obtain ⟨A', hD, cT⟩ := step_done hP hp0 hO hp hall
                  obtain ⟨⟨b0, b1, b2, b3, b4, rfl⟩, hok⟩ := done_ok hD
                  simp only [List.all_cons, List.all_nil, Bool.and_true, Bool.and_eq_true] at hok
                  obtain ⟨o0, o1, o2, o3, o4⟩ := hok
                  have cT2 := lend5 (c0 := ⟨52, true, caseC G size less x od⟩) (c1 := ⟨4, true, bC P.length (up c k)⟩) (c2 := ⟨3, true, ints (od ++ rg P.length)⟩) cT hokA rfl
                  clear cT
                  change SCall E 32 [.pointer (some ⟨3, 0, none⟩), gv p] _ (.tuple #[gv (whole G.data (ownG p0)), .bool true, .int .i64 0]) _ at cT2
                  unfold caseC at cT2
                  show Wp _ _ _ _ _ (heapOf [⟨52, true, gc G ++ [.int .i64 size, .int .i64 less, sl x od]⟩, ⟨4, true, bC P.length c⟩, ⟨3, true, ints (od ++ rg P.length)⟩, u5 a0, u5 a1, u5 a2, u5 a3, u5 a4]) _
                  refine Wp.seq (Wp.seq (Wp.text ?_))
                  refine kp 58 (.int IntKind.i64 (↑i : Int)) ?_
                  refine kp 59 (.slice (some ⟨2, 0, none⟩) (List.length od + List.length P) (List.length od + List.length P)) ?_
                  refine kp 60 (.int IntKind.i64 (↑(List.length od + List.length P) : Int)) ?_
                  refine kp 61 (.bool true) ?_ (hop := fun _ => by_fact d1)
                  refine kp 62 (.bool true) ?_
                  refine kp 63 (.int IntKind.i64 (↑(lf (List.length P) c) : Int)) ?_
                  refine kp 64 (.bool true) ?_ (hop := fun _ => by_fact d2)
                  refine kp 65 (.bool true) ?_
                  refine kp 66 (.bool true) ?_
                  refine kp 67 (.int IntKind.i64 (↑i : Int)) ?_
                  refine kp 68 (.bool true) ?_ (hop := fun _ => by_fact d3)
                  refine kp 69 (.bool true) ?_
                  refine WpOps.nil (thenK_at (on' (Wp.skip (thenK_at (Wp.seq (Wp.block (Wp.seq (Wp.text ?_))))))))
                  refine kp 72 (.slice (some ⟨2, 0, none⟩) (List.length od + List.length P) (List.length od + List.length P)) ?_
                  refine kp 73 (.int IntKind.i64 (↑i : Int)) ?_
                  refine kp 74 (.pointer (some (Addr.mk 2 (0 + Int.toNat (↑i : Int) * 1) none))) ?_ (hop := fun _ => o_indexAddr (a := (↑i : Int)) (bl := 2) (off := 0) (size := 1) 3 (List.length od + List.length P) g4)
                  refine kp 75 (.int IntKind.i64 oi) ?_ (hop := fun _ => o_load1 (2) (0 + Int.toNat (↑i : Int) * 1) v1)
                  refine kp 76 (.iface 24 (Value.iface (List.length P) (Value.iface 0 (Value.agg (List.toArray (cellsG P)))))) ?_
                  refine kp 77 (.int IntKind.i64 (↑(List.length P) : Int)) ?_
                  refine fr 78 28 [Value.int .i64 oi, Value.int .i64 (↑(List.length P) : Int)] ?_
                  refine WpFun.of (cm) ?_
                  refine kp 12 (.int IntKind.i64 (↑k : Int)) ?_
                  refine WpOps.nil (thenK_at (Wp.seq (Wp.seq (Wp.text ?_))))
                  refine kp 79 (.slice (some ⟨1, 0, none⟩) (List.length P) (List.length P)) ?_
                  refine kp 80 (.int IntKind.i64 (↑k : Int)) ?_
                  refine kp 81 (.pointer (some (Addr.mk 1 (0 + Int.toNat (↑k : Int) * 1) none))) ?_ (hop := fun _ => o_indexAddr (a := (↑k : Int)) (bl := 1) (off := 0) (size := 1) 4 (List.length P) gk)
                  refine kp 82 (.bool false) ?_ (hop := fun _ => o_load1 (1) (0 + Int.toNat (↑k : Int) * 1) vk)
                  refine kp 83 (.bool true) ?_
                  refine WpOps.nil (thenK_at (on' (Wp.seq (Wp.text ?_))))
                  refine kp 84 (.slice (some ⟨1, 0, none⟩) (List.length P) (List.length P)) ?_
                  refine kp 85 (.int IntKind.i64 (↑k : Int)) ?_
                  refine kp 86 (.pointer (some (Addr.mk 1 (0 + Int.toNat (↑k : Int) * 1) none))) ?_ (hop := fun _ => o_indexAddr (a := (↑k : Int)) (bl := 1) (off := 0) (size := 1) 4 (List.length P) gk)
                  refine cg0 (.tuple #[]) (Heap.set (heapOf [Blk.mk 52 true [Value.iface 3 (Value.iface (List.length (Gr.fr G)) (Value.iface (Gr.fx G) (Value.agg (List.toArray (List.map (fun n => Value.int .i64 n) (Gr.fr G)))))), Value.iface 3 (Value.iface (List.length (Gr.to G)) (Value.iface (Gr.tx G) (Value.agg (List.toArray (List.map (fun n => Value.int .i64 n) (Gr.to G)))))), Value.int .i64 (Gr.number G), Value.int .i64 (Gr.life G), Value.int .i64 (Gr.at' G), Value.int .i64 (Gr.total G), Value.int .i64 (Gr.report G), Value.bool (Gr.more G), Value.bool (Gr.may G), Value.bool (Gr.wants G), Value.string (Gr.data G), Value.int .i64 size, Value.int .i64 less, Value.iface 3 (Value.iface (List.length od) (Value.iface x (Value.agg (List.toArray (List.map (fun n => Value.int .i64 n) od)))))], Blk.mk 4 true (bC (List.length P) c), Blk.mk 3 true (ints (od ++ rg (List.length P))), u5 a0, u5 a1, u5 a2, u5 a3, u5 a4]) 1 (some (Blk.mk 4 true (List.set (bC (List.length P) c) (0 + Int.toNat (↑k : Int) * 1) (Value.bool true))))) ?_ (hop := fun _ => o_store1 (1) (0 + Int.toNat (↑k : Int) * 1) q6)
                  refine WpOps.nil (thenK_at (Wp.text ?_))
                  refine kp 87 (.int IntKind.i64 (↑(lf (List.length P) c) : Int)) ?_
                  refine kp 88 (.int IntKind.i64 (IntKind.wrap .i64 ((↑(lf (List.length P) c) : Int) - 1))) ?_
                  refine kp 8 (.int IntKind.i64 (IntKind.wrap .i64 ((↑(lf (List.length P) c) : Int) - 1))) ?_
                  refine WpOps.nil (thenK_at (Wp.seq (Wp.text ?_)))
                  refine kp 90 (.pointer (some ⟨3, 0, none⟩)) ?_
                  refine kp 91 (.iface 24 (Value.iface (List.length P) (Value.iface 0 (Value.agg (List.toArray (cellsG P)))))) ?_
                  refine kp 92 (.int IntKind.i64 (↑k : Int)) ?_
                  refine kp 93 (.iface 24 (Value.iface (Int.toNat (↑k : Int) * 11) (Value.agg (List.toArray (cellsG P))))) ?_ (hop := fun _ => o_indexI (e := 24) (size := 11) (a := (↑k : Int)) gk)
                  refine kp 94 (.agg (List.toArray (gc p))) ?_ (hop := fun _ => o_loadIA (Int.toNat (↑k : Int) * 11) vp)
                  refine cl 95 32 [Value.pointer (some ⟨3, 0, none⟩), Value.agg (List.toArray (gc p))] ?_
                  refine WpCall.enterL cT2 (by rw [e1]; exact heapOf_set _ 1 _ (by simp)) ?_
                  refine kp 89 (.tuple #[gv (whole (Gr.data G) (ownG p0)), Value.bool true, Value.int .i64 0]) ?_
                  refine kp 96 (.agg (List.toArray (gc (whole (Gr.data G) (ownG p0))))) ?_
                  refine kp 97 (.bool true) ?_
                  refine kp 98 (.int IntKind.i64 0) ?_
                  refine cg 13 (.pointer (some ⟨8, 0, none⟩)) (Heap.alloc (heapOf [Blk.mk 52 true [Value.iface 3 (Value.iface (List.length (Gr.fr G)) (Value.iface (Gr.fx G) (Value.agg (List.toArray (List.map (fun n => Value.int .i64 n) (Gr.fr G)))))), Value.iface 3 (Value.iface (List.length (Gr.to G)) (Value.iface (Gr.tx G) (Value.agg (List.toArray (List.map (fun n => Value.int .i64 n) (Gr.to G)))))), Value.int .i64 (Gr.number G), Value.int .i64 (Gr.life G), Value.int .i64 (Gr.at' G), Value.int .i64 (Gr.total G), Value.int .i64 (Gr.report G), Value.bool (Gr.more G), Value.bool (Gr.may G), Value.bool (Gr.wants G), Value.string (Gr.data G), Value.int .i64 size, Value.int .i64 less, Value.iface 3 (Value.iface (List.length od) (Value.iface x (Value.agg (List.toArray (List.map (fun n => Value.int .i64 n) od)))))], Blk.mk 4 true (bC (List.length P) (up c k)), Blk.mk 3 true (ints (od ++ rg (List.length P))), u5 b0, u5 b1, u5 b2, u5 b3, u5 b4]) (Blk.mk 24 true zc)) ?_
                  refine ld (.tuple #[]) (8) (Blk.mk 24 true [Value.iface 3 (Value.iface (List.length (Gr.fr (whole (Gr.data G) (ownG p0)))) (Value.iface (Gr.fx (whole (Gr.data G) (ownG p0))) (Value.agg (List.toArray (List.map (fun n => Value.int .i64 n) (Gr.fr (whole (Gr.data G) (ownG p0)))))))), Value.iface 3 (Value.iface (List.length (Gr.to (whole (Gr.data G) (ownG p0)))) (Value.iface (Gr.tx (whole (Gr.data G) (ownG p0))) (Value.agg (List.toArray (List.map (fun n => Value.int .i64 n) (Gr.to (whole (Gr.data G) (ownG p0)))))))), Value.int .i64 (Gr.number (whole (Gr.data G) (ownG p0))), Value.int .i64 (Gr.life (whole (Gr.data G) (ownG p0))), Value.int .i64 (Gr.at' (whole (Gr.data G) (ownG p0))), Value.int .i64 (Gr.total (whole (Gr.data G) (ownG p0))), Value.int .i64 (Gr.report (whole (Gr.data G) (ownG p0))), Value.bool (Gr.more (whole (Gr.data G) (ownG p0))), Value.bool (Gr.may (whole (Gr.data G) (ownG p0))), Value.bool (Gr.wants (whole (Gr.data G) (ownG p0))), Value.string (Gr.data (whole (Gr.data G) (ownG p0)))]) ?_
                  refine kp 14 (.bool true) ?_
                  refine kp 15 (.int IntKind.i64 0) ?_
                  refine WpOps.nil (thenK_at (Wp.seq ?_))
                  refine Wp.region (by kernel_rfl) ?_
                  refine kp 99 (.int IntKind.i64 0) ?_
                  refine kp 100 (.bool false) ?_
                  refine kp 101 (.bool false) ?_
                  refine kp 102 (.bool true) ?_
                  refine kp 103 (.int IntKind.i64 (IntKind.wrap .i64 ((↑(lf (List.length P) c) : Int) - 1))) ?_
                  refine kp 104 (.bool true) ?_ (hop := fun _ => by_fact e3)
                  refine kp 105 (.bool false) ?_
                  refine kp 106 (.bool false) ?_
                  refine kp 107 (.bool false) ?_
                  refine kp 108 (.bool true) ?_
                  refine kp 109 (.bool true) ?_
                  refine kp 110 (.agg #[Value.iface 3 (Value.iface (List.length (Gr.fr (whole (Gr.data G) (ownG p0)))) (Value.iface (Gr.fx (whole (Gr.data G) (ownG p0))) (Value.agg (List.toArray (List.map (fun n => Value.int .i64 n) (Gr.fr (whole (Gr.data G) (ownG p0)))))))), Value.iface 3 (Value.iface (List.length (Gr.to (whole (Gr.data G) (ownG p0)))) (Value.iface (Gr.tx (whole (Gr.data G) (ownG p0))) (Value.agg (List.toArray (List.map (fun n => Value.int .i64 n) (Gr.to (whole (Gr.data G) (ownG p0)))))))), Value.int .i64 (Gr.number (whole (Gr.data G) (ownG p0))), Value.int .i64 (Gr.life (whole (Gr.data G) (ownG p0))), Value.int .i64 (Gr.at' (whole (Gr.data G) (ownG p0))), Value.int .i64 (Gr.total (whole (Gr.data G) (ownG p0))), Value.int .i64 (Gr.report (whole (Gr.data G) (ownG p0))), Value.bool (Gr.more (whole (Gr.data G) (ownG p0))), Value.bool (Gr.may (whole (Gr.data G) (ownG p0))), Value.bool (Gr.wants (whole (Gr.data G) (ownG p0))), Value.string (Gr.data (whole (Gr.data G) (ownG p0)))]) ?_
                  refine fr 111 16 [Value.agg #[Value.iface 3 (Value.iface (List.length (Gr.fr (whole (Gr.data G) (ownG p0)))) (Value.iface (Gr.fx (whole (Gr.data G) (ownG p0))) (Value.agg (List.toArray (List.map (fun n => Value.int .i64 n) (Gr.fr (whole (Gr.data G) (ownG p0)))))))), Value.iface 3 (Value.iface (List.length (Gr.to (whole (Gr.data G) (ownG p0)))) (Value.iface (Gr.tx (whole (Gr.data G) (ownG p0))) (Value.agg (List.toArray (List.map (fun n => Value.int .i64 n) (Gr.to (whole (Gr.data G) (ownG p0)))))))), Value.int .i64 (Gr.number (whole (Gr.data G) (ownG p0))), Value.int .i64 (Gr.life (whole (Gr.data G) (ownG p0))), Value.int .i64 (Gr.at' (whole (Gr.data G) (ownG p0))), Value.int .i64 (Gr.total (whole (Gr.data G) (ownG p0))), Value.int .i64 (Gr.report (whole (Gr.data G) (ownG p0))), Value.bool (Gr.more (whole (Gr.data G) (ownG p0))), Value.bool (Gr.may (whole (Gr.data G) (ownG p0))), Value.bool (Gr.wants (whole (Gr.data G) (ownG p0))), Value.string (Gr.data (whole (Gr.data G) (ownG p0)))]] ?_
                  refine WpFun.of (ci3) ?_
                  refine kp 112 (.pointer (some ⟨0, 0, none⟩)) ?_
                  refine kp 113 (gv G) ?_
                  refine fr 114 16 [gv G] ?_
                  refine WpFun.of (ci1) ?_
                  refine fr 115 25 [Value.agg (List.toArray (gc (toR G))), Value.agg (List.toArray (gc (toR G)))] ?_
                  refine WpFun.of (ci2) ?_
                  refine kp 116 (.bool false) ?_
                  refine kp 117 (.bool false) ?_
                  refine kp 118 (.bool false) ?_
                  refine WpOps.nil (thenK_at (off' (Wp.skip (blockK_norm (thenK_at (Wp.text ?_))))))
                  refine kp 70 (.int IntKind.i64 (↑i : Int)) ?_
                  refine kp 71 (.int IntKind.i64 (IntKind.wrap .i64 ((↑i : Int) + 1))) ?_
                  refine kp 11 (.int IntKind.i64 (IntKind.wrap .i64 ((↑i : Int) + 1))) ?_
                  refine WpOps.nil (thenK_at ?_)
                  exact ⟨(i + 1, (up c k), [b0, b1, b2, b3, b4]), by dsimp only; omega, ⟨by dsimp only; omega, .inr (.inr ⟨hl2, hD⟩)⟩, View.same [⟨52, true, caseC G size less x od⟩, ⟨4, true, bC P.length (up c k)⟩, ⟨3, true, ints (od ++ rg P.length)⟩, u5 b0, u5 b1, u5 b2, u5 b3, u5 b4] _ (Nat.zero_le _) (pre8 ⟨by kernel_rfl, by kernel_rfl⟩ ⟨by kernel_rfl, okCs_flat (bC_flat _ _)⟩ ⟨by kernel_rfl, okCs_flat (ints_fl _)⟩ ⟨by kernel_rfl, u5_ok o0⟩ ⟨by kernel_rfl, u5_ok o1⟩ ⟨by kernel_rfl, u5_ok o2⟩ ⟨by kernel_rfl, u5_ok o3⟩ ⟨by kernel_rfl, u5_ok o4⟩) ⟨⟨by kernel_rfl, by kernel_rfl⟩, ⟨by kernel_rfl, rfl⟩, ⟨by kernel_rfl, by kernel_rfl⟩, ⟨by kernel_rfl, by kernel_rfl⟩, ⟨congrArg (Value.int .i64) hw, rfl⟩, ⟨by kernel_rfl, by kernel_rfl⟩, ⟨congrArg (Value.int .i64) (wr _ (by omega) (by omega)), rfl⟩, trivial⟩⟩
                · have hlf := lf_up (c := c) hkn hck
                  have hw : IntKind.i64.wrap ((lf P.length c : Int) - 1) = (lf P.length (up c k) : Int) := by rw [wr _ (by omega) (by omega)]; omega
                  have hl2 : 0 < lf P.length (up c k) := Nat.pos_of_ne_zero fun h => hall (lf_zero.1 h)
                  have e3 : (IntKind.i64.wrap ((lf P.length c : Int) - 1) == 0) = false := by rw [hw]; exact beq_eq_false_iff_ne.2 (by omega)
                  obtain ⟨A', hD, cT⟩ := step_inc hP hp0 hO hp hall
                  obtain ⟨⟨b0, b1, b2, b3, b4, rfl⟩, hok⟩ := open_ok hD
                  simp only [List.all_cons, List.all_nil, Bool.and_true, Bool.and_eq_true] at hok
                  obtain ⟨o0, o1, o2, o3, o4⟩ := hok
                  have cT2 := lend5 (c0 := ⟨52, true, caseC G size less x od⟩) (c1 := ⟨4, true, bC P.length (up c k)⟩) (c2 := ⟨3, true, ints (od ++ rg P.length)⟩) cT hokA rfl
                  clear cT
                  change SCall E 32 [.pointer (some ⟨3, 0, none⟩), gv p] _ (.tuple #[.agg zc.toArray, .bool false, .int .i64 0]) _ at cT2
                  unfold caseC at cT2
                  show Wp _ _ _ _ _ (heapOf [⟨52, true, gc G ++ [.int .i64 size, .int .i64 less, sl x od]⟩, ⟨4, true, bC P.length c⟩, ⟨3, true, ints (od ++ rg P.length)⟩, u5 a0, u5 a1, u5 a2, u5 a3, u5 a4]) _
                  refine Wp.seq (Wp.seq (Wp.text ?_))
                  refine kp 58 (.int IntKind.i64 (↑i : Int)) ?_
                  refine kp 59 (.slice (some ⟨2, 0, none⟩) (List.length od + List.length P) (List.length od + List.length P)) ?_
                  refine kp 60 (.int IntKind.i64 (↑(List.length od + List.length P) : Int)) ?_
                  refine kp 61 (.bool true) ?_ (hop := fun _ => by_fact d1)
                  refine kp 62 (.bool true) ?_
                  refine kp 63 (.int IntKind.i64 (↑(lf (List.length P) c) : Int)) ?_
                  refine kp 64 (.bool true) ?_ (hop := fun _ => by_fact d2)
                  refine kp 65 (.bool true) ?_
                  refine kp 66 (.bool true) ?_
                  refine kp 67 (.int IntKind.i64 (↑i : Int)) ?_
                  refine kp 68 (.bool true) ?_ (hop := fun _ => by_fact d3)
                  refine kp 69 (.bool true) ?_
                  refine WpOps.nil (thenK_at (on' (Wp.skip (thenK_at (Wp.seq (Wp.block (Wp.seq (Wp.text ?_))))))))
                  refine kp 72 (.slice (some ⟨2, 0, none⟩) (List.length od + List.length P) (List.length od + List.length P)) ?_
                  refine kp 73 (.int IntKind.i64 (↑i : Int)) ?_
                  refine kp 74 (.pointer (some (Addr.mk 2 (0 + Int.toNat (↑i : Int) * 1) none))) ?_ (hop := fun _ => o_indexAddr (a := (↑i : Int)) (bl := 2) (off := 0) (size := 1) 3 (List.length od + List.length P) g4)
                  refine kp 75 (.int IntKind.i64 oi) ?_ (hop := fun _ => o_load1 (2) (0 + Int.toNat (↑i : Int) * 1) v1)
                  refine kp 76 (.iface 24 (Value.iface (List.length P) (Value.iface 0 (Value.agg (List.toArray (cellsG P)))))) ?_
                  refine kp 77 (.int IntKind.i64 (↑(List.length P) : Int)) ?_
                  refine fr 78 28 [Value.int .i64 oi, Value.int .i64 (↑(List.length P) : Int)] ?_
                  refine WpFun.of (cm) ?_
                  refine kp 12 (.int IntKind.i64 (↑k : Int)) ?_
                  refine WpOps.nil (thenK_at (Wp.seq (Wp.seq (Wp.text ?_))))
                  refine kp 79 (.slice (some ⟨1, 0, none⟩) (List.length P) (List.length P)) ?_
                  refine kp 80 (.int IntKind.i64 (↑k : Int)) ?_
                  refine kp 81 (.pointer (some (Addr.mk 1 (0 + Int.toNat (↑k : Int) * 1) none))) ?_ (hop := fun _ => o_indexAddr (a := (↑k : Int)) (bl := 1) (off := 0) (size := 1) 4 (List.length P) gk)
                  refine kp 82 (.bool false) ?_ (hop := fun _ => o_load1 (1) (0 + Int.toNat (↑k : Int) * 1) vk)
                  refine kp 83 (.bool true) ?_
                  refine WpOps.nil (thenK_at (on' (Wp.seq (Wp.text ?_))))
                  refine kp 84 (.slice (some ⟨1, 0, none⟩) (List.length P) (List.length P)) ?_
                  refine kp 85 (.int IntKind.i64 (↑k : Int)) ?_
                  refine kp 86 (.pointer (some (Addr.mk 1 (0 + Int.toNat (↑k : Int) * 1) none))) ?_ (hop := fun _ => o_indexAddr (a := (↑k : Int)) (bl := 1) (off := 0) (size := 1) 4 (List.length P) gk)
                  refine cg0 (.tuple #[]) (Heap.set (heapOf [Blk.mk 52 true [Value.iface 3 (Value.iface (List.length (Gr.fr G)) (Value.iface (Gr.fx G) (Value.agg (List.toArray (List.map (fun n => Value.int .i64 n) (Gr.fr G)))))), Value.iface 3 (Value.iface (List.length (Gr.to G)) (Value.iface (Gr.tx G) (Value.agg (List.toArray (List.map (fun n => Value.int .i64 n) (Gr.to G)))))), Value.int .i64 (Gr.number G), Value.int .i64 (Gr.life G), Value.int .i64 (Gr.at' G), Value.int .i64 (Gr.total G), Value.int .i64 (Gr.report G), Value.bool (Gr.more G), Value.bool (Gr.may G), Value.bool (Gr.wants G), Value.string (Gr.data G), Value.int .i64 size, Value.int .i64 less, Value.iface 3 (Value.iface (List.length od) (Value.iface x (Value.agg (List.toArray (List.map (fun n => Value.int .i64 n) od)))))], Blk.mk 4 true (bC (List.length P) c), Blk.mk 3 true (ints (od ++ rg (List.length P))), u5 a0, u5 a1, u5 a2, u5 a3, u5 a4]) 1 (some (Blk.mk 4 true (List.set (bC (List.length P) c) (0 + Int.toNat (↑k : Int) * 1) (Value.bool true))))) ?_ (hop := fun _ => o_store1 (1) (0 + Int.toNat (↑k : Int) * 1) q6)
                  refine WpOps.nil (thenK_at (Wp.text ?_))
                  refine kp 87 (.int IntKind.i64 (↑(lf (List.length P) c) : Int)) ?_
                  refine kp 88 (.int IntKind.i64 (IntKind.wrap .i64 ((↑(lf (List.length P) c) : Int) - 1))) ?_
                  refine kp 8 (.int IntKind.i64 (IntKind.wrap .i64 ((↑(lf (List.length P) c) : Int) - 1))) ?_
                  refine WpOps.nil (thenK_at (Wp.seq (Wp.text ?_)))
                  refine kp 90 (.pointer (some ⟨3, 0, none⟩)) ?_
                  refine kp 91 (.iface 24 (Value.iface (List.length P) (Value.iface 0 (Value.agg (List.toArray (cellsG P)))))) ?_
                  refine kp 92 (.int IntKind.i64 (↑k : Int)) ?_
                  refine kp 93 (.iface 24 (Value.iface (Int.toNat (↑k : Int) * 11) (Value.agg (List.toArray (cellsG P))))) ?_ (hop := fun _ => o_indexI (e := 24) (size := 11) (a := (↑k : Int)) gk)
                  refine kp 94 (.agg (List.toArray (gc p))) ?_ (hop := fun _ => o_loadIA (Int.toNat (↑k : Int) * 11) vp)
                  refine cl 95 32 [Value.pointer (some ⟨3, 0, none⟩), Value.agg (List.toArray (gc p))] ?_
                  refine WpCall.enterL cT2 (by rw [e1]; exact heapOf_set _ 1 _ (by simp)) ?_
                  refine kp 89 (.tuple #[Value.agg #[Value.slice none 0 0, Value.slice none 0 0, Value.int .i64 0, Value.int .i64 0, Value.int .i64 0, Value.int .i64 0, Value.int .i64 0, Value.bool false, Value.bool false, Value.bool false, Value.string ByteArray.empty], Value.bool false, Value.int .i64 0]) ?_
                  refine kp 96 (.agg #[Value.slice none 0 0, Value.slice none 0 0, Value.int .i64 0, Value.int .i64 0, Value.int .i64 0, Value.int .i64 0, Value.int .i64 0, Value.bool false, Value.bool false, Value.bool false, Value.string ByteArray.empty]) ?_
                  refine kp 97 (.bool false) ?_
                  refine kp 98 (.int IntKind.i64 0) ?_
                  refine cg 13 (.pointer (some ⟨8, 0, none⟩)) (Heap.alloc (heapOf [Blk.mk 52 true [Value.iface 3 (Value.iface (List.length (Gr.fr G)) (Value.iface (Gr.fx G) (Value.agg (List.toArray (List.map (fun n => Value.int .i64 n) (Gr.fr G)))))), Value.iface 3 (Value.iface (List.length (Gr.to G)) (Value.iface (Gr.tx G) (Value.agg (List.toArray (List.map (fun n => Value.int .i64 n) (Gr.to G)))))), Value.int .i64 (Gr.number G), Value.int .i64 (Gr.life G), Value.int .i64 (Gr.at' G), Value.int .i64 (Gr.total G), Value.int .i64 (Gr.report G), Value.bool (Gr.more G), Value.bool (Gr.may G), Value.bool (Gr.wants G), Value.string (Gr.data G), Value.int .i64 size, Value.int .i64 less, Value.iface 3 (Value.iface (List.length od) (Value.iface x (Value.agg (List.toArray (List.map (fun n => Value.int .i64 n) od)))))], Blk.mk 4 true (bC (List.length P) (up c k)), Blk.mk 3 true (ints (od ++ rg (List.length P))), u5 b0, u5 b1, u5 b2, u5 b3, u5 b4]) (Blk.mk 24 true zc)) ?_
                  refine ld (.tuple #[]) (8) (Blk.mk 24 true [Value.slice none 0 0, Value.slice none 0 0, Value.int .i64 0, Value.int .i64 0, Value.int .i64 0, Value.int .i64 0, Value.int .i64 0, Value.bool false, Value.bool false, Value.bool false, Value.string ByteArray.empty]) ?_
                  refine kp 14 (.bool false) ?_
                  refine kp 15 (.int IntKind.i64 0) ?_
                  refine WpOps.nil (thenK_at (Wp.seq ?_))
                  refine Wp.region (by kernel_rfl) ?_
                  refine kp 99 (.int IntKind.i64 0) ?_
                  refine kp 100 (.bool false) ?_
                  refine kp 101 (.bool false) ?_
                  refine kp 102 (.bool false) ?_
                  refine kp 103 (.int IntKind.i64 (IntKind.wrap .i64 ((↑(lf (List.length P) c) : Int) - 1))) ?_
                  refine kp 104 (.bool false) ?_ (hop := fun _ => by_fact e3)
                  refine kp 105 (.bool false) ?_
                  refine kp 106 (.bool false) ?_
                  refine kp 107 (.bool false) ?_
                  refine kp 108 (.bool false) ?_
                  refine kp 109 (.bool false) ?_
                  refine um 110 ?_
                  refine um 111 ?_
                  refine um 112 ?_
                  refine um 113 ?_
                  refine um 114 ?_
                  refine um 115 ?_
                  refine um 116 ?_
                  refine kp 117 (.bool false) ?_
                  refine kp 118 (.bool false) ?_
                  refine WpOps.nil (thenK_at (off' (Wp.skip (blockK_norm (thenK_at (Wp.text ?_))))))
                  refine kp 70 (.int IntKind.i64 (↑i : Int)) ?_
                  refine kp 71 (.int IntKind.i64 (IntKind.wrap .i64 ((↑i : Int) + 1))) ?_
                  refine kp 11 (.int IntKind.i64 (IntKind.wrap .i64 ((↑i : Int) + 1))) ?_
                  refine WpOps.nil (thenK_at ?_)
                  exact ⟨(i + 1, (up c k), [b0, b1, b2, b3, b4]), by dsimp only; omega, ⟨by dsimp only; omega, .inr (.inl ⟨hl2, hD⟩)⟩, View.same [⟨52, true, caseC G size less x od⟩, ⟨4, true, bC P.length (up c k)⟩, ⟨3, true, ints (od ++ rg P.length)⟩, u5 b0, u5 b1, u5 b2, u5 b3, u5 b4] _ (Nat.zero_le _) (pre8 ⟨by kernel_rfl, by kernel_rfl⟩ ⟨by kernel_rfl, okCs_flat (bC_flat _ _)⟩ ⟨by kernel_rfl, okCs_flat (ints_fl _)⟩ ⟨by kernel_rfl, u5_ok o0⟩ ⟨by kernel_rfl, u5_ok o1⟩ ⟨by kernel_rfl, u5_ok o2⟩ ⟨by kernel_rfl, u5_ok o3⟩ ⟨by kernel_rfl, u5_ok o4⟩) ⟨⟨by kernel_rfl, by kernel_rfl⟩, ⟨by kernel_rfl, rfl⟩, ⟨by kernel_rfl, by kernel_rfl⟩, ⟨by kernel_rfl, by kernel_rfl⟩, ⟨congrArg (Value.int .i64) hw, rfl⟩, ⟨by kernel_rfl, by kernel_rfl⟩, ⟨congrArg (Value.int .i64) (wr _ (by omega) (by omega)), rfl⟩, trivial⟩⟩
            · omega
          · have d3 : decide ((i : Int) < 600) = false := decide_eq_false (by omega)
            refine Wp.seq (Wp.seq (Wp.text ?_))
            refine kp 58 (.int IntKind.i64 (↑i : Int)) ?_
            refine kp 59 (.slice (some ⟨2, 0, none⟩) (List.length od + List.length P) (List.length od + List.length P)) ?_
            refine kp 60 (.int IntKind.i64 (↑(List.length od + List.length P) : Int)) ?_
            refine kp 61 (.bool true) ?_ (hop := fun _ => by_fact d1)
            refine kp 62 (.bool true) ?_
            refine kp 63 (.int IntKind.i64 (↑(lf (List.length P) c) : Int)) ?_
            refine kp 64 (.bool true) ?_ (hop := fun _ => by_fact d2)
            refine kp 65 (.bool true) ?_
            refine kp 66 (.bool true) ?_
            refine kp 67 (.int IntKind.i64 (↑i : Int)) ?_
            refine kp 68 (.bool false) ?_ (hop := fun _ => by_fact d3)
            refine kp 69 (.bool false) ?_
            refine WpOps.nil (thenK_at (off' (Wp.exit (thenK_exit (thenK_exit (blockK_hit (thenK_at (Wp.seq (Wp.text ?_)))))))))
            refine kp 119 (.int IntKind.i64 (↑(lf (List.length P) c) : Int)) ?_
            refine kp 120 (.bool true) ?_ (hop := fun _ => by_fact d2)
            refine kp 121 (.bool true) ?_
            refine um 122 ?_
            refine um 123 ?_
            refine um 124 ?_
            refine kp 125 (.bool true) ?_
            refine kp 126 (.bool true) ?_
            refine fr 127 19 [] ?_
            refine WpFun.of (c0) ?_
            refine kp 128 (.bool true) ?_
            refine kp 2 (.bool true) ?_
            refine WpOps.nil (thenK_at (Wp.ret ?_))
            refine endK_retn [Value.bool true] (Value.bool true) (by kernel_rfl) (by kernel_rfl) ?_
            rfl
        · have hl0 : lf P.length c = 0 := by omega
          have d2 : decide ((lf P.length c : Int) > 0) = false := decide_eq_false (by omega)
          rcases hS with ⟨rfl, rfl⟩ | ⟨h4, _⟩ | ⟨_, hD⟩
          · rw [lf_none] at hl0
            omega
          · omega
          · obtain ⟨⟨a0, a1, a2, a3, a4, rfl⟩, hokA⟩ := done_ok hD
            obtain ⟨th, ky, hA⟩ := hD
            have cO := open33 G.data th (ownG p0) ky
            rw [← hA] at cO
            have cO2 := lend5 (c0 := ⟨52, true, caseC G size less x od⟩) (c1 := ⟨4, true, bC P.length c⟩) (c2 := ⟨3, true, ints (od ++ rg P.length)⟩) cO hokA rfl
            change SCall E 33 [.pointer (some ⟨3, 0, none⟩)] _ (.int .i64 0) _ at cO2
            unfold caseC at cO2
            show Wp _ _ _ _ _ (heapOf [⟨52, true, gc G ++ [.int .i64 size, .int .i64 less, sl x od]⟩, ⟨4, true, bC P.length c⟩, ⟨3, true, ints (od ++ rg P.length)⟩, u5 a0, u5 a1, u5 a2, u5 a3, u5 a4]) _
            refine Wp.seq (Wp.seq (Wp.text ?_))
            refine kp 58 (.int IntKind.i64 (↑i : Int)) ?_
            refine kp 59 (.slice (some ⟨2, 0, none⟩) (List.length od + List.length P) (List.length od + List.length P)) ?_
            refine kp 60 (.int IntKind.i64 (↑(List.length od + List.length P) : Int)) ?_
            refine kp 61 (.bool true) ?_ (hop := fun _ => by_fact d1)
            refine kp 62 (.bool true) ?_
            refine kp 63 (.int IntKind.i64 (↑(lf (List.length P) c) : Int)) ?_
            refine kp 64 (.bool false) ?_ (hop := fun _ => by_fact d2)
            refine kp 65 (.bool false) ?_
            refine kp 66 (.bool false) ?_
            refine um 67 ?_
            refine um 68 ?_
            refine kp 69 (.bool false) ?_
            refine WpOps.nil (thenK_at (off' (Wp.exit (thenK_exit (thenK_exit (blockK_hit (thenK_at (Wp.seq (Wp.text ?_)))))))))
            refine kp 119 (.int IntKind.i64 (↑(lf (List.length P) c) : Int)) ?_
            refine kp 120 (.bool false) ?_ (hop := fun _ => by_fact d2)
            refine kp 121 (.bool false) ?_
            refine kp 122 (.pointer (some ⟨3, 0, none⟩)) ?_
            refine cl 123 33 [Value.pointer (some ⟨3, 0, none⟩)] ?_
            refine WpCall.enterL cO2 rfl ?_
            refine kp 124 (.bool true) ?_
            refine kp 125 (.bool true) ?_
            refine kp 126 (.bool true) ?_
            refine fr 127 19 [] ?_
            refine WpFun.of (c0) ?_
            refine kp 128 (.bool true) ?_
            refine kp 2 (.bool true) ?_
            refine WpOps.nil (thenK_at (Wp.ret ?_))
            refine endK_retn [Value.bool true] (Value.bool true) (by kernel_rfl) (by kernel_rfl) ?_
            rfl
      · have d1 : decide ((i : Int) < ((od.length + P.length : Nat) : Int)) = false := decide_eq_false (by omega)
        by_cases h2 : 0 < lf P.length c
        · have d2 : decide ((lf P.length c : Int) > 0) = true := decide_eq_true (by omega)
          refine Wp.seq (Wp.seq (Wp.text ?_))
          refine kp 58 (.int IntKind.i64 (↑i : Int)) ?_
          refine kp 59 (.slice (some ⟨2, 0, none⟩) (List.length od + List.length P) (List.length od + List.length P)) ?_
          refine kp 60 (.int IntKind.i64 (↑(List.length od + List.length P) : Int)) ?_
          refine kp 61 (.bool false) ?_ (hop := fun _ => by_fact d1)
          refine kp 62 (.bool false) ?_
          refine um 63 ?_
          refine um 64 ?_
          refine kp 65 (.bool false) ?_
          refine kp 66 (.bool false) ?_
          refine um 67 ?_
          refine um 68 ?_
          refine kp 69 (.bool false) ?_
          refine WpOps.nil (thenK_at (off' (Wp.exit (thenK_exit (thenK_exit (blockK_hit (thenK_at (Wp.seq (Wp.text ?_)))))))))
          refine kp 119 (.int IntKind.i64 (↑(lf (List.length P) c) : Int)) ?_
          refine kp 120 (.bool true) ?_ (hop := fun _ => by_fact d2)
          refine kp 121 (.bool true) ?_
          refine um 122 ?_
          refine um 123 ?_
          refine um 124 ?_
          refine kp 125 (.bool true) ?_
          refine kp 126 (.bool true) ?_
          refine fr 127 19 [] ?_
          refine WpFun.of (c0) ?_
          refine kp 128 (.bool true) ?_
          refine kp 2 (.bool true) ?_
          refine WpOps.nil (thenK_at (Wp.ret ?_))
          refine endK_retn [Value.bool true] (Value.bool true) (by kernel_rfl) (by kernel_rfl) ?_
          rfl
        · have hl0 : lf P.length c = 0 := by omega
          have d2 : decide ((lf P.length c : Int) > 0) = false := decide_eq_false (by omega)
          rcases hS with ⟨rfl, rfl⟩ | ⟨h4, _⟩ | ⟨_, hD⟩
          · rw [lf_none] at hl0
            omega
          · omega
          · obtain ⟨⟨a0, a1, a2, a3, a4, rfl⟩, hokA⟩ := done_ok hD
            obtain ⟨th, ky, hA⟩ := hD
            have cO := open33 G.data th (ownG p0) ky
            rw [← hA] at cO
            have cO2 := lend5 (c0 := ⟨52, true, caseC G size less x od⟩) (c1 := ⟨4, true, bC P.length c⟩) (c2 := ⟨3, true, ints (od ++ rg P.length)⟩) cO hokA rfl
            change SCall E 33 [.pointer (some ⟨3, 0, none⟩)] _ (.int .i64 0) _ at cO2
            unfold caseC at cO2
            show Wp _ _ _ _ _ (heapOf [⟨52, true, gc G ++ [.int .i64 size, .int .i64 less, sl x od]⟩, ⟨4, true, bC P.length c⟩, ⟨3, true, ints (od ++ rg P.length)⟩, u5 a0, u5 a1, u5 a2, u5 a3, u5 a4]) _
            refine Wp.seq (Wp.seq (Wp.text ?_))
            refine kp 58 (.int IntKind.i64 (↑i : Int)) ?_
            refine kp 59 (.slice (some ⟨2, 0, none⟩) (List.length od + List.length P) (List.length od + List.length P)) ?_
            refine kp 60 (.int IntKind.i64 (↑(List.length od + List.length P) : Int)) ?_
            refine kp 61 (.bool false) ?_ (hop := fun _ => by_fact d1)
            refine kp 62 (.bool false) ?_
            refine um 63 ?_
            refine um 64 ?_
            refine kp 65 (.bool false) ?_
            refine kp 66 (.bool false) ?_
            refine um 67 ?_
            refine um 68 ?_
            refine kp 69 (.bool false) ?_
            refine WpOps.nil (thenK_at (off' (Wp.exit (thenK_exit (thenK_exit (blockK_hit (thenK_at (Wp.seq (Wp.text ?_)))))))))
            refine kp 119 (.int IntKind.i64 (↑(lf (List.length P) c) : Int)) ?_
            refine kp 120 (.bool false) ?_ (hop := fun _ => by_fact d2)
            refine kp 121 (.bool false) ?_
            refine kp 122 (.pointer (some ⟨3, 0, none⟩)) ?_
            refine cl 123 33 [Value.pointer (some ⟨3, 0, none⟩)] ?_
            refine WpCall.enterL cO2 rfl ?_
            refine kp 124 (.bool true) ?_
            refine kp 125 (.bool true) ?_
            refine kp 126 (.bool true) ?_
            refine fr 127 19 [] ?_
            refine WpFun.of (c0) ?_
            refine kp 128 (.bool true) ?_
            refine kp 2 (.bool true) ?_
            refine WpOps.nil (thenK_at (Wp.ret ?_))
            refine endK_retn [Value.bool true] (Value.bool true) (by kernel_rfl) (by kernel_rfl) ?_
            rfl
theorem law8 (G : Gr) (ok : OkGr G) (size less : Int) (x : Nat) (od : List Int) (ho : od.length * 8 ≤ 140737488351232) : Fun E 8 [caseV G size less x od] (.bool true) := by
  have c1 := pieces29 G ok size less x od
  cases h : pcsOf G size less with
  | none =>
    rw [h] at c1
    exact law8_no G size less x od _ c1
  | some P =>
    rw [h] at c1
    change Fun E 29 _ (.tuple #[grams 24 P, .bool (decide ((P.length : Int) ≤ 200))]) at c1
    by_cases hn : (P.length : Int) ≤ 200
    · rw [decide_eq_true hn] at c1
      exact law8_yes G size less x od ho P (pcs_of ok h) (by omega) c1
    · rw [decide_eq_false hn] at c1
      exact law8_no G size less x od _ c1
end Go.Proofs.Ytpkkcpglbjbgfaa.D
