/- relay.kinds, relay.rest and the rules. -/
import Derived.Test.YtdkmdpklojeepaaFwLem
import Derived.Test.YtdkmdpklojeepaaFwBytes
import Derived.Test.YtdkmdpklojeepaaFwCons
import Derived.Test.YtdkmdpklojeepaaF09a
namespace Go.Proofs.Ytdkmdpklojeepaa.D
open Go.Fw Go.RowKit

def fnV (n : FuncId) : Value := .func (.func n) #[] #[]
def kindsV : Value := .agg #[fnV 52, fnV 52, fnV 55, fnV 56, fnV 53, fnV 53, fnV 57, fnV 58, .nilFunc, .nilFunc, .nilFunc, .nilFunc, .nilFunc, .nilFunc, .nilFunc, .nilFunc]
theorem f37 : E.funcs 37 = some Try.f37 := by kernel_rfl
theorem kinds37 : Lent E 37 [] [] kindsV [] := by
  refine Lent.of f37 rfl (of_decide_eq_true (by kernel_rfl)) rfl rfl (Nat.le_refl _) rfl rfl ?_ ?_
  · rfl
  refine Wp.seq (Wp.text ?_)
  refine md 0 (.pointer (some ⟨0, 0, none⟩)) (Blk.mk 68 true [Value.nilFunc, Value.nilFunc, Value.nilFunc, Value.nilFunc, Value.nilFunc, Value.nilFunc, Value.nilFunc, Value.nilFunc, Value.nilFunc, Value.nilFunc, Value.nilFunc, Value.nilFunc, Value.nilFunc, Value.nilFunc, Value.nilFunc, Value.nilFunc]) ?_
  refine WpOps.nil (thenK_at (Wp.seq (Wp.text ?_)))
  refine kp 1 (.func (Fn.func 52) #[] #[]) ?_
  refine WpOps.nil (thenK_at (Wp.seq (Wp.text ?_)))
  refine kp 2 (.func (Fn.func 53) #[] #[]) ?_
  refine WpOps.nil (thenK_at (Wp.seq (Wp.text ?_)))
  refine kp 3 (.func (Fn.func 52) #[] #[]) ?_
  refine kp 4 (.func (Fn.func 52) #[] #[]) ?_
  refine kp 5 (.func (Fn.func 53) #[] #[]) ?_
  refine kp 6 (.func (Fn.func 53) #[] #[]) ?_
  refine kp 7 (.agg #[Value.func (Fn.func 52) #[] #[], Value.func (Fn.func 52) #[] #[], Value.func (Fn.func 55) #[] #[], Value.func (Fn.func 56) #[] #[], Value.func (Fn.func 53) #[] #[], Value.func (Fn.func 53) #[] #[], Value.func (Fn.func 57) #[] #[], Value.func (Fn.func 58) #[] #[], Value.nilFunc, Value.nilFunc, Value.nilFunc, Value.nilFunc, Value.nilFunc, Value.nilFunc, Value.nilFunc, Value.nilFunc]) ?_
  refine ld (.tuple #[]) (0) (Blk.mk 68 true [Value.func (Fn.func 52) #[] #[], Value.func (Fn.func 52) #[] #[], Value.func (Fn.func 55) #[] #[], Value.func (Fn.func 56) #[] #[], Value.func (Fn.func 53) #[] #[], Value.func (Fn.func 53) #[] #[], Value.func (Fn.func 57) #[] #[], Value.func (Fn.func 58) #[] #[], Value.nilFunc, Value.nilFunc, Value.nilFunc, Value.nilFunc, Value.nilFunc, Value.nilFunc, Value.nilFunc, Value.nilFunc]) ?_
  refine WpOps.nil (thenK_at (Wp.ret ?_))
  refine endK_retn [Value.agg #[Value.func (Fn.func 52) #[] #[], Value.func (Fn.func 52) #[] #[], Value.func (Fn.func 55) #[] #[], Value.func (Fn.func 56) #[] #[], Value.func (Fn.func 53) #[] #[], Value.func (Fn.func 53) #[] #[], Value.func (Fn.func 57) #[] #[], Value.func (Fn.func 58) #[] #[], Value.nilFunc, Value.nilFunc, Value.nilFunc, Value.nilFunc, Value.nilFunc, Value.nilFunc, Value.nilFunc, Value.nilFunc]] (Value.agg #[Value.func (Fn.func 52) #[] #[], Value.func (Fn.func 52) #[] #[], Value.func (Fn.func 55) #[] #[], Value.func (Fn.func 56) #[] #[], Value.func (Fn.func 53) #[] #[], Value.func (Fn.func 53) #[] #[], Value.func (Fn.func 57) #[] #[], Value.func (Fn.func 58) #[] #[], Value.nilFunc, Value.nilFunc, Value.nilFunc, Value.nilFunc, Value.nilFunc, Value.nilFunc, Value.nilFunc, Value.nilFunc]) (by kernel_rfl) (by kernel_rfl) ?_
  exact ⟨[], by decide, by kernel_rfl, trivial, .w (.un rfl rfl)⟩
/-- x modulo n, from 0 on. -/
theorem place_eq (x : Int) (n : Nat) (hn : 0 < n) (h : n ≤ 140737488351232) : (IntKind.i64.wrap (x.tmod n + n)).tmod n = modN x n := by
  have h1 := Int.tmod_lt_of_pos x (b := n) (by omega)
  have h2 := Int.lt_tmod_of_pos x (b := n) (by omega)
  rw [wr _ (by omega) (by omega), Int.tmod_eq_emod_of_nonneg (by omega)]
  unfold modN
  split
  · exact Int.emod_eq_of_lt (by omega) (by omega)
  · rw [Int.add_emod_right]
    exact Int.emod_eq_of_lt (by omega) (by omega)
theorem f54 : E.funcs 54 = some Try.f54 := by kernel_rfl
theorem rest54 (x : Int) (n : Nat) (hn : 0 < n) (h : n ≤ 1000) : Fun E 54 [.int .i64 x, .int .i64 n] (.int .i64 (modN x n)) := by
  refine Fun.of f54 rfl (of_decide_eq_true (by kernel_rfl)) rfl ?_
  have n0 : ¬ (n : Int) = 0 := by omega
  refine Wp.seq (Wp.text ?_)
  refine kp 4 (.int IntKind.i64 0) ?_
  refine WpOps.nil (thenK_at (Wp.seq (Wp.text ?_)))
  refine kp 5 (.int IntKind.i64 x) ?_
  refine kp 6 (.int IntKind.i64 (↑n : Int)) ?_
  refine kp 7 (.int IntKind.i64 (Int.tmod x (↑n : Int))) ?_ (hop := fun _ => o_rem n0)
  refine kp 8 (.int IntKind.i64 (↑n : Int)) ?_
  refine kp 9 (.int IntKind.i64 (IntKind.wrap .i64 (Int.tmod x (↑n : Int) + (↑n : Int)))) ?_
  refine kp 10 (.int IntKind.i64 (↑n : Int)) ?_
  refine kp 11 (.int IntKind.i64 (Int.tmod (IntKind.wrap .i64 (Int.tmod x (↑n : Int) + (↑n : Int))) (↑n : Int))) ?_ (hop := fun _ => o_rem n0)
  refine kp 4 (.int IntKind.i64 (Int.tmod (IntKind.wrap .i64 (Int.tmod x (↑n : Int) + (↑n : Int))) (↑n : Int))) ?_
  refine WpOps.nil (thenK_at (Wp.ret ?_))
  refine endK_retn [Value.int IntKind.i64 (Int.tmod (IntKind.wrap IntKind.i64 (Int.tmod x (↑n : Int) + (↑n : Int))) (↑n : Int))] (Value.int IntKind.i64 (Int.tmod (IntKind.wrap IntKind.i64 (Int.tmod x (↑n : Int) + (↑n : Int))) (↑n : Int))) (by kernel_rfl) (by kernel_rfl) ?_
  rw [place_eq x n hn (by omega)]
  rfl
theorem told_flat {E : Env} {h : Heap} {rl : List Nat} {m : Nat} : ∀ {l : List Value}, l.all flat = true → All2 (ToldC E h rl m) l l
  | [], _ => .nil
  | v :: l, hl => by
    simp only [List.all_cons, Bool.and_eq_true] at hl
    have k := CellsOk.flat (rl := rl) (m := m) (l := [v]) fun u hu => by rw [List.mem_singleton.1 hu]; exact hl.1
    refine .cons (.inl ⟨?_, ?_⟩) (told_flat hl.2)
    · simpa using k.1
    · simpa using k.2
theorem told_eq {E : Env} {h : Heap} {rl : List Nat} {m : Nat} {l l' : List Value} (e : l' = l) (hl : l.all flat = true) : All2 (ToldC E h rl m) l' l := by
  subst e
  exact told_flat hl
def fb (l : Bool) (c d s : Int) : Blk := ⟨46, true, [.bool l, .int .i64 c, .int .i64 d, .int .i64 s]⟩
theorem f52 : E.funcs 52 = some Try.f52 := by kernel_rfl
theorem rule52 (k : Int) (l : Bool) (c d s : Int) : Lent E 52 [.int .i64 k, .pointer (some ⟨0, 0, none⟩)] [fb l c d s] (.tuple #[]) [fb true c d s] := by
  refine Lent.of f52 rfl (of_decide_eq_true (by kernel_rfl)) rfl rfl (Nat.le_refl _) rfl rfl rfl ?_
  refine Wp.text ?_
  refine kp 4 (.pointer (some ⟨0, 0, none⟩)) ?_
  refine kp 5 (.pointer (some ⟨0, 0, none⟩)) ?_
  refine kp 6 (.pointer (some ⟨0, 0, none⟩)) ?_
  refine ld (.tuple #[]) (0) (Blk.mk (Blk.elem (fb l c d s)) (Blk.own (fb l c d s)) [Value.bool true, Value.int .i64 c, Value.int .i64 d, Value.int .i64 s]) ?_
  refine WpOps.nil ?_
  refine endK_norm [] (Value.tuple #[]) (by kernel_rfl) (by kernel_rfl) ?_
  exact ⟨[0], by decide, by kernel_rfl, ⟨⟨_, by kernel_rfl, told_eq rfl rfl⟩, trivial⟩, .tuple _ _ (by kernel_rfl) rfl .nil⟩
theorem f53 : E.funcs 53 = some Try.f53 := by kernel_rfl
theorem rule53 (k : Int) (l : Bool) (c d s : Int) : Lent E 53 [.int .i64 k, .pointer (some ⟨0, 0, none⟩)] [fb l c d s] (.tuple #[]) [fb l c (modN k 21) s] := by
  refine Lent.of f53 rfl (of_decide_eq_true (by kernel_rfl)) rfl rfl (Nat.le_refl _) rfl rfl rfl ?_
  have c1 := rest54 k 21 (by decide) (by decide)
  refine Wp.text ?_
  refine kp 4 (.pointer (some ⟨0, 0, none⟩)) ?_
  refine kp 5 (.int IntKind.i64 k) ?_
  refine fr 6 54 [Value.int .i64 k, Value.int .i64 21] ?_
  refine WpFun.of (c1) ?_
  refine kp 7 (.pointer (some ⟨0, 0, none⟩)) ?_
  refine kp 8 (.pointer (some ⟨0, 2, none⟩)) ?_
  refine ld (.tuple #[]) (0) (Blk.mk (Blk.elem (fb l c d s)) (Blk.own (fb l c d s)) [Value.bool l, Value.int .i64 c, Value.int .i64 (modN k 21), Value.int .i64 s]) ?_
  refine WpOps.nil ?_
  refine endK_norm [] (Value.tuple #[]) (by kernel_rfl) (by kernel_rfl) ?_
  exact ⟨[0], by decide, by kernel_rfl, ⟨⟨_, by kernel_rfl, told_eq rfl rfl⟩, trivial⟩, .tuple _ _ (by kernel_rfl) rfl .nil⟩
theorem f55 : E.funcs 55 = some Try.f55 := by kernel_rfl
theorem rule55 (k : Int) (l : Bool) (c d s : Int) : Lent E 55 [.int .i64 k, .pointer (some ⟨0, 0, none⟩)] [fb l c d s] (.tuple #[]) [fb l 1 d s] := by
  refine Lent.of f55 rfl (of_decide_eq_true (by kernel_rfl)) rfl rfl (Nat.le_refl _) rfl rfl rfl ?_
  refine Wp.text ?_
  refine kp 4 (.pointer (some ⟨0, 0, none⟩)) ?_
  refine kp 5 (.pointer (some ⟨0, 0, none⟩)) ?_
  refine kp 6 (.pointer (some ⟨0, 1, none⟩)) ?_
  refine ld (.tuple #[]) (0) (Blk.mk (Blk.elem (fb l c d s)) (Blk.own (fb l c d s)) [Value.bool l, Value.int .i64 1, Value.int .i64 d, Value.int .i64 s]) ?_
  refine WpOps.nil ?_
  refine endK_norm [] (Value.tuple #[]) (by kernel_rfl) (by kernel_rfl) ?_
  exact ⟨[0], by decide, by kernel_rfl, ⟨⟨_, by kernel_rfl, told_eq rfl rfl⟩, trivial⟩, .tuple _ _ (by kernel_rfl) rfl .nil⟩
theorem f56 : E.funcs 56 = some Try.f56 := by kernel_rfl
theorem rule56 (k : Int) (l : Bool) (c d s : Int) : Lent E 56 [.int .i64 k, .pointer (some ⟨0, 0, none⟩)] [fb l c d s] (.tuple #[]) [fb l (1 + modN k 3) d s] := by
  refine Lent.of f56 rfl (of_decide_eq_true (by kernel_rfl)) rfl rfl (Nat.le_refl _) rfl rfl rfl ?_
  have c1 := rest54 k 3 (by decide) (by decide)
  have hm := modN_in k 3 (by decide)
  have e : IntKind.i64.wrap (1 + modN k 3) = 1 + modN k 3 := wr _ (by omega) (by omega)
  refine Wp.text ?_
  refine kp 4 (.pointer (some ⟨0, 0, none⟩)) ?_
  refine kp 5 (.int IntKind.i64 k) ?_
  refine fr 6 54 [Value.int .i64 k, Value.int .i64 3] ?_
  refine WpFun.of (c1) ?_
  refine kp 7 (.int IntKind.i64 (IntKind.wrap .i64 (1 + modN k 3))) ?_
  refine kp 8 (.pointer (some ⟨0, 0, none⟩)) ?_
  refine kp 9 (.pointer (some ⟨0, 1, none⟩)) ?_
  refine ld (.tuple #[]) (0) (Blk.mk (Blk.elem (fb l c d s)) (Blk.own (fb l c d s)) [Value.bool l, Value.int .i64 (IntKind.wrap .i64 (1 + modN k 3)), Value.int .i64 d, Value.int .i64 s]) ?_
  refine WpOps.nil ?_
  refine endK_norm [] (Value.tuple #[]) (by kernel_rfl) (by kernel_rfl) ?_
  exact ⟨[0], by decide, by kernel_rfl, ⟨⟨_, by kernel_rfl, told_eq (congrArg (fun z => [Value.bool l, .int .i64 z, .int .i64 d, .int .i64 s]) e) rfl⟩, trivial⟩, .tuple _ _ (by kernel_rfl) rfl .nil⟩
theorem f57 : E.funcs 57 = some Try.f57 := by kernel_rfl
theorem rule57 (k : Int) (l : Bool) (c d s : Int) : Lent E 57 [.int .i64 k, .pointer (some ⟨0, 0, none⟩)] [fb l c d s] (.tuple #[]) [fb l c d (modN k 50)] := by
  refine Lent.of f57 rfl (of_decide_eq_true (by kernel_rfl)) rfl rfl (Nat.le_refl _) rfl rfl rfl ?_
  have c1 := rest54 k 50 (by decide) (by decide)
  refine Wp.text ?_
  refine kp 4 (.pointer (some ⟨0, 0, none⟩)) ?_
  refine kp 5 (.int IntKind.i64 k) ?_
  refine fr 6 54 [Value.int .i64 k, Value.int .i64 50] ?_
  refine WpFun.of (c1) ?_
  refine kp 7 (.pointer (some ⟨0, 0, none⟩)) ?_
  refine kp 8 (.pointer (some ⟨0, 3, none⟩)) ?_
  refine ld (.tuple #[]) (0) (Blk.mk (Blk.elem (fb l c d s)) (Blk.own (fb l c d s)) [Value.bool l, Value.int .i64 c, Value.int .i64 d, Value.int .i64 (modN k 50)]) ?_
  refine WpOps.nil ?_
  refine endK_norm [] (Value.tuple #[]) (by kernel_rfl) (by kernel_rfl) ?_
  exact ⟨[0], by decide, by kernel_rfl, ⟨⟨_, by kernel_rfl, told_eq rfl rfl⟩, trivial⟩, .tuple _ _ (by kernel_rfl) rfl .nil⟩
theorem f58 : E.funcs 58 = some Try.f58 := by kernel_rfl
theorem rule58 (k : Int) (l : Bool) (c d s : Int) : Lent E 58 [.int .i64 k, .pointer (some ⟨0, 0, none⟩)] [fb l c d s] (.tuple #[]) [fb l 1 (modN k 8) s] := by
  refine Lent.of f58 rfl (of_decide_eq_true (by kernel_rfl)) rfl rfl (Nat.le_refl _) rfl rfl rfl ?_
  have c1 := rest54 k 8 (by decide) (by decide)
  refine Wp.text ?_
  refine kp 4 (.pointer (some ⟨0, 0, none⟩)) ?_
  refine kp 5 (.pointer (some ⟨0, 0, none⟩)) ?_
  refine kp 6 (.int IntKind.i64 k) ?_
  refine fr 7 54 [Value.int .i64 k, Value.int .i64 8] ?_
  refine WpFun.of (c1) ?_
  refine kp 8 (.pointer (some ⟨0, 0, none⟩)) ?_
  refine kp 9 (.pointer (some ⟨0, 1, none⟩)) ?_
  refine ld (.tuple #[]) (0) (Blk.mk (Blk.elem (fb l c d s)) (Blk.own (fb l c d s)) [Value.bool l, Value.int .i64 1, Value.int .i64 d, Value.int .i64 s]) ?_
  refine kp 10 (.pointer (some ⟨0, 0, none⟩)) ?_
  refine kp 11 (.pointer (some ⟨0, 2, none⟩)) ?_
  refine ld (.tuple #[]) (0) (Blk.mk (Blk.elem (fb l c d s)) (Blk.own (fb l c d s)) [Value.bool l, Value.int .i64 1, Value.int .i64 (modN k 8), Value.int .i64 s]) ?_
  refine WpOps.nil ?_
  refine endK_norm [] (Value.tuple #[]) (by kernel_rfl) (by kernel_rfl) ?_
  exact ⟨[0], by decide, by kernel_rfl, ⟨⟨_, by kernel_rfl, told_eq rfl rfl⟩, trivial⟩, .tuple _ _ (by kernel_rfl) rfl .nil⟩
end Go.Proofs.Ytdkmdpklojeepaa.D
