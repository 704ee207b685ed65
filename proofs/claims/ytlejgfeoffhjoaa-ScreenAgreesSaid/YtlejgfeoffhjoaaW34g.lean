/- The law ScreenAgrees: what it walks on. -/
import Derived.Test.YtlejgfeoffhjoaaFwLem
import Derived.Test.YtlejgfeoffhjoaaFwHole
import Derived.Test.YtlejgfeoffhjoaaFwHoleM
import Derived.Test.YtlejgfeoffhjoaaW34c
import Derived.Test.YtlejgfeoffhjoaaW34p
namespace Go.Proofs.Ytlejgfeoffhjoaa.D
open Go.Fw Go.RowKit

theorem f21 : E.funcs 21 = some Try.f21 := by kernel_rfl
theorem mod21 (x : Int) (n : Nat) (hn : 0 < n) (h : n ≤ 1000) : Fun E 21 [.int .i64 x, .int .i64 n] (.int .i64 (modN x n)) := by
  refine Fun.of f21 rfl (of_decide_eq_true (by kernel_rfl)) rfl ?_
  have c0 : decide ((n : Int) < 1) = false := decide_eq_false (by omega)
  have n0 : ¬ (n : Int) = 0 := by omega
  have h1 := Int.tmod_lt_of_pos x (b := n) (by omega)
  have h2 := Int.lt_tmod_of_pos x (b := n) (by omega)
  refine Wp.seq (Wp.text (kp 4 (.int .i64 0) (WpOps.nil (thenK_at (Wp.seq (Wp.seq (Wp.text (kp 6 (.int .i64 n) (kp 7 (.bool false) (WpOps.nil (thenK_at (off' (Wp.skip (thenK_at (Wp.seq (Wp.text (kp 8 (.int .i64 x) (kp 9 (.int .i64 n) (kp 10 (.int .i64 (Int.tmod x (↑n : Int))) (kp 5 (.int .i64 (Int.tmod x (↑n : Int))) (WpOps.nil (thenK_at (Wp.seq (Wp.seq (Wp.text (kp 11 (.int .i64 (Int.tmod x (↑n : Int))) (kp 12 (.bool (decide (Int.tmod x (↑n : Int) < 0))) (WpOps.nil (thenK_at ?_)))))))))) (hop := fun _ => o_rem n0))))))))))) (hop := fun _ => by_fact c0))))))))))
  refine Wp.split (decide (Int.tmod x (↑n : Int) < 0)) (by kernel_rfl) (fun hc => ?_) (fun hc => ?_)
  · have hl := of_decide_eq_true hc
    have hm : modN x n = x.tmod n + n := if_pos hl
    have hw : IntKind.i64.wrap (x.tmod n + n) = modN x n := by rw [hm, wr _ (by omega) (by omega)]
    refine Wp.text (kp 13 (.int .i64 (Int.tmod x (↑n : Int))) (kp 14 (.int .i64 n) (kp 15 (.int .i64 (IntKind.wrap .i64 (Int.tmod x (↑n : Int) + (↑n : Int)))) (kp 5 (.int .i64 (IntKind.wrap .i64 (Int.tmod x (↑n : Int) + (↑n : Int)))) (WpOps.nil (thenK_at (Wp.seq (Wp.text (kp 16 (.int .i64 (IntKind.wrap .i64 (Int.tmod x (↑n : Int) + (↑n : Int)))) (kp 4 (.int .i64 (IntKind.wrap .i64 (Int.tmod x (↑n : Int) + (↑n : Int)))) (WpOps.nil (thenK_at (Wp.ret (endK_retn [Value.int .i64 (IntKind.wrap IntKind.i64 (Int.tmod x (↑n : Int) + (↑n : Int)))] (Value.int .i64 (IntKind.wrap IntKind.i64 (Int.tmod x (↑n : Int) + (↑n : Int)))) (by kernel_rfl) (by kernel_rfl) ?_))))))))))))))
    rw [hw]
    rfl
  · have hm : modN x n = x.tmod n := if_neg (of_decide_eq_false hc)
    refine Wp.skip (thenK_at (Wp.seq (Wp.text (kp 16 (.int .i64 (Int.tmod x (↑n : Int))) (kp 4 (.int .i64 (Int.tmod x (↑n : Int))) (WpOps.nil (thenK_at (Wp.ret (endK_retn [Value.int .i64 (Int.tmod x (↑n : Int))] (Value.int .i64 (Int.tmod x (↑n : Int))) (by kernel_rfl) (by kernel_rfl) ?_)))))))))
    rw [hm]
    rfl
/-- An act. -/
structure Act where
  k : Int
  x : Int
  u : Up
def ac (z : Act) : List Value := [.int .i64 z.k, .int .i64 z.x, .int .i64 z.u.op, .int .i64 z.u.row, .int .i64 z.u.col, .int .i64 z.u.n, .string z.u.t]
def acs (l : List Act) : List Value := l.flatMap ac
theorem acs_len : ∀ l, (acs l).length = l.length * 7
  | [] => rfl
  | a :: l => by
    have ih := acs_len l
    unfold acs at ih ⊢
    rw [List.flatMap_cons, List.length_append, ih, List.length_cons]
    show 7 + _ = _
    omega
theorem acs_at (l : List Act) (i : Nat) (h : i < l.length) : cellsAt (acs l) (i * 7) 7 = some (ac l[i]) := by
  unfold cellsAt
  rw [acs_len, if_pos (by omega)]
  congr 1
  have e : l = l.take i ++ l[i] :: l.drop (i + 1) := by rw [List.getElem_cons_drop, List.take_append_drop]
  have h2 : (acs (l.take i)).length = i * 7 := by rw [acs_len, List.length_take, Nat.min_eq_left (by omega)]
  have e2 : acs l = acs (l.take i) ++ (ac l[i] ++ acs (l.drop (i + 1))) := by
    conv => lhs; rw [e]
    unfold acs
    rw [List.flatMap_append, List.flatMap_cons]
  rw [e2, List.drop_left' h2]
  rfl
/-- What lies at the sides: what waits, at the one that has the turn. -/
def w0 (w : Wd) : Value := if w.t = 0 then qV w.l else .slice none 0 0
def w1 (w : Wd) : Value := if w.t = 1 then qV w.l else .slice none 0 0
theorem stay_w0 (w : Wd) : Stay 3 (w0 w) := by
  unfold w0
  split
  · exact stay_q _
  · exact stay_nil 3
theorem stay_w1 (w : Wd) : Stay 3 (w1 w) := by
  unfold w1
  split
  · exact stay_q _
  · exact stay_nil 3
def memW (w : Wd) : List (Option Blk) := [some (wB w.t (wyV w.y)), some (sdB w.a w.b (w0 w) (w1 w)), wyB w.y, qO w.l]
/-- A block that may be there, told anew. -/
def OptT (h : Heap) (rl : List Nat) (m k : Nat) (x : Option Blk) : Prop := ∀ b, x = some b → ∃ old, h.get k = some ⟨b.elem, b.own, old⟩ ∧ All2 (ToldC E (h.less rl) rl m) old b.cells
theorem OptAt.t {h : Heap} {rl : List Nat} {m k : Nat} {x : Option Blk} (hx : OptAt h k x) : OptT h rl m k x := fun b hb => ⟨_, (hx b hb).1, told_flat (hx b hb).2⟩
theorem BlksO.opT {h : Heap} {rl : List Nat} {m k : Nat} {ks : List Nat} {x : Option Blk} {xs : List (Option Blk)} (hx : OptT h rl m k x) (ht : BlksO E h rl m ks xs) : BlksO E h rl m (k :: ks) (x :: xs) := by
  cases x with
  | none => exact ht
  | some b => exact ⟨hx b rfl, ht⟩
/-- A memory in which the world is found, and one block more. -/
def VW (g : Heap) (w : Wd) (x : Blk) : Prop := ∃ (k2 k3 : Nat) (wv' wa' wb' : Value), [0, 1, k2, k3, 4].Nodup ∧ g.get 0 = some (wB w.t wv') ∧ g.get 1 = some (sdB w.a w.b wa' wb') ∧ wv' = unC [0, 1, k2, k3, 4] (wyV w.y) ∧ wa' = unC [0, 1, k2, k3, 4] (w0 w) ∧ wb' = unC [0, 1, k2, k3, 4] (w1 w) ∧ OptT g [0, 1, k2, k3, 4] 5 k2 (wyB w.y) ∧ OptAt g k3 (qO w.l) ∧ OptAt g 4 (some x)
theorem ok_stay {b m : Nat} {v : Value} (hv : Stay b v) (hm : b < m) (hb : b < 5) : okC m v = true := (hv [0, 1, 2, 3, 4] m (by
  match b, hb with
  | 0, _ => rfl
  | 1, _ => rfl
  | 2, _ => rfl
  | 3, _ => rfl
  | 4, _ => rfl) hm).2
theorem told_fl {h : Heap} {rl : List Nat} {m : Nat} (v : Value) (hv : flat v = true) : ToldC E h rl m v v := by
  have := (CellsOk.flat (rl := rl) (m := m) (l := [v]) fun x hx => by
    obtain rfl : x = v := by simpa using hx
    exact hv)
  have e1 : [v] = [unC rl v] := this.1
  exact .inl ⟨(List.cons.inj e1).1, by simpa using this.2⟩
theorem sd_told {h : Heap} {rl : List Nat} {m : Nat} (a b : Sd) {wa wb wa' wb' : Value} (ha : ToldC E h rl m wa' wa) (hb : ToldC E h rl m wb' wb) : All2 (ToldC E h rl m) (sdB a b wa' wb').cells (sdB a b wa wb).cells := by
  have f : ∀ v : Value, flat v = true → ToldC E h rl m v v := told_fl
  exact .cons (f _ rfl) (.cons (f _ rfl) (.cons (f _ rfl) (.cons (f _ rfl) (.cons (f _ rfl) (.cons (f _ rfl) (.cons (f _ rfl) (.cons (f _ rfl) (.cons (f _ rfl) (.cons ha (.cons (f _ rfl) (.cons (f _ rfl) (.cons (f _ rfl) (.cons (f _ rfl) (.cons (f _ rfl) (.cons (f _ rfl) (.cons (f _ rfl) (.cons (f _ rfl) (.cons (f _ rfl) (.cons hb .nil)))))))))))))))))))
/-- The world, told anew. -/
theorem VW.view {n : Nat} {s : Slots} {h : Heap} {l : List (Nat × Value)} {w : Wd} {x : Blk} (hv : VW h w x) (hs : ∀ k2 k3, SlotsOk [0, 1, k2, k3, 4] 5 s l) : View 0 E n s h (layj l) (heapO (memW w ++ [some x])) := by
  obtain ⟨k2, k3, wv', wa', wb', hnd, h0, h1, hw, ha, hb, h2, h3, h4⟩ := hv
  exact View.ofO [0, 1, k2, k3, 4] _ _ hnd rfl ⟨⟨_, h0, .cons (.inl ⟨rfl, rfl⟩) (.cons (told_fl _ rfl) (.cons (.inl ⟨hw, ok_stay (m := 5) (stay_wy _) (by decide) (by decide)⟩) .nil))⟩, ⟨_, h1, sd_told _ _ (.inl ⟨ha, ok_stay (m := 5) (stay_w0 w) (by decide) (by decide)⟩) (.inl ⟨hb, ok_stay (m := 5) (stay_w1 w) (by decide) (by decide)⟩)⟩, BlksO.opT h2 (BlksO.opT h3.t (BlksO.opT h4.t trivial))⟩ (hs k2 k3).told
/-- The world alone, told anew. -/
theorem viewL {n : Nat} {s : Slots} {h : Heap} {l : List (Nat × Value)} (w : Wd) (h0 : h.get 0 = some (wB w.t (wyV w.y))) (h1 : h.get 1 = some (sdB w.a w.b (w0 w) (w1 w))) (h2 : h.get 2 = wyB w.y) (h3 : h.get 3 = qO w.l) (hs : SlotsOk [0, 1, 2, 3] 4 s l) : View 0 E n s h (layj l) (heapO (memW w)) :=
  View.ofO [0, 1, 2, 3] _ _ (by decide) rfl ⟨⟨_, h0, .cons (.inl ⟨rfl, rfl⟩) (.cons (told_fl _ rfl) (.cons (.inl (stay_wy _ _ _ rfl (show 2 < 4 by decide))) .nil))⟩, ⟨_, h1, sd_told _ _ (.inl (stay_w0 w _ _ rfl (show 3 < 4 by decide))) (.inl (stay_w1 w _ _ rfl (show 3 < 4 by decide)))⟩, BlksO.opT (optWy _ h2).t (BlksO.opT (optQ _ h3).t trivial)⟩ hs.told
theorem ok_sd {m : Nat} (a b : Sd) {wa wb : Value} (ha : okC m wa = true) (hb : okC m wb = true) : (sdB a b wa wb).cells.all (okC m) = true := by
  unfold sdB
  simp only [List.all_cons, List.all_nil, ha, hb, Bool.and_true]
  rfl
theorem ok_w {m : Nat} {t : Int} {wv : Value} (hm : 1 < m) (hw : okC m wv = true) : (wB t wv).cells.all (okC m) = true := by
  show (decide (1 < m) && (true && (okC m wv && true))) = true
  rw [hw, decide_eq_true hm]
  rfl
def AllOk (m : Nat) (l : List (Option Blk)) : Prop := ∀ x, some x ∈ l → x.cells.all (okC m) = true
theorem AllOk.nil {m : Nat} : AllOk m [] := fun x h => by cases h
theorem AllOk.cons {m : Nat} {o : Option Blk} {l : List (Option Blk)} (ho : ∀ x, o = some x → x.cells.all (okC m) = true) (hl : AllOk m l) : AllOk m (o :: l) := fun x h => by
  rcases List.mem_cons.1 h with h | h
  · exact ho x h.symm
  · exact hl x h
theorem ok_one {m : Nat} {b : Blk} (h : b.cells.all (okC m) = true) : ∀ x, some b = some x → x.cells.all (okC m) = true := fun x e => by
  obtain rfl := Option.some.inj e
  exact h
theorem ok_none {m : Nat} : ∀ x, (none : Option Blk) = some x → x.cells.all (okC m) = true := fun x e => by cases e
theorem ok_wy {m : Nat} (y : Wy) : ∀ x, wyB y = some x → x.cells.all (okC m) = true := fun x e => by
  cases y with
  | nil => cases e
  | own l z =>
    obtain rfl := Option.some.inj e
    exact flat_ok (wyC_flat l z)
theorem ok_q {m : Nat} (l : List Up) : ∀ x, qO l = some x → x.cells.all (okC m) = true := fun x e => by
  unfold qO at e
  split at e
  · cases e
  · obtain rfl := Option.some.inj e
    exact flat_ok (ucs_flat l)
/-- The world's memory, with one block behind it. -/
abbrev memX (w : Wd) (x : Blk) : Heap := heapO (memW w ++ [some x])
theorem opW (w : Wd) (x : Blk) : BlksOp [0, 1, 2, 3] 4 (memX w x) [0, 1, 2, 3] (memW w) := by
  have c0 : (memX w x).get 0 = some (wB w.t (wyV w.y)) := rfl
  have c1 : (memX w x).get 1 = some (sdB w.a w.b (w0 w) (w1 w)) := rfl
  have c2 : (memX w x).get 2 = wyB w.y := rfl
  have c3 : (memX w x).get 3 = qO w.l := rfl
  have q : BlksOp [0, 1, 2, 3] 4 (memX w x) [3] [qO w.l] := by
    unfold qO at c3 ⊢
    split
    · rename_i h
      rw [if_pos h] at c3
      exact ⟨⟨c3, show 3 < 5 by decide⟩, trivial⟩
    · rename_i h
      rw [if_neg h] at c3
      exact ⟨⟨_, c3, CellsOk.eq rfl (ucs_flat _)⟩, trivial⟩
  have y2 : BlksOp [0, 1, 2, 3] 4 (memX w x) [2, 3] [wyB w.y, qO w.l] := by
    revert c2
    generalize w.y = y
    intro c2
    cases y with
    | nil => exact ⟨⟨c2, show 2 < 5 by decide⟩, q⟩
    | own l z => exact ⟨⟨_, c2, CellsOk.eq rfl (wyC_flat l z)⟩, q⟩
  refine ⟨⟨_, c0, ?_, ok_w (by decide) (ok_stay (stay_wy _) (by decide) (by decide))⟩, ⟨_, c1, ?_, ok_sd _ _ (ok_stay (stay_w0 w) (by decide) (by decide)) (ok_stay (stay_w1 w) (by decide) (by decide))⟩, y2⟩
  · show [_, _, wyV w.y] = [_, _, unC [0, 1, 2, 3] (wyV w.y)]
    rw [← (stay_wy w.y [0, 1, 2, 3] 4 rfl (by decide)).1]
    rfl
  · show [_, _, _, _, _, _, _, _, _, w0 w, _, _, _, _, _, _, _, _, _, w1 w] = [_, _, _, _, _, _, _, _, _, unC [0, 1, 2, 3] (w0 w), _, _, _, _, _, _, _, _, _, unC [0, 1, 2, 3] (w1 w)]
    rw [← (stay_w0 w [0, 1, 2, 3] 4 rfl (by decide)).1, ← (stay_w1 w [0, 1, 2, 3] 4 rfl (by decide)).1]
    rfl
theorem own_w (w : Wd) : ownO (memW w) = true := own4 w.y w.l
/-- A call on the world alone, where there is more. -/
theorem WpCall.world {w : Wd} {x : Blk} {f : FuncId} {args : List Value} {v : Value} {bs' : List (Option Blk)} {K : Value → Heap → Prop} (c : SCall E f args (heapO (memW w)) v (heapO bs')) (own' : ownO bs' = true) (len : 4 ≤ bs'.length) (cells : AllOk bs'.length bs') (ha : args.all (okV 4) = true) (hu : args = args.map (unV [0, 1, 2, 3])) (res : okT bs'.length v = true) (v2 : Value) (bs2 : List (Option Blk)) (h2b : All2 (fun x y => x.map (unB (idsOf [0, 1, 2, 3] 5 bs'.length)) = y) bs' bs2) (hv : unT (idsOf [0, 1, 2, 3] 5 bs'.length) v = v2) (k : K v2 (layR (memX w x) [0, 1, 2, 3] bs2)) : WpCall E f args (memX w x) K :=
  WpCall.lentH [0, 1, 2, 3] (h := memX w x) ⟨c, own_w w, own', len, ha, cells, res⟩ (by decide) (opW w x) hu v2 bs2 h2b hv _ rfl k
theorem VW.same (w : Wd) (x : Blk) (hx : x.cells.all flat = true) : VW (memX w x) w x :=
  ⟨2, 3, _, _, _, by decide, rfl, rfl, (stay_wy _ _ 5 rfl (by decide)).1, (stay_w0 w _ 5 rfl (by decide)).1, (stay_w1 w _ 5 rfl (by decide)).1, (optWy _ rfl).t, optQ _ rfl, optS rfl hx⟩
theorem unB_sd (rl : List Nat) (a b : Sd) (wa wb : Value) : unB rl (sdB a b wa wb) = sdB a b (unC rl wa) (unC rl wb) := rfl
theorem unB_w {rl : List Nat} (h : rl.getD 1 0 = 1) (t : Int) (wv : Value) : unB rl (wB t wv) = wB t (unC rl wv) := by
  show Blk.mk 64 true [Value.slice (some ⟨rl.getD 1 0, 0, none⟩) 2 2, _, _] = _
  rw [h]
  rfl
theorem unB_opt {rl : List Nat} {o : Option Blk} (h : ∀ x, o = some x → x.cells.all flat = true) : o.map (unB rl) = o := by
  cases o with
  | none => rfl
  | some b =>
    obtain ⟨e, w, c⟩ := b
    exact congrArg some (unB_flat (h _ rfl))
theorem flat_wy (y : Wy) : ∀ x, wyB y = some x → x.cells.all flat = true := fun x e => by
  cases y with
  | nil => cases e
  | own l z =>
    obtain rfl := Option.some.inj e
    exact wyC_flat l z
theorem flat_q (l : List Up) : ∀ x, qO l = some x → x.cells.all flat = true := fun x e => by
  unfold qO at e
  split at e
  · cases e
  · obtain rfl := Option.some.inj e
    exact ucs_flat l
/-- A call that leaves the world as it is. -/
theorem WpCall.stay {w : Wd} {x : Blk} {f : FuncId} {args : List Value} {v : Value} {K : Value → Heap → Prop} (c : SCall E f args (heapO (memW w)) v (heapO (memW w))) (ha : args.all (okV 4) = true) (hu : args = args.map (unV [0, 1, 2, 3])) (res : okT 4 v = true) (hv : unT [0, 1, 2, 3] v = v) (k : K v (memX w x)) : WpCall E f args (memX w x) K := by
  refine WpCall.world c (own_w w) (Nat.le_refl _) (.cons (ok_one (ok_w (show 1 < 4 by decide) (ok_stay (stay_wy _) (show 2 < 4 by decide) (by decide)))) (.cons (ok_one (ok_sd _ _ (ok_stay (stay_w0 w) (show 3 < 4 by decide) (by decide)) (ok_stay (stay_w1 w) (show 3 < 4 by decide) (by decide)))) (.cons (ok_wy _) (.cons (ok_q _) .nil)))) ha hu res v (memW w) ?_ hv ?_
  · refine .cons ?_ (.cons ?_ (.cons (unB_opt (flat_wy _)) (.cons (unB_opt (flat_q _)) .nil)))
    · show some (unB [0, 1, 2, 3] _) = _
      rw [unB_w rfl, ← (stay_wy w.y [0, 1, 2, 3] 4 rfl (by decide)).1]
    · show some (unB [0, 1, 2, 3] _) = _
      rw [unB_sd, ← (stay_w0 w [0, 1, 2, 3] 4 rfl (by decide)).1, ← (stay_w1 w [0, 1, 2, 3] 4 rfl (by decide)).1]
  · have e : layR (memX w x) [0, 1, 2, 3] (memW w) = memX w x := by
      show Heap.mk _ _ = Heap.mk _ _
      congr 1
      funext i
      show (if i = 3 then qO w.l else if i = 2 then wyB w.y else if i = 1 then some (sdB w.a w.b (w0 w) (w1 w)) else if i = 0 then some (wB w.t (wyV w.y)) else (memX w x).get i) = (memX w x).get i
      split
      · rename_i h; subst h; rfl
      split
      · rename_i h; subst h; rfl
      split
      · rename_i h; subst h; rfl
      split
      · rename_i h; subst h; rfl
      · rfl
    rw [e]
    exact k
/-- What comes behind a part, told for some state of which something holds. -/
theorem Wp.mergeE {α : Type} {L : Nat} {n : Nat} {c b : Code} {s : Slots} {h : Heap} {K : AExit → Slots → Heap → Prop} (P : α → Prop) (l : List (Nat × Value)) (tg : α → Heap) (h1 : Wp L E n c s h (fun x s h => x = .normal ∧ ∃ a, P a ∧ View L E n s h (layj l) (tg a))) (h2 : ∀ a, P a → Wp L E n b (layj l) (tg a) K) : Wp L E n c s h (thenK (fun s h => Wp L E n b s h K) K) :=
  Wp.mono h1 fun x s h hx => by
    obtain ⟨rfl, a, pa, v⟩ := hx
    exact Wp.view v (h2 a pa)
end Go.Proofs.Ytlejgfeoffhjoaa.D
