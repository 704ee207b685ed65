/- A world's memory; what a world tells. -/
import Derived.Test.YtlejgfeoffhjoaaFwLem
import Derived.Test.YtlejgfeoffhjoaaFwHole
import Derived.Test.YtlejgfeoffhjoaaFwHoleL
import Derived.Test.YtlejgfeoffhjoaaF34i
namespace Go.Proofs.Ytlejgfeoffhjoaa.D
open Go.Fw Go.RowKit

structure Dsp where
  r : List ByteArray
  m : List ByteArray
  i : Int
  j : Int
def Dsp.v (d : Dsp) : Value := dv 0 0 d.r d.m d.i d.j
structure Up where
  op : Int
  row : Int
  col : Int
  n : Int
  t : ByteArray
def Up.v (u : Up) : Value := uv u.op u.row u.col u.n u.t
def uc (u : Up) : List Value := [.int .i64 u.op, .int .i64 u.row, .int .i64 u.col, .int .i64 u.n, .string u.t]
def ucs (l : List Up) : List Value := l.flatMap uc
theorem ucs_len : ∀ l, (ucs l).length = l.length * 5
  | [] => rfl
  | a :: l => by
    have ih := ucs_len l
    unfold ucs at ih ⊢
    rw [List.flatMap_cons, List.length_append, ih, List.length_cons]
    show 5 + _ = _
    omega
theorem ucs_flat : ∀ l, (ucs l).all flat = true
  | [] => rfl
  | a :: l => by
    have ih := ucs_flat l
    unfold ucs at ih ⊢
    rw [List.flatMap_cons, List.all_append, ih]
    rfl
theorem ucs_app (a b : List Up) : ucs (a ++ b) = ucs a ++ ucs b := by simp [ucs]
theorem ucs_all (l : List Up) : cellsAt (ucs l) 0 (l.length * 5) = some (ucs l) := by
  unfold cellsAt
  rw [ucs_len, if_pos (by omega), List.drop_zero, List.take_of_length_le (by rw [ucs_len]; exact Nat.le_refl _)]
theorem ucs_at (l : List Up) {i : Nat} (h : i < l.length) : cellsAt (ucs l) (i * 5) 5 = some (uc l[i]) := by
  unfold cellsAt
  rw [ucs_len, if_pos (by omega)]
  congr 1
  have e : l = l.take i ++ l[i] :: l.drop (i + 1) := by rw [List.getElem_cons_drop, List.take_append_drop]
  have h2 : (ucs (l.take i)).length = i * 5 := by rw [ucs_len, List.length_take, Nat.min_eq_left (by omega)]
  have e2 : ucs l = ucs (l.take i) ++ (uc l[i] ++ ucs (l.drop (i + 1))) := by
    conv => lhs; rw [e]
    unfold ucs
    rw [List.flatMap_append, List.flatMap_cons]
  rw [e2, List.drop_left' h2]
  rfl
/-- What waits, as a row. -/
def qB (l : List Up) : Blk := ⟨26, true, ucs l⟩
/-- A delivery. -/
structure Dl where
  dst : Int
  l : List Up
  give : Bool
  sent : Dsp
def xU (l : List Up) : Nat := if l = [] then 2 else 0
def fU (l : List Up) : Value := FS 26 l.length (xU l) (ucs l).toArray
def dlc (d : Dl) : List Value := [.int .i64 d.dst, fU d.l, .bool d.give, strs 0 d.sent.r, strs 0 d.sent.m, .int .i64 d.sent.i, .int .i64 d.sent.j]
def dlcs (l : List Dl) : List Value := l.flatMap dlc
theorem dlcs_len : ∀ l, (dlcs l).length = l.length * 7
  | [] => rfl
  | a :: l => by
    have ih := dlcs_len l
    unfold dlcs at ih ⊢
    rw [List.flatMap_cons, List.length_append, ih, List.length_cons]
    show 7 + _ = _
    omega
theorem dlcs_flat : ∀ l, (dlcs l).all flat = true
  | [] => rfl
  | a :: l => by
    have ih := dlcs_flat l
    unfold dlcs at ih ⊢
    rw [List.flatMap_cons, List.all_append, ih]
    rfl
theorem dlcs_app (a b : List Dl) : dlcs (a ++ b) = dlcs a ++ dlcs b := by simp [dlcs]
/-- The zero of a delivery, as cells. -/
def z7 : List Value := [.int .i64 0, .slice none 0 0, .bool false, .slice none 0 0, .slice none 0 0, .int .i64 0, .int .i64 0]
/-- What is on the way: nil, or a row of one's own, with room for one more or not. -/
inductive Wy where
  | nil
  | own (l : List Dl) (z : Bool)
def Wy.l : Wy → List Dl
  | .nil => []
  | .own l _ => l
def wyV : Wy → Value
  | .nil => .slice none 0 0
  | .own l z => .slice (some ⟨2, 0, none⟩) l.length (bif z then l.length + 1 else l.length)
def wyC : List Dl → Bool → List Value := fun l z => dlcs l ++ bif z then z7 else []
def wyB : Wy → Option Blk
  | .nil => none
  | .own l z => some ⟨88, true, wyC l z⟩
theorem wyC_flat (l : List Dl) (z : Bool) : (wyC l z).all flat = true := by
  unfold wyC
  rw [List.all_append, dlcs_flat]
  cases z <;> rfl
structure Sd where
  shown : Dsp
  kept : Dsp
  mark : Int
/-- The world, and its two sides. -/
def wB (t : Int) (wv : Value) : Blk := ⟨64, true, [.slice (some ⟨1, 0, none⟩) 2 2, .int .i64 t, wv]⟩
def sdB (a b : Sd) (wa wb : Value) : Blk := ⟨83, true, [strs 0 a.shown.r, strs 0 a.shown.m, .int .i64 a.shown.i, .int .i64 a.shown.j, strs 0 a.kept.r, strs 0 a.kept.m, .int .i64 a.kept.i, .int .i64 a.kept.j, .int .i64 a.mark, wa, strs 0 b.shown.r, strs 0 b.shown.m, .int .i64 b.shown.i, .int .i64 b.shown.j, strs 0 b.kept.r, strs 0 b.kept.m, .int .i64 b.kept.i, .int .i64 b.kept.j, .int .i64 b.mark, wb]⟩
/-- A callee that only reads, walked in whatever memory. -/
theorem SCall.same {f : FuncId} {fn : Func} {c : Code} {args : List Value} {h : Heap} {v : Value} (hf : E.funcs f = some fn) (hb : fn.body = some c) (hl : args.length ≤ fn.ntmps)
    (hw : Wp h.next E fn.ntmps c (slots0 args) h (endK E fn fun v1 h1 => v1 = v ∧ h1 = h)) : SCall E f args h v h := by
  refine fun ok => ⟨⟨fn, hf, by rw [hb]; rfl⟩, fun μ base w args' R hbase ha => ?_⟩
  refine Calls.mono (enter ok (Nat.le_refl _) hf hb hl hw R hbase ha) fun e w' he => ?_
  obtain ⟨v1, h1, v', μ', ⟨rfl, rfl⟩, rfl, R', t, hv⟩ := he
  exact ⟨v', μ', rfl, R', ⟨t.next, t.mu, t.back, fun b x _ h2 _ => h2, fun b x h2 h3 _ => absurd h3 (Nat.not_lt.2 h2), t.mem, t.ice, t.icy, t.iced, t.below.size, t.iceY, t.icedY⟩, t.below, hv⟩
theorem WpCall.same {f : FuncId} {args : List Value} {h g : Heap} {v : Value} {K : Value → Heap → Prop} (c : SCall E f args g v g) (e : h = g) (k : K v g) : WpCall E f args h K := by
  subst e
  exact WpCall.by c k
theorem f49 : E.funcs 49 = some Try.f49 := by kernel_rfl
def vW (o : Option Blk) : Bool := match o with
  | some ⟨64, true, [.slice (some ⟨1, 0, none⟩) 2 2, .int .i64 _, _]⟩ => true
  | _ => false
theorem vW_eq {o : Option Blk} (h : vW o = true) : ∃ t wv, o = some ⟨64, true, [.slice (some ⟨1, 0, none⟩) 2 2, .int .i64 t, wv]⟩ := by
  unfold vW at h
  split at h
  · exact ⟨_, _, rfl⟩
  · cases h
theorem side49_0 {t : Int} {wv : Value} {g : Heap} (hg : g.get 0 = some ⟨64, true, [.slice (some ⟨1, 0, none⟩) 2 2, .int .i64 t, wv]⟩) : SCall E 49 [.pointer (some ⟨0, 0, none⟩), .int .i64 0] g (.bool true) g := by
  refine SCall.same f49 rfl (of_decide_eq_true (by kernel_rfl)) ?_
  refine Wp.seq (Wp.text (kp 4 (.bool false) (WpOps.nil (thenK_at (Wp.seq (Wp.text (kp 5 (.pointer (some ⟨0, 0, none⟩)) (kp 6 (.bool true) (kp 7 (.bool true) (kp 8 (.int .i64 0) (kp 9 (.bool true) (kp 10 (.bool true) (kp 11 (.bool true) (kp 12 (.int .i64 0) (kp 13 (.pointer (some ⟨0, 0, none⟩)) (kp 14 (.pointer (some ⟨0, 0, none⟩)) (kp 15 (.pointer (some ⟨0, 0, none⟩)) (kp 16 (.slice (some ⟨1, 0, none⟩) 2 2) (kp 17 (.int .i64 (↑2 : Int)) (kp 18 (.bool true) (kp 19 (.bool true) (kp 4 (.bool true) (WpOps.nil (thenK_at (Wp.ret (endK_retn [Value.bool true] (Value.bool true) (by kernel_rfl) (by kernel_rfl) ?_)))))))) (hop := fun _ => o_load1H (0) (0) hg)))))))))))))))))))
  exact ⟨rfl, rfl⟩
theorem WpCall.side0 {g : Heap} {K : Value → Heap → Prop} (hg : vW (g.get 0) = true) (k : K (.bool true) g) : WpCall E 49 [.pointer (some ⟨0, 0, none⟩), .int .i64 0] g K := by
  obtain ⟨t, wv, h⟩ := vW_eq hg
  exact WpCall.by (side49_0 h) k
theorem side49_1 {t : Int} {wv : Value} {g : Heap} (hg : g.get 0 = some ⟨64, true, [.slice (some ⟨1, 0, none⟩) 2 2, .int .i64 t, wv]⟩) : SCall E 49 [.pointer (some ⟨0, 0, none⟩), .int .i64 1] g (.bool true) g := by
  refine SCall.same f49 rfl (of_decide_eq_true (by kernel_rfl)) ?_
  refine Wp.seq (Wp.text (kp 4 (.bool false) (WpOps.nil (thenK_at (Wp.seq (Wp.text (kp 5 (.pointer (some ⟨0, 0, none⟩)) (kp 6 (.bool true) (kp 7 (.bool true) (kp 8 (.int .i64 1) (kp 9 (.bool true) (kp 10 (.bool true) (kp 11 (.bool true) (kp 12 (.int .i64 1) (kp 13 (.pointer (some ⟨0, 0, none⟩)) (kp 14 (.pointer (some ⟨0, 0, none⟩)) (kp 15 (.pointer (some ⟨0, 0, none⟩)) (kp 16 (.slice (some ⟨1, 0, none⟩) 2 2) (kp 17 (.int .i64 (↑2 : Int)) (kp 18 (.bool true) (kp 19 (.bool true) (kp 4 (.bool true) (WpOps.nil (thenK_at (Wp.ret (endK_retn [Value.bool true] (Value.bool true) (by kernel_rfl) (by kernel_rfl) ?_)))))))) (hop := fun _ => o_load1H (0) (0) hg)))))))))))))))))))
  exact ⟨rfl, rfl⟩
theorem WpCall.side1 {g : Heap} {K : Value → Heap → Prop} (hg : vW (g.get 0) = true) (k : K (.bool true) g) : WpCall E 49 [.pointer (some ⟨0, 0, none⟩), .int .i64 1] g K := by
  obtain ⟨t, wv, h⟩ := vW_eq hg
  exact WpCall.by (side49_1 h) k
theorem f27 : E.funcs 27 = some Try.f27 := by kernel_rfl
theorem f28 : E.funcs 28 = some Try.f28 := by kernel_rfl
theorem wait27_0n (t : Int) (wv : Value) (a b : Sd) (wx : Value) (rest : List (Option Blk)) : SCall E 27 [.pointer (some ⟨0, 0, none⟩), .int .i64 0] (heapO (some (wB t wv) :: some (sdB a b (.slice none 0 0) (wx)) :: rest)) (.tuple #[.int .i64 0, .int .i64 0]) (heapO (some (wB t wv) :: some (sdB a b (.slice none 0 0) (wx)) :: rest)) := by
  refine SCall.same f27 rfl (of_decide_eq_true (by kernel_rfl)) ?_
  unfold sdB wB
  refine Wp.seq (Wp.text (kp 4 (.int .i64 0) (kp 5 (.int .i64 0) (WpOps.nil (thenK_at (Wp.seq (Wp.seq (Wp.text (kp 6 (.pointer (some ⟨0, 0, none⟩)) (kp 7 (.int .i64 0) (cl 8 49 [Value.pointer (some ⟨0, 0, none⟩), Value.int .i64 0] ?_)))))))))))
  refine WpCall.side0 (by kernel_rfl) ?_
  refine kp 9 (.bool false) (WpOps.nil (thenK_at (off' (Wp.skip (thenK_at (Wp.seq (Wp.text (kp 10 (.pointer (some ⟨0, 0, none⟩)) (kp 11 (.pointer (some ⟨0, 0, none⟩)) (kp 12 (.pointer (some ⟨0, 0, none⟩)) (kp 13 (.slice (some ⟨1, 0, none⟩) 2 2) (kp 14 (.int .i64 0) (kp 15 (.pointer (some ⟨1, 0, none⟩)) (kp 16 (.pointer (some ⟨1, 9, none⟩)) (kp 17 (.slice none 0 0) (kp 18 (.int .i64 (↑0 : Int)) (kp 4 (.int .i64 (↑0 : Int)) (kp 5 (.int .i64 0) (WpOps.nil (thenK_at (Wp.ret (endK_retn [Value.int .i64 (↑0 : Int), Value.int .i64 0] (Value.tuple #[Value.int .i64 (↑0 : Int), Value.int .i64 0]) (by kernel_rfl) (by kernel_rfl) ?_))))))))))))))))))))))
  exact ⟨rfl, rfl⟩
theorem wait27_0o (t : Int) (wv : Value) (a b : Sd) (wx : Value) (k : Nat) (rest : List (Option Blk)) : SCall E 27 [.pointer (some ⟨0, 0, none⟩), .int .i64 0] (heapO (some (wB t wv) :: some (sdB a b (.slice (some ⟨3, 0, none⟩) k k) (wx)) :: rest)) (.tuple #[.int .i64 k, .int .i64 0]) (heapO (some (wB t wv) :: some (sdB a b (.slice (some ⟨3, 0, none⟩) k k) (wx)) :: rest)) := by
  refine SCall.same f27 rfl (of_decide_eq_true (by kernel_rfl)) ?_
  unfold sdB wB
  refine Wp.seq (Wp.text (kp 4 (.int .i64 0) (kp 5 (.int .i64 0) (WpOps.nil (thenK_at (Wp.seq (Wp.seq (Wp.text (kp 6 (.pointer (some ⟨0, 0, none⟩)) (kp 7 (.int .i64 0) (cl 8 49 [Value.pointer (some ⟨0, 0, none⟩), Value.int .i64 0] ?_)))))))))))
  refine WpCall.side0 (by kernel_rfl) ?_
  refine kp 9 (.bool false) (WpOps.nil (thenK_at (off' (Wp.skip (thenK_at (Wp.seq (Wp.text (kp 10 (.pointer (some ⟨0, 0, none⟩)) (kp 11 (.pointer (some ⟨0, 0, none⟩)) (kp 12 (.pointer (some ⟨0, 0, none⟩)) (kp 13 (.slice (some ⟨1, 0, none⟩) 2 2) (kp 14 (.int .i64 0) (kp 15 (.pointer (some ⟨1, 0, none⟩)) (kp 16 (.pointer (some ⟨1, 9, none⟩)) (kp 17 (.slice (some ⟨3, 0, none⟩) k k) (kp 18 (.int .i64 k) (kp 4 (.int .i64 k) (kp 5 (.int .i64 0) (WpOps.nil (thenK_at (Wp.ret (endK_retn [Value.int .i64 k, Value.int .i64 0] (Value.tuple #[Value.int .i64 k, Value.int .i64 0]) (by kernel_rfl) (by kernel_rfl) ?_))))))))))))))))))))))
  exact ⟨rfl, rfl⟩
theorem wait27_1n (t : Int) (wv : Value) (a b : Sd) (wx : Value) (rest : List (Option Blk)) : SCall E 27 [.pointer (some ⟨0, 0, none⟩), .int .i64 1] (heapO (some (wB t wv) :: some (sdB a b (wx) (.slice none 0 0)) :: rest)) (.tuple #[.int .i64 0, .int .i64 0]) (heapO (some (wB t wv) :: some (sdB a b (wx) (.slice none 0 0)) :: rest)) := by
  refine SCall.same f27 rfl (of_decide_eq_true (by kernel_rfl)) ?_
  unfold sdB wB
  refine Wp.seq (Wp.text (kp 4 (.int .i64 0) (kp 5 (.int .i64 0) (WpOps.nil (thenK_at (Wp.seq (Wp.seq (Wp.text (kp 6 (.pointer (some ⟨0, 0, none⟩)) (kp 7 (.int .i64 1) (cl 8 49 [Value.pointer (some ⟨0, 0, none⟩), Value.int .i64 1] ?_)))))))))))
  refine WpCall.side1 (by kernel_rfl) ?_
  refine kp 9 (.bool false) (WpOps.nil (thenK_at (off' (Wp.skip (thenK_at (Wp.seq (Wp.text (kp 10 (.pointer (some ⟨0, 0, none⟩)) (kp 11 (.pointer (some ⟨0, 0, none⟩)) (kp 12 (.pointer (some ⟨0, 0, none⟩)) (kp 13 (.slice (some ⟨1, 0, none⟩) 2 2) (kp 14 (.int .i64 1) (kp 15 (.pointer (some ⟨1, 10, none⟩)) (kp 16 (.pointer (some ⟨1, 19, none⟩)) (kp 17 (.slice none 0 0) (kp 18 (.int .i64 (↑0 : Int)) (kp 4 (.int .i64 (↑0 : Int)) (kp 5 (.int .i64 0) (WpOps.nil (thenK_at (Wp.ret (endK_retn [Value.int .i64 (↑0 : Int), Value.int .i64 0] (Value.tuple #[Value.int .i64 (↑0 : Int), Value.int .i64 0]) (by kernel_rfl) (by kernel_rfl) ?_))))))))))))))))))))))
  exact ⟨rfl, rfl⟩
theorem wait27_1o (t : Int) (wv : Value) (a b : Sd) (wx : Value) (k : Nat) (rest : List (Option Blk)) : SCall E 27 [.pointer (some ⟨0, 0, none⟩), .int .i64 1] (heapO (some (wB t wv) :: some (sdB a b (wx) (.slice (some ⟨3, 0, none⟩) k k)) :: rest)) (.tuple #[.int .i64 k, .int .i64 0]) (heapO (some (wB t wv) :: some (sdB a b (wx) (.slice (some ⟨3, 0, none⟩) k k)) :: rest)) := by
  refine SCall.same f27 rfl (of_decide_eq_true (by kernel_rfl)) ?_
  unfold sdB wB
  refine Wp.seq (Wp.text (kp 4 (.int .i64 0) (kp 5 (.int .i64 0) (WpOps.nil (thenK_at (Wp.seq (Wp.seq (Wp.text (kp 6 (.pointer (some ⟨0, 0, none⟩)) (kp 7 (.int .i64 1) (cl 8 49 [Value.pointer (some ⟨0, 0, none⟩), Value.int .i64 1] ?_)))))))))))
  refine WpCall.side1 (by kernel_rfl) ?_
  refine kp 9 (.bool false) (WpOps.nil (thenK_at (off' (Wp.skip (thenK_at (Wp.seq (Wp.text (kp 10 (.pointer (some ⟨0, 0, none⟩)) (kp 11 (.pointer (some ⟨0, 0, none⟩)) (kp 12 (.pointer (some ⟨0, 0, none⟩)) (kp 13 (.slice (some ⟨1, 0, none⟩) 2 2) (kp 14 (.int .i64 1) (kp 15 (.pointer (some ⟨1, 10, none⟩)) (kp 16 (.pointer (some ⟨1, 19, none⟩)) (kp 17 (.slice (some ⟨3, 0, none⟩) k k) (kp 18 (.int .i64 k) (kp 4 (.int .i64 k) (kp 5 (.int .i64 0) (WpOps.nil (thenK_at (Wp.ret (endK_retn [Value.int .i64 k, Value.int .i64 0] (Value.tuple #[Value.int .i64 k, Value.int .i64 0]) (by kernel_rfl) (by kernel_rfl) ?_))))))))))))))))))))))
  exact ⟨rfl, rfl⟩
theorem onway28n (t : Int) (rest : List (Option Blk)) : SCall E 28 [.pointer (some ⟨0, 0, none⟩)] (heapO (some (wB t (.slice none 0 0)) :: rest)) (.int .i64 0) (heapO (some (wB t (.slice none 0 0)) :: rest)) := by
  refine SCall.same f28 rfl (of_decide_eq_true (by kernel_rfl)) ?_
  unfold wB
  refine Wp.seq (Wp.text (kp 2 (.int .i64 0) (WpOps.nil (thenK_at (Wp.seq (Wp.seq (Wp.text (kp 3 (.pointer (some ⟨0, 0, none⟩)) (kp 4 (.bool false) (WpOps.nil (thenK_at (off' (Wp.skip (thenK_at (Wp.seq (Wp.text (kp 5 (.pointer (some ⟨0, 0, none⟩)) (kp 6 (.pointer (some ⟨0, 0, none⟩)) (kp 7 (.pointer (some ⟨0, 2, none⟩)) (kp 8 (.slice none 0 0) (kp 9 (.int .i64 (↑0 : Int)) (kp 2 (.int .i64 (↑0 : Int)) (WpOps.nil (thenK_at (Wp.ret (endK_retn [Value.int .i64 (↑0 : Int)] (Value.int .i64 (↑0 : Int)) (by kernel_rfl) (by kernel_rfl) ?_))))))))))))))))))))))))))
  exact ⟨rfl, rfl⟩
theorem onway28o (t : Int) (k c : Nat) (rest : List (Option Blk)) : SCall E 28 [.pointer (some ⟨0, 0, none⟩)] (heapO (some (wB t (.slice (some ⟨2, 0, none⟩) k c)) :: rest)) (.int .i64 k) (heapO (some (wB t (.slice (some ⟨2, 0, none⟩) k c)) :: rest)) := by
  refine SCall.same f28 rfl (of_decide_eq_true (by kernel_rfl)) ?_
  unfold wB
  refine Wp.seq (Wp.text (kp 2 (.int .i64 0) (WpOps.nil (thenK_at (Wp.seq (Wp.seq (Wp.text (kp 3 (.pointer (some ⟨0, 0, none⟩)) (kp 4 (.bool false) (WpOps.nil (thenK_at (off' (Wp.skip (thenK_at (Wp.seq (Wp.text (kp 5 (.pointer (some ⟨0, 0, none⟩)) (kp 6 (.pointer (some ⟨0, 0, none⟩)) (kp 7 (.pointer (some ⟨0, 2, none⟩)) (kp 8 (.slice (some ⟨2, 0, none⟩) k c) (kp 9 (.int .i64 k) (kp 2 (.int .i64 k) (WpOps.nil (thenK_at (Wp.ret (endK_retn [Value.int .i64 k] (Value.int .i64 k) (by kernel_rfl) (by kernel_rfl) ?_))))))))))))))))))))))))))
  exact ⟨rfl, rfl⟩
/-- What waits: nil, or a row. -/
def qV (l : List Up) : Value := if l = [] then .slice none 0 0 else .slice (some ⟨3, 0, none⟩) l.length l.length
def qO (l : List Up) : Option Blk := if l = [] then none else some (qB l)
/-- A value that leads to the third block, or to none. -/
def Stay (b : Nat) (w : Value) : Prop := ∀ (rl : List Nat) (m : Nat), rl.getD b 0 = b → b < m → w = unC rl w ∧ okC m w = true
theorem stay_nil (b : Nat) : Stay b (.slice none 0 0) := fun _ _ _ _ => ⟨rfl, rfl⟩
theorem stay_sl (b o n c : Nat) : Stay b (.slice (some ⟨b, o, none⟩) n c) := fun rl m h hm => ⟨by show _ = Value.slice (some ⟨rl.getD b 0, o, none⟩) n c; rw [h], decide_eq_true hm⟩
theorem stay_q (l : List Up) : Stay 3 (qV l) := by
  unfold qV
  split
  · exact stay_nil 3
  · exact stay_sl 3 0 _ _
theorem stay_wy (y : Wy) : Stay 2 (wyV y) := by
  cases y with
  | nil => exact stay_nil 2
  | own l z => exact stay_sl 2 0 _ _
/-- A block that may be there. -/
def OptAt (h : Heap) (k : Nat) (x : Option Blk) : Prop := ∀ b, x = some b → h.get k = some b ∧ b.cells.all flat = true
theorem optWy {h : Heap} {k : Nat} (y : Wy) (hg : h.get k = wyB y) : OptAt h k (wyB y) := fun b hb => ⟨hg.trans hb, by
  cases y with
  | nil => cases hb
  | own l z =>
    obtain rfl := Option.some.inj hb
    exact wyC_flat l z⟩
theorem optQ {h : Heap} {k : Nat} (l : List Up) (hg : h.get k = qO l) : OptAt h k (qO l) := fun b hb => ⟨hg.trans hb, by
  unfold qO at hb
  split at hb
  · cases hb
  · obtain rfl := Option.some.inj hb
    exact ucs_flat l⟩
theorem optN (h : Heap) (k : Nat) : OptAt h k none := fun b hb => by cases hb
theorem optS {h : Heap} {k : Nat} {x : Blk} (hg : h.get k = some x) (hf : x.cells.all flat = true) : OptAt h k (some x) := fun b hb => by
  obtain rfl := Option.some.inj hb
  exact ⟨hg, hf⟩
theorem BlksO.opt {h : Heap} {rl : List Nat} {m k : Nat} {ks : List Nat} {x : Option Blk} {xs : List (Option Blk)} (hx : OptAt h k x) (ht : BlksO E h rl m ks xs) : BlksO E h rl m (k :: ks) (x :: xs) := by
  cases x with
  | none => exact ht
  | some b =>
    obtain ⟨h1, h2⟩ := hx b rfl
    exact ⟨⟨_, h1, told_flat h2⟩, ht⟩
theorem blksW {h : Heap} {rl : List Nat} {m : Nat} {ks : List Nat} {xs : List (Option Blk)} {t : Int} {wv wv' wa wa' wb wb' : Value} {a b : Sd} {yb qb : Option Blk} (h0 : h.get 0 = some (wB t wv')) (h1 : h.get 1 = some (sdB a b wa' wb')) (hr : rl.getD 1 0 = 1) (hm : 3 < m)
    (hw : wv' = unC rl wv ∧ okC m wv = true) (ha : wa' = unC rl wa ∧ okC m wa = true) (hb : wb' = unC rl wb ∧ okC m wb = true) (h2 : OptAt h 2 yb) (h3 : OptAt h 3 qb) (ht : BlksO E h rl m ks xs) : BlksO E h rl m (0 :: 1 :: 2 :: 3 :: ks) (some (wB t wv) :: some (sdB a b wa wb) :: yb :: qb :: xs) := by
  have f : ∀ v : Value, flat v = true → ToldC E (h.less rl) rl m v v := fun v hv => by
    have := (CellsOk.flat (rl := rl) (m := m) (l := [v]) fun x hx => by
      obtain rfl : x = v := by simpa using hx
      exact hv)
    have e1 : [v] = [unC rl v] := this.1
    exact .inl ⟨(List.cons.inj e1).1, by simpa using this.2⟩
  refine ⟨⟨_, h0, .cons (.inl ⟨?_, decide_eq_true (by omega)⟩) (.cons (f _ rfl) (.cons (.inl hw) .nil))⟩, ⟨_, h1, ?_⟩, BlksO.opt h2 (BlksO.opt h3 ht)⟩
  · show _ = Value.slice (some ⟨rl.getD 1 0, 0, none⟩) 2 2
    rw [hr]
  · exact .cons (f _ rfl) (.cons (f _ rfl) (.cons (f _ rfl) (.cons (f _ rfl) (.cons (f _ rfl) (.cons (f _ rfl) (.cons (f _ rfl) (.cons (f _ rfl) (.cons (f _ rfl) (.cons (.inl ha) (.cons (f _ rfl) (.cons (f _ rfl) (.cons (f _ rfl) (.cons (f _ rfl) (.cons (f _ rfl) (.cons (f _ rfl) (.cons (f _ rfl) (.cons (f _ rfl) (.cons (f _ rfl) (.cons (.inl hb) .nil)))))))))))))))))))
/-- The end of a method: nothing moved. -/
theorem endW {h : Heap} {v : Value} {t : Int} {wv wa wb : Value} {a b : Sd} {yb qb : Option Blk} (h0 : h.get 0 = some (wB t wv)) (h1 : h.get 1 = some (sdB a b wa wb)) (hw : Stay 2 wv) (ha : Stay 3 wa) (hb : Stay 3 wb) (h2 : OptAt h 2 yb) (h3 : OptAt h 3 qb) (hv : ToldV E (h.less [0, 1, 2, 3]) [0, 1, 2, 3] 4 v v) : LentO E 4 v [some (wB t wv), some (sdB a b wa wb), yb, qb] v h :=
  ⟨[0, 1, 2, 3], by decide, rfl, blksW h0 h1 rfl (show 3 < 4 by decide) (hw _ _ rfl (show 2 < 4 by decide)) (ha _ _ rfl (show 3 < 4 by decide)) (hb _ _ rfl (show 3 < 4 by decide)) h2 h3 (ks := []) (xs := []) trivial, hv⟩
/-- Told anew, in a callee that has five blocks. -/
theorem view5 {n : Nat} {s : Slots} {h : Heap} {l : List (Nat × Value)} {t : Int} {wv wa wb : Value} {a b : Sd} {yb qb : Option Blk} {x : Blk} (h0 : h.get 0 = some (wB t wv)) (h1 : h.get 1 = some (sdB a b wa wb)) (hw : Stay 2 wv) (ha : Stay 3 wa) (hb : Stay 3 wb) (h2 : OptAt h 2 yb) (h3 : OptAt h 3 qb) (hx : OptAt h 4 (some x)) (hs : SlotsOk [0, 1, 2, 3, 4] 5 s l) : View 5 E n s h (layj l) (heapO [some (wB t wv), some (sdB a b wa wb), yb, qb, some x]) :=
  View.ofO [0, 1, 2, 3, 4] _ _ (by decide) rfl (blksW h0 h1 rfl (show 3 < 5 by decide) (hw _ _ rfl (show 2 < 5 by decide)) (ha _ _ rfl (show 3 < 5 by decide)) (hb _ _ rfl (show 3 < 5 by decide)) h2 h3 (BlksO.opt hx (ks := []) (xs := []) trivial)) hs.told
/-- The end of a method: a row is at a new place, k. -/
theorem endW5 {h : Heap} {v : Value} {t : Int} {wv wv' wa wa' wb wb' : Value} {a b : Sd} {yb qb : Option Blk} (k : Nat) (x : Blk) (hk : 3 < k) (h0 : h.get 0 = some (wB t wv')) (h1 : h.get 1 = some (sdB a b wa' wb')) (hw : wv' = unC [0, 1, 2, 3, k] wv ∧ okC 5 wv = true) (ha : wa' = unC [0, 1, 2, 3, k] wa ∧ okC 5 wa = true) (hb : wb' = unC [0, 1, 2, 3, k] wb ∧ okC 5 wb = true) (h2 : OptAt h 2 yb) (h3 : OptAt h 3 qb) (hx : OptAt h k (some x)) (hv : ToldV E (h.less [0, 1, 2, 3, k]) [0, 1, 2, 3, k] 5 v v) : LentO E 4 v [some (wB t wv), some (sdB a b wa wb), yb, qb, some x] v h :=
  ⟨[0, 1, 2, 3, k], by simp; omega, rfl, blksW h0 h1 rfl (show 3 < 5 by decide) hw ha hb h2 h3 (BlksO.opt hx (ks := []) (xs := []) trivial), hv⟩
/-- Told anew within a method: a fifth block, where it is. -/
theorem viewW {n : Nat} {s : Slots} {h : Heap} {l : List (Nat × Value)} {t : Int} {wv wa wb : Value} {a b : Sd} {yb qb : Option Blk} {x : Blk} (h0 : h.get 0 = some (wB t wv)) (h1 : h.get 1 = some (sdB a b wa wb)) (hw : Stay 2 wv) (ha : Stay 3 wa) (hb : Stay 3 wb) (h2 : OptAt h 2 yb) (h3 : OptAt h 3 qb) (hx : OptAt h 4 (some x)) (hs : SlotsOk [0, 1, 2, 3, 4] 5 s l) : View 4 E n s h (layj l) (heapO [some (wB t wv), some (sdB a b wa wb), yb, qb, some x]) :=
  View.ofO [0, 1, 2, 3, 4] _ _ (by decide) rfl (blksW h0 h1 rfl (show 3 < 5 by decide) (hw _ _ rfl (show 2 < 5 by decide)) (ha _ _ rfl (show 3 < 5 by decide)) (hb _ _ rfl (show 3 < 5 by decide)) h2 h3 (BlksO.opt hx (ks := []) (xs := []) trivial)) hs.told
/-- A callee that only reads, with a fifth block. -/
theorem endS {L : Nat} {h : Heap} {v : Value} {t : Int} {wv wa wb : Value} {a b : Sd} {yb qb : Option Blk} (x : Blk) (hk : keepsL L [0, 1, 2, 3, 4] = true) (h0 : h.get 0 = some (wB t wv)) (h1 : h.get 1 = some (sdB a b wa wb)) (hw : Stay 2 wv) (ha : Stay 3 wa) (hb : Stay 3 wb) (h2 : OptAt h 2 yb) (h3 : OptAt h 3 qb) (hx : OptAt h 4 (some x)) (hv : ToldV E (h.less [0, 1, 2, 3, 4]) [0, 1, 2, 3, 4] 5 v v) : LentO E L v [some (wB t wv), some (sdB a b wa wb), yb, qb, some x] v h :=
  ⟨[0, 1, 2, 3, 4], by decide, hk, blksW h0 h1 rfl (show 3 < 5 by decide) (hw _ _ rfl (show 2 < 5 by decide)) (ha _ _ rfl (show 3 < 5 by decide)) (hb _ _ rfl (show 3 < 5 by decide)) h2 h3 (BlksO.opt hx (ks := []) (xs := []) trivial), hv⟩
theorem own5 {t : Int} {wv wa wb : Value} {a b : Sd} {x : Blk} (hx : x.own = true) (y : Wy) (l : List Up) : ownO [some (wB t wv), some (sdB a b wa wb), wyB y, qO l, some x] = true := by
  have h : ownO [some x] = true := by show (x.own && true) = true; rw [hx]; rfl
  unfold qO
  cases y <;> split <;> exact h
theorem own4 {t : Int} {wv wa wb : Value} {a b : Sd} (y : Wy) (l : List Up) : ownO [some (wB t wv), some (sdB a b wa wb), wyB y, qO l] = true := by
  unfold qO
  cases y <;> split <;> rfl
/-- An append for which there is room. -/
theorem o_appendI {cf : CallF} {s : Slots} {h : Heap} {args : Array Operand} {tys : Array TypeId} {e bl off n m c size el : Nat} {cells new : List Value} (h1 : n + m ≤ c) (hl : true = true ∧ off + n * size + new.length ≤ cells.length) (hm : ¬ m = 0 := by decide) (hb : h.get bl = some ⟨el, true, cells⟩ := by kernel_rfl)
    (ha : vArgs (evs s args.toList) = some (some ⟨bl, off, none⟩, n, c) := by kernel_rfl) (htys : vTys E tys.toList e = true := by kernel_rfl)
    (he : (E.types e).map TI.size = some size := by kernel_rfl) (hs : vSource e size (evs s args.toList) h = some (m, new) := by kernel_rfl) :
    aop E cf (.call { callee := .builtin .append, args := args, argTypes := tys }) s h = some (.slice (some ⟨bl, off, none⟩) (n + m) c, h.set bl (some ⟨el, true, setAll cells (off + n * size) new⟩)) := by
  obtain ⟨t, u, ti, ux, hty2, g1, g2, g3, g4⟩ := vTys_eq htys
  obtain ⟨te, g5, g6⟩ := Option.map_eq_some_iff.1 he
  subst g6
  unfold vArgs at ha
  split at ha
  · rename_i a n' c' xv hev
    cases ha
    rw [hev] at hs
    simp only [vSource] at hs
    have hop : aop E cf (.call { callee := .builtin .append, args := args, argTypes := tys }) s h = aappend E t u (.slice (some ⟨bl, off, none⟩) n c) xv h := by
      simp only [aop, hev, hty2, abuiltin]
    rw [hop]
    have hw : awrite bl (off + n * te.size) new h = some (h.set bl (some ⟨el, true, setAll cells (off + n * te.size) new⟩)) := by
      unfold awrite
      rw [hb]
      simp only [true_and]
      rw [if_pos hl.2]
    unfold aappend
    cases hux : ux.desc with
    | int k => exact absurd hux (g4 k)
    | _ => simp only [g1, g3, g2, g5, hux, hs, if_pos h1, if_neg hm, hw, Option.map_some]
  · cases ha
end Go.Proofs.Ytlejgfeoffhjoaa.D
