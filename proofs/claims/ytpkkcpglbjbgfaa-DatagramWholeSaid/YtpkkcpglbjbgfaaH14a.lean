/- A store of one whole: is a piece of it? -/
import Derived.Test.YtpkkcpglbjbgfaaFwLem
import Derived.Test.YtpkkcpglbjbgfaaFwCons
import Derived.Test.YtpkkcpglbjbgfaaFwMat
import Derived.Test.YtpkkcpglbjbgfaaFwEnter
import Derived.Test.YtpkkcpglbjbgfaaFwOver
import Derived.Test.YtpkkcpglbjbgfaaFwBytes
import Derived.Test.YtpkkcpglbjbgfaaH14p
namespace Go.Proofs.Ytpkkcpglbjbgfaa.D
open Go.Fw Go.RowKit

def zc : List Value := [.slice none 0 0, .slice none 0 0, .int .i64 0, .int .i64 0, .int .i64 0, .int .i64 0, .int .i64 0, .bool false, .bool false, .bool false, .string ByteArray.empty]
def wN (T : Nat) (k : Gr) : List Value := [.slice none 0 0, .slice none 0 0, .int .i64 0, .int .i64 0, .int .i64 0, .int .i64 0, .int .i64 0, .bool false, .bool false, .bool false, .string ByteArray.empty, .bool false, sl k.fx k.fr, sl k.tx k.to, .int .i64 k.number, .int .i64 k.life, .int .i64 k.at', .int .i64 k.total, .int .i64 k.report, .bool k.more, .bool k.may, .bool k.wants, .string k.data, .slice (some ⟨3, 0, none⟩) T T, .slice (some ⟨4, 0, none⟩) T T, .int .i64 60]
def wB (T : Nat) (h k : Gr) : List Value := [sl h.fx h.fr, sl h.tx h.to, .int .i64 h.number, .int .i64 h.life, .int .i64 h.at', .int .i64 h.total, .int .i64 h.report, .bool h.more, .bool h.may, .bool h.wants, .string h.data, .bool true, sl k.fx k.fr, sl k.tx k.to, .int .i64 k.number, .int .i64 k.life, .int .i64 k.at', .int .i64 k.total, .int .i64 k.report, .bool k.more, .bool k.may, .bool k.wants, .string k.data, .slice (some ⟨3, 0, none⟩) T T, .slice (some ⟨4, 0, none⟩) T T, .int .i64 60]
def st1 : Blk := ⟨66, true, [.int .i64 1, .int .i64 60, .slice (some ⟨1, 0, none⟩) 1 1]⟩
def ar1 : Blk := ⟨119, true, [.pointer (some ⟨2, 0, none⟩)]⟩
/-- Numbers of a byte each, whether they are there. -/
def mkB (w : Nat) (f : Nat → UInt8) : ByteArray := ⟨((List.range w).map f).toArray⟩
theorem mkB_size (w : Nat) (f : Nat → UInt8) : (mkB w f).size = w := by
  show ((List.range w).map f).toArray.size = w
  simp
theorem mkB_congr {w : Nat} {f g : Nat → UInt8} (h : ∀ i, i < w → f i = g i) : mkB w f = mkB w g := by
  unfold mkB
  congr 2
  exact List.map_congr_left fun i hi => h i (List.mem_range.1 hi)
theorem mkB_cells (w : Nat) (f : Nat → UInt8) : byteCells (mkB w f) = (List.range w).map fun i => Value.int .u8 (f i).toNat := by
  unfold byteCells mkB
  simp
theorem map_set {α : Type} (w : Nat) (f : Nat → α) (k : Nat) (b : α) : ((List.range w).map f).set k b = (List.range w).map fun i => if i = k then b else f i := by
  apply List.ext_getElem?
  intro i
  rw [List.getElem?_set, List.getElem?_map, List.getElem?_map, List.length_map, List.length_range]
  by_cases h : k = i
  · subst h
    rw [if_pos rfl]
    by_cases hk : k < w
    · rw [if_pos hk, List.getElem?_range hk, Option.map_some, if_pos rfl]
    · rw [if_neg hk, List.getElem?_eq_none (by simp; omega)]
      rfl
  · rw [if_neg h]
    by_cases hi : i < w
    · rw [List.getElem?_range hi, Option.map_some, Option.map_some, if_neg (fun e => h e.symm)]
    · rw [List.getElem?_eq_none (by simp; omega)]
      rfl
theorem mkB_set (w : Nat) (f : Nat → UInt8) (k : Nat) (b : UInt8) : (byteCells (mkB w f)).set k (.int .u8 b.toNat) = byteCells (mkB w fun i => if i = k then b else f i) := by
  rw [mkB_cells, mkB_cells, map_set]
  refine List.map_congr_left fun i _ => ?_
  split <;> rfl
theorem zeros_map (v : Value) : ∀ w, zeros [v] w = (List.range w).map fun _ => v
  | 0 => rfl
  | w + 1 => by
    rw [zeros, zeros_map v w, List.range_succ_eq_map, List.map_cons, List.map_map]
    rfl
def bC (T : Nat) (th : Nat → Bool) : List Value := (List.range T).map fun i => Value.bool (th i)
def dC (D : ByteArray) (T : Nat) (th : Nat → Bool) : List Value := byteCells (mkB T fun i => if th i = true then byteAt D i else 0)
theorem bC_len (T : Nat) (th : Nat → Bool) : (bC T th).length = T := by simp [bC]
theorem dC_len (D : ByteArray) (T : Nat) (th : Nat → Bool) : (dC D T th).length = T := by unfold dC; rw [mkB_cells]; simp
theorem bC_flat (T : Nat) (th : Nat → Bool) : (bC T th).all flat = true := by
  rw [List.all_eq_true]
  intro v hv
  obtain ⟨i, _, rfl⟩ := List.mem_map.1 hv
  rfl
theorem dC_flat (D : ByteArray) (T : Nat) (th : Nat → Bool) : (dC D T th).all flat = true := byteCells_flat _
theorem bC_congr {T : Nat} {f g : Nat → Bool} (h : ∀ i, i < T → f i = g i) : bC T f = bC T g := List.map_congr_left fun i hi => by rw [h i (List.mem_range.1 hi)]
theorem dC_congr {D : ByteArray} {T : Nat} {f g : Nat → Bool} (h : ∀ i, i < T → f i = g i) : dC D T f = dC D T g := by
  unfold dC
  rw [mkB_congr fun i hi => by rw [h i hi]]
theorem bC_at {T : Nat} (th : Nat → Bool) {i : Nat} (h : i < T) : (bC T th)[i]? = some (.bool (th i)) := by
  unfold bC
  rw [List.getElem?_map, List.getElem?_range h]
  rfl
theorem bC_zero (T : Nat) : zeros [.bool false] T = bC T fun _ => false := zeros_map _ _
theorem dC_zero (D : ByteArray) (T : Nat) : zeros [.int .u8 0] T = dC D T fun _ => false := by
  unfold dC
  rw [mkB_cells, zeros_map]
  rfl
theorem pre7 {P : Nat → Blk → Prop} {a0 a1 a2 a3 a4 a5 a6 : Blk} (h0 : P 0 a0) (h1 : P 1 a1) (h2 : P 2 a2) (h3 : P 3 a3) (h4 : P 4 a4) (h5 : P 5 a5) (h6 : P 6 a6) : ∀ b x, [a0, a1, a2, a3, a4, a5, a6][b]? = some x → P b x
  | 0, x, h => by cases h; exact h0
  | 1, x, h => by cases h; exact h1
  | 2, x, h => by cases h; exact h2
  | 3, x, h => by cases h; exact h3
  | 4, x, h => by cases h; exact h4
  | 5, x, h => by cases h; exact h5
  | 6, x, h => by cases h; exact h6
  | b + 7, x, h => by simp at h
theorem f80 : E.funcs 80 = some Try.f80 := by kernel_rfl
theorem equal80 (x y : Nat) (a : List Int) (hl : a.length ≤ 9223372036854775806) : Fun E 80 [sl x a, sl y a] (.bool true) := by
  refine Fun.of f80 rfl (of_decide_eq_true (by kernel_rfl)) rfl ?_
  have d0 : ((a.length : Int) != (a.length : Int)) = false := by simp
  unfold sl
  refine Wp.seq (Wp.text ?_)
  refine kp 4 (.bool false) ?_
  refine WpOps.nil (thenK_at (Wp.seq (Wp.seq (Wp.text ?_))))
  refine kp 6 (.iface 3 (Value.iface (List.length a) (Value.iface x (Value.agg (List.toArray (List.map (fun n => Value.int .i64 n) a)))))) ?_
  refine kp 7 (.int IntKind.i64 (↑(List.length a) : Int)) ?_
  refine kp 8 (.iface 3 (Value.iface (List.length a) (Value.iface y (Value.agg (List.toArray (List.map (fun n => Value.int .i64 n) a)))))) ?_
  refine kp 9 (.int IntKind.i64 (↑(List.length a) : Int)) ?_
  refine kp 10 (.bool false) ?_ (hop := fun _ => by_fact d0)
  refine WpOps.nil (thenK_at (off' (Wp.skip (thenK_at (Wp.seq (Wp.seq (Wp.text ?_)))))))
  refine kp 11 (.iface 3 (Value.iface (List.length a) (Value.iface x (Value.agg (List.toArray (List.map (fun n => Value.int .i64 n) a)))))) ?_
  refine kp 12 (.int IntKind.i64 (↑(List.length a) : Int)) ?_
  refine kp 13 (.int IntKind.i64 0) ?_
  refine WpOps.nil (thenK_at (Wp.block ?_))
  refine Wp.loop (G := Nat) (fun i => layj [(0, sl x a), (1, sl y a), (12, .int .i64 a.length), (13, .int .i64 i)]) (fun _ => heapOf []) (fun i => a.length - i) (fun i => i ≤ a.length) 0
    (View.of [] [] _ (by decide) rfl trivial ⟨⟨by kernel_rfl, rfl⟩, ⟨by kernel_rfl, rfl⟩, ⟨by kernel_rfl, rfl⟩, ⟨by kernel_rfl, rfl⟩, trivial⟩) (Nat.zero_le _) ?_
  intro i hi
  unfold sl
  by_cases hlt : i < a.length
  · have d1 : decide ((i : Int) < a.length) = true := decide_eq_true (by omega)
    have g1 : 0 ≤ (i : Int) ∧ (i : Int) < a.length := by omega
    have v1 := sl_at a i hlt
    have d2 : (a.getD i 0 != a.getD i 0) = false := by simp
    refine Wp.seq (Wp.text ?_)
    refine kp 14 (.bool true) ?_ (hop := fun _ => by_fact d1)
    refine WpOps.nil (thenK_at (Wp.seq (on' (Wp.skip (thenK_at (Wp.seq (Wp.block (Wp.seq (Wp.text ?_)))))))))
    refine kp 15 (.int IntKind.i64 (↑i : Int)) ?_
    refine kp 5 (.int IntKind.i64 (↑i : Int)) ?_
    refine WpOps.nil (thenK_at (Wp.seq ?_))
    refine Wp.region (by kernel_rfl) ?_
    refine kp 16 (.iface 3 (Value.iface (List.length a) (Value.iface x (Value.agg (List.toArray (List.map (fun n => Value.int .i64 n) a)))))) ?_
    refine kp 17 (.int IntKind.i64 (↑i : Int)) ?_
    refine kp 18 (.iface 3 (Value.iface (Int.toNat (↑i : Int) * 1) (Value.agg (List.toArray (List.map (fun n => Value.int .i64 n) a))))) ?_ (hop := fun _ => o_indexI (e := 3) (size := 1) (a := (↑i : Int)) g1)
    refine kp 19 (.int IntKind.i64 (List.getD a i 0)) ?_ (hop := fun _ => o_loadI1 (Int.toNat (↑i : Int) * 1) v1)
    refine kp 20 (.iface 3 (Value.iface (List.length a) (Value.iface y (Value.agg (List.toArray (List.map (fun n => Value.int .i64 n) a)))))) ?_
    refine kp 21 (.int IntKind.i64 (↑i : Int)) ?_
    refine kp 22 (.iface 3 (Value.iface (Int.toNat (↑i : Int) * 1) (Value.agg (List.toArray (List.map (fun n => Value.int .i64 n) a))))) ?_ (hop := fun _ => o_indexI (e := 3) (size := 1) (a := (↑i : Int)) g1)
    refine kp 23 (.int IntKind.i64 (List.getD a i 0)) ?_ (hop := fun _ => o_loadI1 (Int.toNat (↑i : Int) * 1) v1)
    refine kp 24 (.bool false) ?_ (hop := fun _ => by_fact d2)
    refine WpOps.nil (thenK_at (off' (Wp.skip (blockK_norm (thenK_at (Wp.text ?_))))))
    refine kp 25 (.int IntKind.i64 (IntKind.wrap .i64 ((↑i : Int) + 1))) ?_
    refine kp 13 (.int IntKind.i64 (IntKind.wrap .i64 ((↑i : Int) + 1))) ?_
    refine WpOps.nil (thenK_at ?_)
    exact ⟨i + 1, by omega, by omega, View.of [] [] _ (by decide) rfl trivial ⟨⟨by kernel_rfl, rfl⟩, ⟨by kernel_rfl, rfl⟩, ⟨by kernel_rfl, rfl⟩, ⟨congrArg (Value.int .i64) (wr _ (by omega) (by omega)), rfl⟩, trivial⟩⟩
  · obtain rfl : i = a.length := by omega
    have d1 : decide ((a.length : Int) < a.length) = false := decide_eq_false (by omega)
    refine Wp.seq (Wp.text ?_)
    refine kp 14 (.bool false) ?_ (hop := fun _ => by_fact d1)
    refine WpOps.nil (thenK_at (Wp.seq (off' (Wp.exit (thenK_exit (thenK_exit (blockK_hit (thenK_at (Wp.seq (Wp.text ?_))))))))))
    refine kp 4 (.bool true) ?_
    refine WpOps.nil (thenK_at (Wp.ret ?_))
    refine endK_retn [Value.bool true] (Value.bool true) (by kernel_rfl) (by kernel_rfl) ?_
    rfl
theorem f61 : E.funcs 61 = some Try.f61 := by kernel_rfl
theorem f62 : E.funcs 62 = some Try.f62 := by kernel_rfl
theorem f63 : E.funcs 63 = some Try.f63 := by kernel_rfl
theorem of63N (T : Nat) (D : ByteArray) (th : Nat → Bool) (k p : Gr) (e1 : k.fr = p.fr) (e2 : k.to = p.to) (e3 : k.number = p.number) (h1 : p.fr.length ≤ 9223372036854775806) (h2 : p.to.length ≤ 9223372036854775806) : SCall E 63 [.pointer (some ⟨2, 0, none⟩), gv p] (heapOf [st1, ar1, ⟨122, true, (wN T k)⟩, ⟨5, true, dC D T th⟩, ⟨4, true, bC T th⟩, ⟨24, true, (gc p)⟩, ⟨24, true, zc⟩]) (.bool true) (heapOf [st1, ar1, ⟨122, true, (wN T k)⟩, ⟨5, true, dC D T th⟩, ⟨4, true, bC T th⟩, ⟨24, true, (gc p)⟩, ⟨24, true, zc⟩]) := by
  refine SCall.enterL f63 rfl (of_decide_eq_true (by kernel_rfl)) (by kernel_rfl) (by kernel_rfl) (Nat.le_refl _) ?_
  have c1 : Fun E 80 [sl k.fx k.fr, sl p.fx p.fr] (.bool true) := by rw [e1]; exact equal80 _ _ _ h1
  have c2 : Fun E 80 [sl k.tx k.to, sl p.tx p.to] (.bool true) := by rw [e2]; exact equal80 _ _ _ h2
  have e4 : (k.number == p.number) = true := by rw [e3]; simp
  refine Wp.seq (Wp.text ?_)
  refine md 3 (.pointer (some ⟨7, 0, none⟩)) (Blk.mk 24 true (gc p)) ?_
  refine kp 4 (.bool false) ?_
  refine WpOps.nil (thenK_at (Wp.seq ?_))
  refine Wp.region (by kernel_rfl) ?_
  refine kp 5 (.pointer (some ⟨2, 0, none⟩)) ?_
  refine kp 6 (.pointer (some ⟨2, 0, none⟩)) ?_
  refine kp 7 (.pointer (some ⟨2, 12, none⟩)) ?_
  refine kp 8 (.pointer (some ⟨2, 14, none⟩)) ?_
  refine kp 9 (.int IntKind.i64 (Gr.number k)) ?_
  refine kp 10 (.pointer (some ⟨7, 2, none⟩)) ?_
  refine kp 11 (.int IntKind.i64 (Gr.number p)) ?_
  refine kp 12 (.bool true) ?_ (hop := fun _ => by_fact e4)
  refine kp 13 (.bool true) ?_
  refine kp 14 (.pointer (some ⟨2, 0, none⟩)) ?_
  refine kp 15 (.pointer (some ⟨2, 0, none⟩)) ?_
  refine kp 16 (.pointer (some ⟨2, 12, none⟩)) ?_
  refine kp 17 (.pointer (some ⟨2, 12, none⟩)) ?_
  refine kp 18 (.iface 3 (Value.iface (List.length (Gr.fr k)) (Value.iface (Gr.fx k) (Value.agg (List.toArray (List.map (fun n => Value.int .i64 n) (Gr.fr k))))))) ?_
  refine kp 19 (.pointer (some ⟨7, 0, none⟩)) ?_
  refine kp 20 (.iface 3 (Value.iface (List.length (Gr.fr p)) (Value.iface (Gr.fx p) (Value.agg (List.toArray (List.map (fun n => Value.int .i64 n) (Gr.fr p))))))) ?_
  refine fr 21 80 [Value.iface 3 (Value.iface (List.length (Gr.fr k)) (Value.iface (Gr.fx k) (Value.agg (List.toArray (List.map (fun n => Value.int .i64 n) (Gr.fr k)))))), Value.iface 3 (Value.iface (List.length (Gr.fr p)) (Value.iface (Gr.fx p) (Value.agg (List.toArray (List.map (fun n => Value.int .i64 n) (Gr.fr p))))))] ?_
  refine WpFun.of (c1) ?_
  refine kp 22 (.bool true) ?_
  refine kp 23 (.bool true) ?_
  refine kp 24 (.pointer (some ⟨2, 0, none⟩)) ?_
  refine kp 25 (.pointer (some ⟨2, 0, none⟩)) ?_
  refine kp 26 (.pointer (some ⟨2, 12, none⟩)) ?_
  refine kp 27 (.pointer (some ⟨2, 13, none⟩)) ?_
  refine kp 28 (.iface 3 (Value.iface (List.length (Gr.to k)) (Value.iface (Gr.tx k) (Value.agg (List.toArray (List.map (fun n => Value.int .i64 n) (Gr.to k))))))) ?_
  refine kp 29 (.pointer (some ⟨7, 1, none⟩)) ?_
  refine kp 30 (.iface 3 (Value.iface (List.length (Gr.to p)) (Value.iface (Gr.tx p) (Value.agg (List.toArray (List.map (fun n => Value.int .i64 n) (Gr.to p))))))) ?_
  refine fr 31 80 [Value.iface 3 (Value.iface (List.length (Gr.to k)) (Value.iface (Gr.tx k) (Value.agg (List.toArray (List.map (fun n => Value.int .i64 n) (Gr.to k)))))), Value.iface 3 (Value.iface (List.length (Gr.to p)) (Value.iface (Gr.tx p) (Value.agg (List.toArray (List.map (fun n => Value.int .i64 n) (Gr.to p))))))] ?_
  refine WpFun.of (c2) ?_
  refine kp 32 (.bool true) ?_
  refine kp 4 (.bool true) ?_
  refine WpOps.nil (thenK_at (Wp.ret ?_))
  refine endK_retn [Value.bool true] (Value.bool true) (by kernel_rfl) (by kernel_rfl) ?_
  exact lentSame [st1, ar1, ⟨122, true, (wN T k)⟩, ⟨5, true, dC D T th⟩, ⟨4, true, bC T th⟩, ⟨24, true, (gc p)⟩, ⟨24, true, zc⟩] (pre7 ⟨by kernel_rfl, by kernel_rfl⟩ ⟨by kernel_rfl, by kernel_rfl⟩ ⟨by kernel_rfl, by kernel_rfl⟩ ⟨by kernel_rfl, okCs_flat (dC_flat _ _ _)⟩ ⟨by kernel_rfl, okCs_flat (bC_flat _ _)⟩ ⟨by kernel_rfl, by kernel_rfl⟩ ⟨by kernel_rfl, by kernel_rfl⟩) (.w (.un rfl rfl))
theorem of63B (T : Nat) (D : ByteArray) (th : Nat → Bool) (h k p : Gr) (e1 : k.fr = p.fr) (e2 : k.to = p.to) (e3 : k.number = p.number) (h1 : p.fr.length ≤ 9223372036854775806) (h2 : p.to.length ≤ 9223372036854775806) : SCall E 63 [.pointer (some ⟨2, 0, none⟩), gv p] (heapOf [st1, ar1, ⟨122, true, (wB T h k)⟩, ⟨5, true, dC D T th⟩, ⟨4, true, bC T th⟩, ⟨24, true, (gc p)⟩, ⟨24, true, zc⟩]) (.bool true) (heapOf [st1, ar1, ⟨122, true, (wB T h k)⟩, ⟨5, true, dC D T th⟩, ⟨4, true, bC T th⟩, ⟨24, true, (gc p)⟩, ⟨24, true, zc⟩]) := by
  refine SCall.enterL f63 rfl (of_decide_eq_true (by kernel_rfl)) (by kernel_rfl) (by kernel_rfl) (Nat.le_refl _) ?_
  have c1 : Fun E 80 [sl k.fx k.fr, sl p.fx p.fr] (.bool true) := by rw [e1]; exact equal80 _ _ _ h1
  have c2 : Fun E 80 [sl k.tx k.to, sl p.tx p.to] (.bool true) := by rw [e2]; exact equal80 _ _ _ h2
  have e4 : (k.number == p.number) = true := by rw [e3]; simp
  refine Wp.seq (Wp.text ?_)
  refine md 3 (.pointer (some ⟨7, 0, none⟩)) (Blk.mk 24 true (gc p)) ?_
  refine kp 4 (.bool false) ?_
  refine WpOps.nil (thenK_at (Wp.seq ?_))
  refine Wp.region (by kernel_rfl) ?_
  refine kp 5 (.pointer (some ⟨2, 0, none⟩)) ?_
  refine kp 6 (.pointer (some ⟨2, 0, none⟩)) ?_
  refine kp 7 (.pointer (some ⟨2, 12, none⟩)) ?_
  refine kp 8 (.pointer (some ⟨2, 14, none⟩)) ?_
  refine kp 9 (.int IntKind.i64 (Gr.number k)) ?_
  refine kp 10 (.pointer (some ⟨7, 2, none⟩)) ?_
  refine kp 11 (.int IntKind.i64 (Gr.number p)) ?_
  refine kp 12 (.bool true) ?_ (hop := fun _ => by_fact e4)
  refine kp 13 (.bool true) ?_
  refine kp 14 (.pointer (some ⟨2, 0, none⟩)) ?_
  refine kp 15 (.pointer (some ⟨2, 0, none⟩)) ?_
  refine kp 16 (.pointer (some ⟨2, 12, none⟩)) ?_
  refine kp 17 (.pointer (some ⟨2, 12, none⟩)) ?_
  refine kp 18 (.iface 3 (Value.iface (List.length (Gr.fr k)) (Value.iface (Gr.fx k) (Value.agg (List.toArray (List.map (fun n => Value.int .i64 n) (Gr.fr k))))))) ?_
  refine kp 19 (.pointer (some ⟨7, 0, none⟩)) ?_
  refine kp 20 (.iface 3 (Value.iface (List.length (Gr.fr p)) (Value.iface (Gr.fx p) (Value.agg (List.toArray (List.map (fun n => Value.int .i64 n) (Gr.fr p))))))) ?_
  refine fr 21 80 [Value.iface 3 (Value.iface (List.length (Gr.fr k)) (Value.iface (Gr.fx k) (Value.agg (List.toArray (List.map (fun n => Value.int .i64 n) (Gr.fr k)))))), Value.iface 3 (Value.iface (List.length (Gr.fr p)) (Value.iface (Gr.fx p) (Value.agg (List.toArray (List.map (fun n => Value.int .i64 n) (Gr.fr p))))))] ?_
  refine WpFun.of (c1) ?_
  refine kp 22 (.bool true) ?_
  refine kp 23 (.bool true) ?_
  refine kp 24 (.pointer (some ⟨2, 0, none⟩)) ?_
  refine kp 25 (.pointer (some ⟨2, 0, none⟩)) ?_
  refine kp 26 (.pointer (some ⟨2, 12, none⟩)) ?_
  refine kp 27 (.pointer (some ⟨2, 13, none⟩)) ?_
  refine kp 28 (.iface 3 (Value.iface (List.length (Gr.to k)) (Value.iface (Gr.tx k) (Value.agg (List.toArray (List.map (fun n => Value.int .i64 n) (Gr.to k))))))) ?_
  refine kp 29 (.pointer (some ⟨7, 1, none⟩)) ?_
  refine kp 30 (.iface 3 (Value.iface (List.length (Gr.to p)) (Value.iface (Gr.tx p) (Value.agg (List.toArray (List.map (fun n => Value.int .i64 n) (Gr.to p))))))) ?_
  refine fr 31 80 [Value.iface 3 (Value.iface (List.length (Gr.to k)) (Value.iface (Gr.tx k) (Value.agg (List.toArray (List.map (fun n => Value.int .i64 n) (Gr.to k)))))), Value.iface 3 (Value.iface (List.length (Gr.to p)) (Value.iface (Gr.tx p) (Value.agg (List.toArray (List.map (fun n => Value.int .i64 n) (Gr.to p))))))] ?_
  refine WpFun.of (c2) ?_
  refine kp 32 (.bool true) ?_
  refine kp 4 (.bool true) ?_
  refine WpOps.nil (thenK_at (Wp.ret ?_))
  refine endK_retn [Value.bool true] (Value.bool true) (by kernel_rfl) (by kernel_rfl) ?_
  exact lentSame [st1, ar1, ⟨122, true, (wB T h k)⟩, ⟨5, true, dC D T th⟩, ⟨4, true, bC T th⟩, ⟨24, true, (gc p)⟩, ⟨24, true, zc⟩] (pre7 ⟨by kernel_rfl, by kernel_rfl⟩ ⟨by kernel_rfl, by kernel_rfl⟩ ⟨by kernel_rfl, by kernel_rfl⟩ ⟨by kernel_rfl, okCs_flat (dC_flat _ _ _)⟩ ⟨by kernel_rfl, okCs_flat (bC_flat _ _)⟩ ⟨by kernel_rfl, by kernel_rfl⟩ ⟨by kernel_rfl, by kernel_rfl⟩) (.w (.un rfl rfl))
theorem fn62N (T : Nat) (D : ByteArray) (th : Nat → Bool) (k p : Gr) (e1 : k.fr = p.fr) (e2 : k.to = p.to) (e3 : k.number = p.number) (h1 : p.fr.length ≤ 9223372036854775806) (h2 : p.to.length ≤ 9223372036854775806) : SCall E 62 [.pointer (some ⟨2, 0, none⟩), .pointer (some ⟨5, 0, none⟩)] (heapOf [st1, ar1, ⟨122, true, (wN T k)⟩, ⟨5, true, dC D T th⟩, ⟨4, true, bC T th⟩, ⟨24, true, (gc p)⟩, ⟨24, true, zc⟩]) (.bool true) (heapOf [st1, ar1, ⟨122, true, (wN T k)⟩, ⟨5, true, dC D T th⟩, ⟨4, true, bC T th⟩, ⟨24, true, (gc p)⟩, ⟨24, true, zc⟩]) := by
  refine SCall.enterL f62 rfl (of_decide_eq_true (by kernel_rfl)) (by kernel_rfl) (by kernel_rfl) (Nat.le_refl _) ?_
  have c1 := of63N T D th k p e1 e2 e3 h1 h2
  refine Wp.seq (Wp.text ?_)
  refine kp 3 (.bool false) ?_
  refine WpOps.nil (thenK_at (Wp.seq (Wp.text ?_)))
  refine kp 4 (.pointer (some ⟨2, 0, none⟩)) ?_
  refine kp 5 (gv p) ?_
  refine cl 6 63 [Value.pointer (some ⟨2, 0, none⟩), gv p] ?_
  refine WpCall.enterL c1 rfl ?_
  refine kp 3 (.bool true) ?_
  refine WpOps.nil (thenK_at (Wp.ret ?_))
  refine endK_retn [Value.bool true] (Value.bool true) (by kernel_rfl) (by kernel_rfl) ?_
  exact lentSame [st1, ar1, ⟨122, true, (wN T k)⟩, ⟨5, true, dC D T th⟩, ⟨4, true, bC T th⟩, ⟨24, true, (gc p)⟩, ⟨24, true, zc⟩] (pre7 ⟨by kernel_rfl, by kernel_rfl⟩ ⟨by kernel_rfl, by kernel_rfl⟩ ⟨by kernel_rfl, by kernel_rfl⟩ ⟨by kernel_rfl, okCs_flat (dC_flat _ _ _)⟩ ⟨by kernel_rfl, okCs_flat (bC_flat _ _)⟩ ⟨by kernel_rfl, by kernel_rfl⟩ ⟨by kernel_rfl, by kernel_rfl⟩) (.w (.un rfl rfl))
theorem idx61N (T : Nat) (D : ByteArray) (th : Nat → Bool) (k p : Gr) (e1 : k.fr = p.fr) (e2 : k.to = p.to) (e3 : k.number = p.number) (h1 : p.fr.length ≤ 9223372036854775806) (h2 : p.to.length ≤ 9223372036854775806) : SCall E 61 [.slice (some ⟨1, 0, none⟩) 1 1, .func (.func 62) #[] #[.pointer (some ⟨5, 0, none⟩)]] (heapOf [st1, ar1, ⟨122, true, (wN T k)⟩, ⟨5, true, dC D T th⟩, ⟨4, true, bC T th⟩, ⟨24, true, (gc p)⟩, ⟨24, true, zc⟩]) (.int .i64 0) (heapOf [st1, ar1, ⟨122, true, (wN T k)⟩, ⟨5, true, dC D T th⟩, ⟨4, true, bC T th⟩, ⟨24, true, (gc p)⟩, ⟨24, true, zc⟩]) := by
  refine SCall.enterL f61 rfl (of_decide_eq_true (by kernel_rfl)) (by kernel_rfl) (by kernel_rfl) (Nat.le_refl _) ?_
  have c1 := fn62N T D th k p e1 e2 e3 h1 h2
  refine Wp.seq (Wp.text ?_)
  refine kp 4 (.int IntKind.i64 0) ?_
  refine WpOps.nil (thenK_at (Wp.seq (Wp.seq (Wp.text ?_))))
  refine kp 6 (.slice (some ⟨1, 0, none⟩) 1 1) ?_
  refine kp 7 (.int IntKind.i64 (↑1 : Int)) ?_
  refine kp 8 (.int IntKind.i64 0) ?_
  refine WpOps.nil (thenK_at (Wp.block ?_))
  refine Wp.loop (G := Nat) (fun i => layj [(0, .slice (some ⟨1, 0, none⟩) 1 1), (1, .func (.func 62) #[] #[.pointer (some ⟨5, 0, none⟩)]), (7, .int .i64 1), (8, .int .i64 i)]) (fun _ => heapOf [st1, ar1, ⟨122, true, (wN T k)⟩, ⟨5, true, dC D T th⟩, ⟨4, true, bC T th⟩, ⟨24, true, (gc p)⟩, ⟨24, true, zc⟩]) (fun _ => 0) (fun i => i = 0) 0
    (View.same [st1, ar1, ⟨122, true, (wN T k)⟩, ⟨5, true, dC D T th⟩, ⟨4, true, bC T th⟩, ⟨24, true, (gc p)⟩, ⟨24, true, zc⟩] _ (Nat.le_refl _) (pre7 ⟨by kernel_rfl, by kernel_rfl⟩ ⟨by kernel_rfl, by kernel_rfl⟩ ⟨by kernel_rfl, by kernel_rfl⟩ ⟨by kernel_rfl, okCs_flat (dC_flat _ _ _)⟩ ⟨by kernel_rfl, okCs_flat (bC_flat _ _)⟩ ⟨by kernel_rfl, by kernel_rfl⟩ ⟨by kernel_rfl, by kernel_rfl⟩) ⟨⟨by kernel_rfl, by kernel_rfl⟩, ⟨by kernel_rfl, by kernel_rfl⟩, ⟨by kernel_rfl, by kernel_rfl⟩, ⟨by kernel_rfl, by kernel_rfl⟩, trivial⟩) rfl ?_
  rintro i rfl
  refine Wp.seq (Wp.text ?_)
  refine kp 9 (.bool true) ?_
  refine WpOps.nil (thenK_at (Wp.seq (on' (Wp.skip (thenK_at (Wp.seq (Wp.block (Wp.seq (Wp.text ?_)))))))))
  refine kp 10 (.int IntKind.i64 (↑0 : Int)) ?_
  refine kp 5 (.int IntKind.i64 (↑0 : Int)) ?_
  refine WpOps.nil (thenK_at (Wp.seq (Wp.text ?_)))
  refine kp 11 (.func (Fn.func 62) #[] #[Value.pointer (some ⟨5, 0, none⟩)]) ?_
  refine kp 12 (.slice (some ⟨1, 0, none⟩) 1 1) ?_
  refine kp 13 (.int IntKind.i64 (↑0 : Int)) ?_
  refine kp 14 (.pointer (some ⟨1, 0, none⟩)) ?_
  refine kp 15 (.pointer (some ⟨2, 0, none⟩)) ?_
  refine cl 16 62 [Value.pointer (some ⟨2, 0, none⟩), Value.pointer (some ⟨5, 0, none⟩)] ?_
  refine WpCall.enterL c1 rfl ?_
  refine WpOps.nil (thenK_at (on' (Wp.seq (Wp.text ?_))))
  refine kp 17 (.int IntKind.i64 (↑0 : Int)) ?_
  refine kp 4 (.int IntKind.i64 (↑0 : Int)) ?_
  refine WpOps.nil (thenK_at (Wp.ret (blockK_ret (thenK_ret (thenK_ret (blockK_ret (thenK_ret ?_)))))))
  refine endK_retn [Value.int IntKind.i64 (↑0 : Int)] (Value.int IntKind.i64 (↑0 : Int)) (by kernel_rfl) (by kernel_rfl) ?_
  exact lentSame [st1, ar1, ⟨122, true, (wN T k)⟩, ⟨5, true, dC D T th⟩, ⟨4, true, bC T th⟩, ⟨24, true, (gc p)⟩, ⟨24, true, zc⟩] (pre7 ⟨by kernel_rfl, by kernel_rfl⟩ ⟨by kernel_rfl, by kernel_rfl⟩ ⟨by kernel_rfl, by kernel_rfl⟩ ⟨by kernel_rfl, okCs_flat (dC_flat _ _ _)⟩ ⟨by kernel_rfl, okCs_flat (bC_flat _ _)⟩ ⟨by kernel_rfl, by kernel_rfl⟩ ⟨by kernel_rfl, by kernel_rfl⟩) (.w (.un rfl rfl))
theorem fn62B (T : Nat) (D : ByteArray) (th : Nat → Bool) (h k p : Gr) (e1 : k.fr = p.fr) (e2 : k.to = p.to) (e3 : k.number = p.number) (h1 : p.fr.length ≤ 9223372036854775806) (h2 : p.to.length ≤ 9223372036854775806) : SCall E 62 [.pointer (some ⟨2, 0, none⟩), .pointer (some ⟨5, 0, none⟩)] (heapOf [st1, ar1, ⟨122, true, (wB T h k)⟩, ⟨5, true, dC D T th⟩, ⟨4, true, bC T th⟩, ⟨24, true, (gc p)⟩, ⟨24, true, zc⟩]) (.bool true) (heapOf [st1, ar1, ⟨122, true, (wB T h k)⟩, ⟨5, true, dC D T th⟩, ⟨4, true, bC T th⟩, ⟨24, true, (gc p)⟩, ⟨24, true, zc⟩]) := by
  refine SCall.enterL f62 rfl (of_decide_eq_true (by kernel_rfl)) (by kernel_rfl) (by kernel_rfl) (Nat.le_refl _) ?_
  have c1 := of63B T D th h k p e1 e2 e3 h1 h2
  refine Wp.seq (Wp.text ?_)
  refine kp 3 (.bool false) ?_
  refine WpOps.nil (thenK_at (Wp.seq (Wp.text ?_)))
  refine kp 4 (.pointer (some ⟨2, 0, none⟩)) ?_
  refine kp 5 (gv p) ?_
  refine cl 6 63 [Value.pointer (some ⟨2, 0, none⟩), gv p] ?_
  refine WpCall.enterL c1 rfl ?_
  refine kp 3 (.bool true) ?_
  refine WpOps.nil (thenK_at (Wp.ret ?_))
  refine endK_retn [Value.bool true] (Value.bool true) (by kernel_rfl) (by kernel_rfl) ?_
  exact lentSame [st1, ar1, ⟨122, true, (wB T h k)⟩, ⟨5, true, dC D T th⟩, ⟨4, true, bC T th⟩, ⟨24, true, (gc p)⟩, ⟨24, true, zc⟩] (pre7 ⟨by kernel_rfl, by kernel_rfl⟩ ⟨by kernel_rfl, by kernel_rfl⟩ ⟨by kernel_rfl, by kernel_rfl⟩ ⟨by kernel_rfl, okCs_flat (dC_flat _ _ _)⟩ ⟨by kernel_rfl, okCs_flat (bC_flat _ _)⟩ ⟨by kernel_rfl, by kernel_rfl⟩ ⟨by kernel_rfl, by kernel_rfl⟩) (.w (.un rfl rfl))
theorem idx61B (T : Nat) (D : ByteArray) (th : Nat → Bool) (h k p : Gr) (e1 : k.fr = p.fr) (e2 : k.to = p.to) (e3 : k.number = p.number) (h1 : p.fr.length ≤ 9223372036854775806) (h2 : p.to.length ≤ 9223372036854775806) : SCall E 61 [.slice (some ⟨1, 0, none⟩) 1 1, .func (.func 62) #[] #[.pointer (some ⟨5, 0, none⟩)]] (heapOf [st1, ar1, ⟨122, true, (wB T h k)⟩, ⟨5, true, dC D T th⟩, ⟨4, true, bC T th⟩, ⟨24, true, (gc p)⟩, ⟨24, true, zc⟩]) (.int .i64 0) (heapOf [st1, ar1, ⟨122, true, (wB T h k)⟩, ⟨5, true, dC D T th⟩, ⟨4, true, bC T th⟩, ⟨24, true, (gc p)⟩, ⟨24, true, zc⟩]) := by
  refine SCall.enterL f61 rfl (of_decide_eq_true (by kernel_rfl)) (by kernel_rfl) (by kernel_rfl) (Nat.le_refl _) ?_
  have c1 := fn62B T D th h k p e1 e2 e3 h1 h2
  refine Wp.seq (Wp.text ?_)
  refine kp 4 (.int IntKind.i64 0) ?_
  refine WpOps.nil (thenK_at (Wp.seq (Wp.seq (Wp.text ?_))))
  refine kp 6 (.slice (some ⟨1, 0, none⟩) 1 1) ?_
  refine kp 7 (.int IntKind.i64 (↑1 : Int)) ?_
  refine kp 8 (.int IntKind.i64 0) ?_
  refine WpOps.nil (thenK_at (Wp.block ?_))
  refine Wp.loop (G := Nat) (fun i => layj [(0, .slice (some ⟨1, 0, none⟩) 1 1), (1, .func (.func 62) #[] #[.pointer (some ⟨5, 0, none⟩)]), (7, .int .i64 1), (8, .int .i64 i)]) (fun _ => heapOf [st1, ar1, ⟨122, true, (wB T h k)⟩, ⟨5, true, dC D T th⟩, ⟨4, true, bC T th⟩, ⟨24, true, (gc p)⟩, ⟨24, true, zc⟩]) (fun _ => 0) (fun i => i = 0) 0
    (View.same [st1, ar1, ⟨122, true, (wB T h k)⟩, ⟨5, true, dC D T th⟩, ⟨4, true, bC T th⟩, ⟨24, true, (gc p)⟩, ⟨24, true, zc⟩] _ (Nat.le_refl _) (pre7 ⟨by kernel_rfl, by kernel_rfl⟩ ⟨by kernel_rfl, by kernel_rfl⟩ ⟨by kernel_rfl, by kernel_rfl⟩ ⟨by kernel_rfl, okCs_flat (dC_flat _ _ _)⟩ ⟨by kernel_rfl, okCs_flat (bC_flat _ _)⟩ ⟨by kernel_rfl, by kernel_rfl⟩ ⟨by kernel_rfl, by kernel_rfl⟩) ⟨⟨by kernel_rfl, by kernel_rfl⟩, ⟨by kernel_rfl, by kernel_rfl⟩, ⟨by kernel_rfl, by kernel_rfl⟩, ⟨by kernel_rfl, by kernel_rfl⟩, trivial⟩) rfl ?_
  rintro i rfl
  refine Wp.seq (Wp.text ?_)
  refine kp 9 (.bool true) ?_
  refine WpOps.nil (thenK_at (Wp.seq (on' (Wp.skip (thenK_at (Wp.seq (Wp.block (Wp.seq (Wp.text ?_)))))))))
  refine kp 10 (.int IntKind.i64 (↑0 : Int)) ?_
  refine kp 5 (.int IntKind.i64 (↑0 : Int)) ?_
  refine WpOps.nil (thenK_at (Wp.seq (Wp.text ?_)))
  refine kp 11 (.func (Fn.func 62) #[] #[Value.pointer (some ⟨5, 0, none⟩)]) ?_
  refine kp 12 (.slice (some ⟨1, 0, none⟩) 1 1) ?_
  refine kp 13 (.int IntKind.i64 (↑0 : Int)) ?_
  refine kp 14 (.pointer (some ⟨1, 0, none⟩)) ?_
  refine kp 15 (.pointer (some ⟨2, 0, none⟩)) ?_
  refine cl 16 62 [Value.pointer (some ⟨2, 0, none⟩), Value.pointer (some ⟨5, 0, none⟩)] ?_
  refine WpCall.enterL c1 rfl ?_
  refine WpOps.nil (thenK_at (on' (Wp.seq (Wp.text ?_))))
  refine kp 17 (.int IntKind.i64 (↑0 : Int)) ?_
  refine kp 4 (.int IntKind.i64 (↑0 : Int)) ?_
  refine WpOps.nil (thenK_at (Wp.ret (blockK_ret (thenK_ret (thenK_ret (blockK_ret (thenK_ret ?_)))))))
  refine endK_retn [Value.int IntKind.i64 (↑0 : Int)] (Value.int IntKind.i64 (↑0 : Int)) (by kernel_rfl) (by kernel_rfl) ?_
  exact lentSame [st1, ar1, ⟨122, true, (wB T h k)⟩, ⟨5, true, dC D T th⟩, ⟨4, true, bC T th⟩, ⟨24, true, (gc p)⟩, ⟨24, true, zc⟩] (pre7 ⟨by kernel_rfl, by kernel_rfl⟩ ⟨by kernel_rfl, by kernel_rfl⟩ ⟨by kernel_rfl, by kernel_rfl⟩ ⟨by kernel_rfl, okCs_flat (dC_flat _ _ _)⟩ ⟨by kernel_rfl, okCs_flat (bC_flat _ _)⟩ ⟨by kernel_rfl, by kernel_rfl⟩ ⟨by kernel_rfl, by kernel_rfl⟩) (.w (.un rfl rfl))
end Go.Proofs.Ytpkkcpglbjbgfaa.D
