/- Displays: all, in, Valid, fits. -/
import Derived.Test.YtlejgfeoffhjoaaFwLem
import Derived.Test.YtlejgfeoffhjoaaFwBytes
import Derived.Test.YtlejgfeoffhjoaaF34s
namespace Go.Proofs.Ytlejgfeoffhjoaa.D
open Go.Fw Go.RowKit

theorem cond_or' (a b : Bool) : (bif a then true else b) = (a || b) := by cases a <;> rfl
theorem cond_and' (a b : Bool) : (bif a then b else false) = (a && b) := by cases a <;> rfl
/-- Is a number between two others? -/
def inB (n lo hi : Int) : Bool := cond (decide (lo ≤ n)) (decide (n ≤ hi)) false
theorem inB_eq (n lo hi : Int) : inB n lo hi = decide (lo ≤ n ∧ n ≤ hi) := by
  unfold inB
  by_cases h : lo ≤ n
  · rw [decide_eq_true h, cond_true]
    exact decide_eq_decide.2 ⟨fun h2 => ⟨h, h2⟩, fun h2 => h2.2⟩
  · rw [decide_eq_false h, cond_false, decide_eq_false fun h2 => h h2.1]
theorem f43 : E.funcs 43 = some Try.f43 := by kernel_rfl
theorem in43 (n lo hi : Int) : Fun E 43 [.int .i64 n, .int .i64 lo, .int .i64 hi] (.bool (inB n lo hi)) := by
  refine Fun.of f43 rfl (of_decide_eq_true (by kernel_rfl)) rfl ?_
  refine Wp.seq (Wp.text ?_)
  refine kp 6 (.bool false) ?_
  refine WpOps.nil (thenK_at (Wp.seq (Wp.text ?_)))
  refine kp 7 (.int IntKind.i64 lo) ?_
  refine kp 8 (.int IntKind.i64 n) ?_
  refine kp 9 (.bool (decide (lo ≤ n))) ?_
  refine kp 10 (.bool (decide (lo ≤ n))) ?_
  refine WpOps.fork 4 (decide (lo ≤ n)) [11, 12, 13, 14] 14 (decide (n ≤ hi)) (false) (by kernel_rfl) (fun g14 => ?_) (fun g14 => ?_) (fun f_14 b14 hb14 => ?_)
  · refine kp 11 (.int IntKind.i64 n) ?_ (hw := wants_tt g14)
    refine kp 12 (.int IntKind.i64 hi) ?_ (hw := wants_tt g14)
    refine kp 13 (.bool (decide (n ≤ hi))) ?_ (hw := wants_tt g14)
    refine kp 14 (.bool (decide (n ≤ hi))) ?_ (hop := fun _ => o_pickT g14)
    refine WpOps.nil ?_
    exact ⟨rfl, (.upd rfl (.upd rfl (.upd rfl (.upd rfl .refl)))), (by kernel_rfl)⟩
  · refine um 11 ?_ (hw := wants_ft g14)
    refine um 12 ?_ (hw := wants_ft g14)
    refine um 13 ?_ (hw := wants_ft g14)
    refine kp 14 (.bool false) ?_ (hop := fun _ => o_pickF g14)
    refine WpOps.nil ?_
    exact ⟨rfl, (.upd rfl (.upd rfl (.upd rfl (.upd rfl .refl)))), (by kernel_rfl)⟩
  refine kp 6 (.bool b14) ?_
  refine WpOps.nil (thenK_at (Wp.ret ?_))
  refine endK_retn [Value.bool b14] (Value.bool b14) (by kernel_rfl) (by kernel_rfl) ?_
  subst_vars
  rfl
theorem in43T (n lo hi : Int) (h : lo ≤ n ∧ n ≤ hi) : Fun E 43 [.int .i64 n, .int .i64 lo, .int .i64 hi] (.bool true) := by
  have := in43 n lo hi
  rwa [inB_eq, decide_eq_true h] at this
theorem in43F (n lo hi : Int) (h : ¬ (lo ≤ n ∧ n ≤ hi)) : Fun E 43 [.int .i64 n, .int .i64 lo, .int .i64 hi] (.bool false) := by
  have := in43 n lo hi
  rwa [inB_eq, decide_eq_false h] at this

/-- Is a byte from lo to hi? -/
def byIn (lo hi : Nat) (b : UInt8) : Bool := decide (lo ≤ b.toNat ∧ b.toNat ≤ hi)
def allB (s : ByteArray) (lo hi : Nat) : Bool := s.data.toList.all (byIn lo hi)
theorem allB_iff (s : ByteArray) (lo hi : Nat) : allB s lo hi = true ↔ ∀ i, i < s.size → byIn lo hi (byteAt s i) = true := by
  unfold allB
  rw [List.all_eq_true]
  constructor
  · intro h i hi
    exact h _ (List.mem_of_getElem? (byteAt_get s i hi))
  · intro h b hb
    obtain ⟨i, hi, rfl⟩ := List.getElem_of_mem hb
    rw [Array.length_toList] at hi
    have e := byteAt_get s i hi
    rw [List.getElem?_eq_getElem (by rw [Array.length_toList]; exact hi)] at e
    rw [Option.some.inj e]
    exact h i hi
theorem f47 : E.funcs 47 = some Try.f47 := by kernel_rfl
theorem all47 (s : ByteArray) (lo hi : Nat) (hs : s.size ≤ 140737488351232) : Fun E 47 [.string s, .int .u8 lo, .int .u8 hi] (.bool (allB s lo hi)) := by
  refine Fun.of f47 rfl (of_decide_eq_true (by kernel_rfl)) rfl ?_
  refine Wp.seq (Wp.text ?_)
  refine kp 6 (.bool false) ?_
  refine WpOps.nil (thenK_at (Wp.seq (Wp.seq (Wp.text ?_))))
  refine kp 9 (.string s) ?_
  refine md 10 (.slice (some ⟨0, 0, none⟩) (ByteArray.size s) (ByteArray.size s)) (Blk.mk 5 true (byteCells s)) ?_
  refine kp 11 (.int IntKind.i64 (↑(ByteArray.size s) : Int)) ?_
  refine kp 12 (.int IntKind.i64 0) ?_
  refine WpOps.nil (thenK_at (Wp.block ?_))
  refine Wp.loop (G := Nat) (fun i => layj [(1, .int .u8 lo), (2, .int .u8 hi), (10, .slice (some ⟨0, 0, none⟩) s.size s.size), (11, .int .i64 s.size), (12, .int .i64 i)]) (fun _ => heapOf [⟨5, true, byteCells s⟩]) (fun i => s.size - i) (fun i => i ≤ s.size ∧ ∀ j, j < i → byIn lo hi (byteAt s j) = true) 0
    (View.of [0] [⟨5, true, byteCells s⟩] _ (by decide) rfl ⟨⟨_, by kernel_rfl, CellsOk.eq rfl (byteCells_flat s)⟩, trivial⟩ ⟨⟨by kernel_rfl, rfl⟩, ⟨by kernel_rfl, rfl⟩, ⟨by kernel_rfl, rfl⟩, ⟨by kernel_rfl, rfl⟩, ⟨by kernel_rfl, rfl⟩, trivial⟩) ⟨Nat.zero_le _, fun j hj => absurd hj (Nat.not_lt_zero _)⟩ ?_
  rintro i ⟨hi', hp⟩
  refine Wp.seq (Wp.text ?_)
  refine kp 13 (.bool (decide ((↑i : Int) < (↑(ByteArray.size s) : Int)))) ?_
  refine WpOps.nil (thenK_at (Wp.seq ?_))
  refine Wp.split (decide ((↑i : Int) < (↑(ByteArray.size s) : Int))) (by kernel_rfl) (fun hc => ?_) (fun hc => ?_)
  · have hlt : (i : Int) < s.size := of_decide_eq_true hc
    have h0 : 0 ≤ (i : Int) ∧ (i : Int) < s.size := ⟨Int.natCast_nonneg _, hlt⟩
    have hv := byteCells_at s i (by omega)
    refine Wp.skip (thenK_at (Wp.seq (Wp.block (Wp.seq (Wp.text ?_)))))
    refine kp 14 (.pointer (some (Addr.mk 0 (0 + Int.toNat (↑i : Int) * 1) none))) ?_ (hop := fun _ => o_indexAddr (a := (↑i : Int)) (bl := 0) (off := 0) (size := 1) 5 (ByteArray.size s) h0)
    refine kp 15 (.int IntKind.u8 (↑(UInt8.toNat (byteAt s i)) : Int)) ?_ (hop := fun _ => o_load1 0 (0 + Int.toNat (↑i : Int) * 1) hv)
    refine kp 8 (.int IntKind.u8 (↑(UInt8.toNat (byteAt s i)) : Int)) ?_
    refine WpOps.nil (thenK_at (Wp.seq (Wp.text ?_)))
    refine kp 16 (.int IntKind.u8 (↑(UInt8.toNat (byteAt s i)) : Int)) ?_
    refine kp 17 (.int IntKind.u8 (↑lo : Int)) ?_
    refine kp 18 (.bool (decide ((↑(UInt8.toNat (byteAt s i)) : Int) < (↑lo : Int)))) ?_
    refine kp 19 (.bool (decide ((↑(UInt8.toNat (byteAt s i)) : Int) < (↑lo : Int)))) ?_
    refine WpOps.fork 4 (decide ((↑(UInt8.toNat (byteAt s i)) : Int) < (↑lo : Int))) [20, 21, 22, 23] 23 (true) (decide ((↑(UInt8.toNat (byteAt s i)) : Int) > (↑hi : Int))) (by kernel_rfl) (fun g23 => ?_) (fun g23 => ?_) (fun f_23 b23 hb23 => ?_)
    · refine um 20 ?_ (hw := wants_tf g23)
      refine um 21 ?_ (hw := wants_tf g23)
      refine um 22 ?_ (hw := wants_tf g23)
      refine kp 23 (.bool true) ?_ (hop := fun _ => o_pickT g23)
      refine WpOps.nil ?_
      exact ⟨rfl, (.upd rfl (.upd rfl (.upd rfl (.upd rfl .refl)))), (by kernel_rfl)⟩
    · refine kp 20 (.int IntKind.u8 (↑(UInt8.toNat (byteAt s i)) : Int)) ?_ (hw := wants_ff g23)
      refine kp 21 (.int IntKind.u8 (↑hi : Int)) ?_ (hw := wants_ff g23)
      refine kp 22 (.bool (decide ((↑(UInt8.toNat (byteAt s i)) : Int) > (↑hi : Int)))) ?_ (hw := wants_ff g23)
      refine kp 23 (.bool (decide ((↑(UInt8.toNat (byteAt s i)) : Int) > (↑hi : Int)))) ?_ (hop := fun _ => o_pickF g23)
      refine WpOps.nil ?_
      exact ⟨rfl, (.upd rfl (.upd rfl (.upd rfl (.upd rfl .refl)))), (by kernel_rfl)⟩
    refine WpOps.nil (thenK_at ?_)
    refine Wp.split (b23) (by kernel_rfl) (fun hd => ?_) (fun hd => ?_)
    · refine Wp.seq (Wp.text ?_)
      refine kp 6 (.bool false) ?_
      refine WpOps.nil (thenK_at (Wp.ret (blockK_ret (thenK_ret (thenK_ret (blockK_ret (thenK_ret ?_)))))))
      refine endK_retn [Value.bool false] (Value.bool false) (by kernel_rfl) (by kernel_rfl) ?_
      have hn : ¬ byIn lo hi (byteAt s i) = true := by
        rw [hb23] at hd
        unfold byIn
        rw [decide_eq_true_eq]
        intro h
        rw [decide_eq_false (by omega), decide_eq_false (by omega)] at hd
        cases hd
      have : allB s lo hi = false := by
        cases h : allB s lo hi with
        | false => rfl
        | true => exact absurd ((allB_iff s lo hi).1 h i (by omega)) hn
      rw [this]
      rfl
    · refine Wp.skip (blockK_norm (thenK_at (Wp.text ?_)))
      refine kp 24 (.int IntKind.i64 (IntKind.wrap .i64 ((↑i : Int) + 1))) ?_
      refine kp 12 (.int IntKind.i64 (IntKind.wrap .i64 ((↑i : Int) + 1))) ?_
      refine WpOps.nil (thenK_at ?_)
      have hn : byIn lo hi (byteAt s i) = true := by
        rw [hb23, cond_or', Bool.or_eq_false_iff, decide_eq_false_iff_not, decide_eq_false_iff_not] at hd
        exact decide_eq_true (by omega)
      refine ⟨i + 1, by omega, ⟨by omega, fun j hj => ?_⟩, View.of [0] [⟨5, true, byteCells s⟩] _ (by decide) rfl ⟨⟨_, by kernel_rfl, CellsOk.eq rfl (byteCells_flat s)⟩, trivial⟩ ⟨⟨by kernel_rfl, rfl⟩, ⟨by kernel_rfl, rfl⟩, ⟨by kernel_rfl, rfl⟩, ⟨by kernel_rfl, rfl⟩, ⟨congrArg (Value.int .i64) (wr _ (by omega) (by omega)), rfl⟩, trivial⟩⟩
      rcases Nat.lt_or_ge j i with h | h
      · exact hp j h
      · obtain rfl : j = i := by omega
        exact hn
  · refine Wp.exit (thenK_exit (thenK_exit (blockK_hit (thenK_at (Wp.seq (Wp.text ?_))))))
    refine kp 6 (.bool true) ?_
    refine WpOps.nil (thenK_at (Wp.ret ?_))
    refine endK_retn [Value.bool true] (Value.bool true) (by kernel_rfl) (by kernel_rfl) ?_
    have hle : ¬ ((i : Int) < s.size) := of_decide_eq_false hc
    have : allB s lo hi = true := (allB_iff s lo hi).2 fun j hj => hp j (by omega)
    rw [this]
    rfl

/-! ## displays -/
def strs (x : Nat) (l : List ByteArray) : Value := FS 9 l.length x (l.map Value.string).toArray
def dv (x y : Nat) (r m : List ByteArray) (i j : Int) : Value := .agg #[strs x r, strs y m, .int .i64 i, .int .i64 j]
abbrev rowAt (r : List ByteArray) (i : Nat) : ByteArray := r.getD i ByteArray.empty
theorem strs_at (l : List ByteArray) (i : Nat) (hi : i < l.length) : (l.map Value.string)[((i : Int)).toNat * 1]? = some (.string (rowAt l i)) := by
  rw [Int.toNat_natCast, Nat.mul_one, List.getElem?_map, rowAt, List.getD_eq_getElem?_getD, List.getElem?_eq_getElem hi]
  rfl
theorem strs_0 (l : List ByteArray) (hi : 0 < l.length) : (l.map Value.string)[(0 : Int).toNat * 1]? = some (.string (rowAt l 0)) := strs_at l 0 hi
theorem nat_ne {a b : Nat} (h : ((a : Int) != (b : Int)) = false) : a = b := by
  have : (a : Int) = b := by simpa using h
  omega
/-- A row of a display. -/
def RowOk (n : Nat) (a b : ByteArray) : Prop := a.size = n ∧ b.size = n ∧ allB a 32 126 = true ∧ allB b 48 55 = true
instance (n : Nat) (a b : ByteArray) : Decidable (RowOk n a b) := inferInstanceAs (Decidable (_ ∧ _))
/-- The form of a display. -/
def Form (r m : List ByteArray) (i j : Int) : Prop := (1 ≤ r.length ∧ r.length ≤ 40) ∧ m.length = r.length ∧ (1 ≤ (rowAt r 0).size ∧ (rowAt r 0).size ≤ 80) ∧ (0 ≤ i ∧ i < r.length) ∧ (0 ≤ j ∧ j < (rowAt r 0).size)
instance (r m : List ByteArray) (i j : Int) : Decidable (Form r m i j) := inferInstanceAs (Decidable (_ ∧ _))
def Good (r m : List ByteArray) (i j : Int) : Prop := Form r m i j ∧ ∀ k, k < r.length → RowOk (rowAt r 0).size (rowAt r k) (rowAt m k)
instance (r m : List ByteArray) (i j : Int) : Decidable (Good r m i j) := inferInstanceAs (Decidable (_ ∧ _))
theorem f15 : E.funcs 15 = some Try.f15 := by kernel_rfl
theorem valid15 (x y : Nat) (r m : List ByteArray) (i j : Int) (hr : ∀ k, (rowAt r k).size ≤ 140737488351232) (hm : ∀ k, (rowAt m k).size ≤ 140737488351232) : Fun E 15 [dv x y r m i j] (.bool (decide (Good r m i j))) := by
  refine Fun.of f15 rfl (of_decide_eq_true (by kernel_rfl)) rfl ?_
  have c1 := in43 r.length 1 40
  have c2 := in43 (rowAt r 0).size 1 80
  have c3 := in43 i 0 (IntKind.i64.wrap ((r.length : Int) - 1))
  have c4 := in43 j 0 (IntKind.i64.wrap (((rowAt r 0).size : Int) - 1))
  unfold dv strs
  refine Wp.seq (Wp.text ?_)
  refine md 1 (.pointer (some ⟨0, 0, none⟩)) (Blk.mk 24 true [strs x r, strs y m, Value.int .i64 i, Value.int .i64 j]) ?_
  refine kp 2 (.bool false) ?_
  refine WpOps.nil (thenK_at (Wp.seq (Wp.seq ?_)))
  refine Wp.region (by kernel_rfl) ?_
  refine kp 5 (.pointer (some ⟨0, 0, none⟩)) ?_
  refine kp 6 (.iface 9 (Value.iface (List.length r) (Value.iface x (Value.agg (List.toArray (List.map Value.string r)))))) ?_
  refine kp 7 (.int IntKind.i64 (↑(List.length r) : Int)) ?_
  refine fr 8 43 [Value.int .i64 (↑(List.length r) : Int), Value.int .i64 1, Value.int .i64 40] ?_
  refine WpFun.of (c1) ?_
  refine kp 9 (.bool !inB (↑(List.length r) : Int) 1 40) ?_
  refine kp 10 (.bool !inB (↑(List.length r) : Int) 1 40) ?_
  refine WpOps.fork 8 (!inB (↑(List.length r) : Int) 1 40) [11, 12, 13, 14, 15, 16, 17, 18] 18 (true) ((↑(List.length m) : Int) != (↑(List.length r) : Int)) (by kernel_rfl) (fun g18 => ?_) (fun g18 => ?_) (fun f_18 b18 hb18 => ?_)
  · refine um 11 ?_ (hw := wants_tf g18)
    refine um 12 ?_ (hw := wants_tf g18)
    refine um 13 ?_ (hw := wants_tf g18)
    refine um 14 ?_ (hw := wants_tf g18)
    refine um 15 ?_ (hw := wants_tf g18)
    refine um 16 ?_ (hw := wants_tf g18)
    refine um 17 ?_ (hw := wants_tf g18)
    refine kp 18 (.bool true) ?_ (hop := fun _ => o_pickT g18)
    refine WpOps.nil ?_
    exact ⟨rfl, (.upd rfl (.upd rfl (.upd rfl (.upd rfl (.upd rfl (.upd rfl (.upd rfl (.upd rfl .refl)))))))), (by kernel_rfl)⟩
  · refine kp 11 (.pointer (some ⟨0, 1, none⟩)) ?_ (hw := wants_ff g18)
    refine kp 12 (.iface 9 (Value.iface (List.length m) (Value.iface y (Value.agg (List.toArray (List.map Value.string m)))))) ?_ (hw := wants_ff g18)
    refine kp 13 (.int IntKind.i64 (↑(List.length m) : Int)) ?_ (hw := wants_ff g18)
    refine kp 14 (.pointer (some ⟨0, 0, none⟩)) ?_ (hw := wants_ff g18)
    refine kp 15 (.iface 9 (Value.iface (List.length r) (Value.iface x (Value.agg (List.toArray (List.map Value.string r)))))) ?_ (hw := wants_ff g18)
    refine kp 16 (.int IntKind.i64 (↑(List.length r) : Int)) ?_ (hw := wants_ff g18)
    refine kp 17 (.bool ((↑(List.length m) : Int) != (↑(List.length r) : Int))) ?_ (hw := wants_ff g18)
    refine kp 18 (.bool ((↑(List.length m) : Int) != (↑(List.length r) : Int))) ?_ (hop := fun _ => o_pickF g18)
    refine WpOps.nil ?_
    exact ⟨rfl, (.upd rfl (.upd rfl (.upd rfl (.upd rfl (.upd rfl (.upd rfl (.upd rfl (.upd rfl .refl)))))))), (by kernel_rfl)⟩
  refine kp 19 (.bool b18) ?_
  cases h1 : b18 with
  | true =>
    have hn : ¬ Good r m i j := fun h => by
      obtain ⟨⟨h2, h3, _⟩, _⟩ := h
      rw [h1, inB_eq, decide_eq_true (show (1 : Int) ≤ r.length ∧ (r.length : Int) ≤ 40 by omega), h3] at hb18
      simp at hb18
    rw [decide_eq_false hn]
    clear hb18
    subst h1
    refine um 20 ?_
    refine um 21 ?_
    refine um 22 ?_
    refine um 23 ?_
    refine um 24 ?_
    refine um 25 ?_
    refine um 26 ?_
    refine kp 27 (.bool true) ?_
    refine kp 28 (.bool true) ?_
    refine um 29 ?_
    refine um 30 ?_
    refine um 31 ?_
    refine um 32 ?_
    refine um 33 ?_
    refine um 34 ?_
    refine um 35 ?_
    refine um 36 ?_
    refine kp 37 (.bool true) ?_
    refine kp 38 (.bool true) ?_
    refine um 39 ?_
    refine um 40 ?_
    refine um 41 ?_
    refine um 42 ?_
    refine um 43 ?_
    refine um 44 ?_
    refine um 45 ?_
    refine um 46 ?_
    refine um 47 ?_
    refine um 48 ?_
    refine kp 49 (.bool true) ?_
    refine WpOps.nil (thenK_at (on' (Wp.seq (Wp.text ?_))))
    refine kp 2 (.bool false) ?_
    refine WpOps.nil (thenK_at (Wp.ret (thenK_ret ?_)))
    refine endK_retn [Value.bool false] (Value.bool false) (by kernel_rfl) (by kernel_rfl) ?_
    rfl
  | false =>
    rw [h1, inB_eq, cond_or', eq_comm, Bool.or_eq_false_iff] at hb18
    obtain ⟨g1, g2⟩ := hb18
    have g3 : 1 ≤ r.length ∧ r.length ≤ 40 := by
      have : decide ((1 : Int) ≤ r.length ∧ (r.length : Int) ≤ 40) = true := by simpa using g1
      have := of_decide_eq_true this
      omega
    have g4 : m.length = r.length := nat_ne g2
    clear g1 g2
    subst h1
    have l1 : 0 ≤ (0 : Int) ∧ (0 : Int) < r.length := by omega
    have v0 := strs_0 r (by omega)
    refine kp 20 (.pointer (some ⟨0, 0, none⟩)) ?_
    refine kp 21 (.iface 9 (Value.iface (List.length r) (Value.iface x (Value.agg (List.toArray (List.map Value.string r)))))) ?_
    refine kp 22 (.iface 9 (Value.iface 0 (Value.agg (List.toArray (List.map Value.string r))))) ?_ (hop := fun _ => o_indexI (e := 9) (size := 1) (a := 0) l1)
    refine kp 23 (.string (rowAt r 0)) ?_ (hop := fun _ => o_loadI1 (0) v0)
    refine kp 24 (.int IntKind.i64 (↑(ByteArray.size (rowAt r 0)) : Int)) ?_
    refine fr 25 43 [Value.int .i64 (↑(ByteArray.size (rowAt r 0)) : Int), Value.int .i64 1, Value.int .i64 80] ?_
    refine WpFun.of (c2) ?_
    refine kp 26 (.bool !inB (↑(ByteArray.size (rowAt r 0)) : Int) 1 80) ?_
    refine kp 27 (.bool !inB (↑(ByteArray.size (rowAt r 0)) : Int) 1 80) ?_
    refine kp 28 (.bool !inB (↑(ByteArray.size (rowAt r 0)) : Int) 1 80) ?_
    refine WpOps.fork 9 (!inB (↑(ByteArray.size (rowAt r 0)) : Int) 1 80) [29, 30, 31, 32, 33, 34, 35, 36, 37] 37 (true) (!inB i 0 (IntKind.wrap IntKind.i64 ((↑(List.length r) : Int) - 1))) (by kernel_rfl) (fun g37 => ?_) (fun g37 => ?_) (fun f_37 b37 hb37 => ?_)
    · refine um 29 ?_ (hw := wants_tf g37)
      refine um 30 ?_ (hw := wants_tf g37)
      refine um 31 ?_ (hw := wants_tf g37)
      refine um 32 ?_ (hw := wants_tf g37)
      refine um 33 ?_ (hw := wants_tf g37)
      refine um 34 ?_ (hw := wants_tf g37)
      refine um 35 ?_ (hw := wants_tf g37)
      refine um 36 ?_ (hw := wants_tf g37)
      refine kp 37 (.bool true) ?_ (hop := fun _ => o_pickT g37)
      refine WpOps.nil ?_
      exact ⟨rfl, (.upd rfl (.upd rfl (.upd rfl (.upd rfl (.upd rfl (.upd rfl (.upd rfl (.upd rfl (.upd rfl .refl))))))))), (by kernel_rfl)⟩
    · refine kp 29 (.pointer (some ⟨0, 2, none⟩)) ?_ (hw := wants_ff g37)
      refine kp 30 (.int IntKind.i64 i) ?_ (hw := wants_ff g37)
      refine kp 31 (.pointer (some ⟨0, 0, none⟩)) ?_ (hw := wants_ff g37)
      refine kp 32 (.iface 9 (Value.iface (List.length r) (Value.iface x (Value.agg (List.toArray (List.map Value.string r)))))) ?_ (hw := wants_ff g37)
      refine kp 33 (.int IntKind.i64 (↑(List.length r) : Int)) ?_ (hw := wants_ff g37)
      refine kp 34 (.int IntKind.i64 (IntKind.wrap .i64 ((↑(List.length r) : Int) - 1))) ?_ (hw := wants_ff g37)
      refine fr 35 43 [Value.int .i64 i, Value.int .i64 0, Value.int .i64 (IntKind.wrap .i64 ((↑(List.length r) : Int) - 1))] ?_ (hw := wants_ff g37)
      refine WpFun.of (c3) ?_
      refine kp 36 (.bool !inB i 0 (IntKind.wrap .i64 ((↑(List.length r) : Int) - 1))) ?_ (hw := wants_ff g37)
      refine kp 37 (.bool !inB i 0 (IntKind.wrap .i64 ((↑(List.length r) : Int) - 1))) ?_ (hop := fun _ => o_pickF g37)
      refine WpOps.nil ?_
      exact ⟨rfl, (.upd rfl (.upd rfl (.upd rfl (.upd rfl (.upd rfl (.upd rfl (.upd rfl (.upd rfl (.upd rfl .refl))))))))), (by kernel_rfl)⟩
    refine kp 38 (.bool b37) ?_
    refine WpOps.fork 11 (b37) [39, 40, 41, 42, 43, 44, 45, 46, 47, 48, 49] 49 (true) (!inB j 0 (IntKind.wrap IntKind.i64 ((↑(ByteArray.size (rowAt r 0)) : Int) - 1))) (by kernel_rfl) (fun g49 => ?_) (fun g49 => ?_) (fun f_49 b49 hb49 => ?_)
    · refine um 39 ?_ (hw := wants_tf g49)
      refine um 40 ?_ (hw := wants_tf g49)
      refine um 41 ?_ (hw := wants_tf g49)
      refine um 42 ?_ (hw := wants_tf g49)
      refine um 43 ?_ (hw := wants_tf g49)
      refine um 44 ?_ (hw := wants_tf g49)
      refine um 45 ?_ (hw := wants_tf g49)
      refine um 46 ?_ (hw := wants_tf g49)
      refine um 47 ?_ (hw := wants_tf g49)
      refine um 48 ?_ (hw := wants_tf g49)
      refine kp 49 (.bool true) ?_ (hop := fun _ => o_pickT g49)
      refine WpOps.nil ?_
      exact ⟨rfl, (.upd rfl (.upd rfl (.upd rfl (.upd rfl (.upd rfl (.upd rfl (.upd rfl (.upd rfl (.upd rfl (.upd rfl (.upd rfl .refl))))))))))), (by kernel_rfl)⟩
    · refine kp 39 (.pointer (some ⟨0, 3, none⟩)) ?_ (hw := wants_ff g49)
      refine kp 40 (.int IntKind.i64 j) ?_ (hw := wants_ff g49)
      refine kp 41 (.pointer (some ⟨0, 0, none⟩)) ?_ (hw := wants_ff g49)
      refine kp 42 (.iface 9 (Value.iface (List.length r) (Value.iface x (Value.agg (List.toArray (List.map Value.string r)))))) ?_ (hw := wants_ff g49)
      refine kp 43 (.iface 9 (Value.iface 0 (Value.agg (List.toArray (List.map Value.string r))))) ?_ (hw := wants_ff g49) (hop := fun _ => o_indexI (e := 9) (size := 1) (a := 0) l1)
      refine kp 44 (.string (rowAt r 0)) ?_ (hw := wants_ff g49) (hop := fun _ => o_loadI1 (0) v0)
      refine kp 45 (.int IntKind.i64 (↑(ByteArray.size (rowAt r 0)) : Int)) ?_ (hw := wants_ff g49)
      refine kp 46 (.int IntKind.i64 (IntKind.wrap .i64 ((↑(ByteArray.size (rowAt r 0)) : Int) - 1))) ?_ (hw := wants_ff g49)
      refine fr 47 43 [Value.int .i64 j, Value.int .i64 0, Value.int .i64 (IntKind.wrap .i64 ((↑(ByteArray.size (rowAt r 0)) : Int) - 1))] ?_ (hw := wants_ff g49)
      refine WpFun.of (c4) ?_
      refine kp 48 (.bool !inB j 0 (IntKind.wrap .i64 ((↑(ByteArray.size (rowAt r 0)) : Int) - 1))) ?_ (hw := wants_ff g49)
      refine kp 49 (.bool !inB j 0 (IntKind.wrap .i64 ((↑(ByteArray.size (rowAt r 0)) : Int) - 1))) ?_ (hop := fun _ => o_pickF g49)
      refine WpOps.nil ?_
      exact ⟨rfl, (.upd rfl (.upd rfl (.upd rfl (.upd rfl (.upd rfl (.upd rfl (.upd rfl (.upd rfl (.upd rfl (.upd rfl (.upd rfl .refl))))))))))), (by kernel_rfl)⟩
    refine WpOps.nil (thenK_at ?_)
    have g5 : b49 = !decide (Form r m i j) := by
      rw [hb49, hb37, inB_eq, inB_eq, inB_eq, cond_or', cond_or', wr _ (by omega) (by omega), Bool.eq_iff_iff]
      simp only [Bool.or_eq_true, Bool.not_eq_true', decide_eq_false_iff_not]
      unfold Form
      constructor
      · rintro ((h | h) | h) ⟨_, _, q1, q2, q3⟩
        · omega
        · omega
        · rw [wr _ (by omega) (by omega)] at h
          omega
      · intro h
        by_cases q1 : 1 ≤ (rowAt r 0).size ∧ (rowAt r 0).size ≤ 80
        · rw [wr _ (by omega) (by omega)]
          omega
        · omega
    clear hb49 hb37
    refine Wp.split (b49) (by kernel_rfl) (fun hc => ?_) (fun hc => ?_)
    · have hn : ¬ Good r m i j := fun h => by
        rw [hc, decide_eq_true h.1] at g5
        cases g5
      rw [decide_eq_false hn]
      refine Wp.seq (Wp.text ?_)
      refine kp 2 (.bool false) ?_
      refine WpOps.nil (thenK_at (Wp.ret (thenK_ret ?_)))
      refine endK_retn [Value.bool false] (Value.bool false) (by kernel_rfl) (by kernel_rfl) ?_
      rfl
    · have g6 : Form r m i j := by
        rw [hc] at g5
        exact of_decide_eq_true (by simpa using g5.symm)
      refine Wp.skip (thenK_at (Wp.seq (Wp.seq (Wp.text ?_))))
      refine kp 50 (.pointer (some ⟨0, 0, none⟩)) ?_
      refine kp 51 (.iface 9 (Value.iface (List.length r) (Value.iface x (Value.agg (List.toArray (List.map Value.string r)))))) ?_
      refine kp 52 (.int IntKind.i64 (↑(List.length r) : Int)) ?_
      refine kp 53 (.int IntKind.i64 0) ?_
      refine WpOps.nil (thenK_at (Wp.block ?_))
      refine Wp.loop (G := Nat) (fun k => layj [(1, .pointer (some ⟨0, 0, none⟩)), (51, strs x r), (52, .int .i64 r.length), (53, .int .i64 k)]) (fun _ => heapOf [⟨24, true, [strs x r, strs y m, .int .i64 i, .int .i64 j]⟩]) (fun k => r.length - k) (fun k => k ≤ r.length ∧ ∀ q, q < k → RowOk (rowAt r 0).size (rowAt r q) (rowAt m q)) 0
        (View.of [0] [⟨24, true, [strs x r, strs y m, .int .i64 i, .int .i64 j]⟩] _ (by decide) rfl ⟨⟨_, by kernel_rfl, CellsOk.eq rfl rfl⟩, trivial⟩ ⟨⟨by kernel_rfl, rfl⟩, ⟨by kernel_rfl, rfl⟩, ⟨by kernel_rfl, rfl⟩, ⟨by kernel_rfl, rfl⟩, trivial⟩) ⟨Nat.zero_le _, fun q hq => absurd hq (Nat.not_lt_zero _)⟩ ?_
      rintro k ⟨hk, hp⟩
      unfold strs
      refine Wp.seq (Wp.text ?_)
      refine kp 54 (.bool (decide ((↑k : Int) < (↑(List.length r) : Int)))) ?_
      refine WpOps.nil (thenK_at (Wp.seq ?_))
      refine Wp.split (decide ((↑k : Int) < (↑(List.length r) : Int))) (by kernel_rfl) (fun hd => ?_) (fun hd => ?_)
      · have hlt : (k : Int) < r.length := of_decide_eq_true hd
        have l2 : 0 ≤ (k : Int) ∧ (k : Int) < r.length := ⟨Int.natCast_nonneg _, hlt⟩
        have l3 : 0 ≤ (k : Int) ∧ (k : Int) < m.length := by omega
        have v1 := strs_at r k (by omega)
        have v2 := strs_at m k (by omega)
        have a1 := all47 (rowAt r k) 32 126 (hr k)
        have a2 := all47 (rowAt m k) 48 55 (hm k)
        refine Wp.skip (thenK_at (Wp.seq (Wp.block (Wp.seq (Wp.text ?_)))))
        refine kp 55 (.int IntKind.i64 (↑k : Int)) ?_
        refine kp 56 (.iface 9 (Value.iface (Int.toNat (↑k : Int) * 1) (Value.agg (List.toArray (List.map Value.string r))))) ?_ (hop := fun _ => o_indexI (e := 9) (size := 1) (a := (↑k : Int)) l2)
        refine kp 57 (.string (rowAt r k)) ?_ (hop := fun _ => o_loadI1 (Int.toNat (↑k : Int) * 1) v1)
        refine kp 3 (.int IntKind.i64 (↑k : Int)) ?_
        refine kp 4 (.string (rowAt r k)) ?_
        refine WpOps.nil (thenK_at (Wp.seq (Wp.text ?_)))
        refine kp 58 (.string (rowAt r k)) ?_
        refine kp 59 (.int IntKind.i64 (↑(ByteArray.size (rowAt r k)) : Int)) ?_
        refine kp 60 (.pointer (some ⟨0, 0, none⟩)) ?_
        refine kp 61 (.iface 9 (Value.iface (List.length r) (Value.iface x (Value.agg (List.toArray (List.map Value.string r)))))) ?_
        refine kp 62 (.iface 9 (Value.iface 0 (Value.agg (List.toArray (List.map Value.string r))))) ?_ (hop := fun _ => o_indexI (e := 9) (size := 1) (a := 0) l1)
        refine kp 63 (.string (rowAt r 0)) ?_ (hop := fun _ => o_loadI1 (0) v0)
        refine kp 64 (.int IntKind.i64 (↑(ByteArray.size (rowAt r 0)) : Int)) ?_
        refine kp 65 (.bool ((↑(ByteArray.size (rowAt r k)) : Int) != (↑(ByteArray.size (rowAt r 0)) : Int))) ?_
        refine kp 66 (.bool ((↑(ByteArray.size (rowAt r k)) : Int) != (↑(ByteArray.size (rowAt r 0)) : Int))) ?_
        refine WpOps.fork 10 ((↑(ByteArray.size (rowAt r k)) : Int) != (↑(ByteArray.size (rowAt r 0)) : Int)) [67, 68, 69, 70, 71, 72, 73, 74, 75, 76] 76 (true) ((↑(ByteArray.size (rowAt m k)) : Int) != (↑(ByteArray.size (rowAt r k)) : Int)) (by kernel_rfl) (fun g76 => ?_) (fun g76 => ?_) (fun f_76 b76 hb76 => ?_)
        · refine um 67 ?_ (hw := wants_tf g76)
          refine um 68 ?_ (hw := wants_tf g76)
          refine um 69 ?_ (hw := wants_tf g76)
          refine um 70 ?_ (hw := wants_tf g76)
          refine um 71 ?_ (hw := wants_tf g76)
          refine um 72 ?_ (hw := wants_tf g76)
          refine um 73 ?_ (hw := wants_tf g76)
          refine um 74 ?_ (hw := wants_tf g76)
          refine um 75 ?_ (hw := wants_tf g76)
          refine kp 76 (.bool true) ?_ (hop := fun _ => o_pickT g76)
          refine WpOps.nil ?_
          exact ⟨rfl, (.upd rfl (.upd rfl (.upd rfl (.upd rfl (.upd rfl (.upd rfl (.upd rfl (.upd rfl (.upd rfl (.upd rfl .refl)))))))))), (by kernel_rfl)⟩
        · refine kp 67 (.pointer (some ⟨0, 1, none⟩)) ?_ (hw := wants_ff g76)
          refine kp 68 (.iface 9 (Value.iface (List.length m) (Value.iface y (Value.agg (List.toArray (List.map Value.string m)))))) ?_ (hw := wants_ff g76)
          refine kp 69 (.int IntKind.i64 (↑k : Int)) ?_ (hw := wants_ff g76)
          refine kp 70 (.iface 9 (Value.iface (Int.toNat (↑k : Int) * 1) (Value.agg (List.toArray (List.map Value.string m))))) ?_ (hw := wants_ff g76) (hop := fun _ => o_indexI (e := 9) (size := 1) (a := (↑k : Int)) l3)
          refine kp 71 (.string (rowAt m k)) ?_ (hw := wants_ff g76) (hop := fun _ => o_loadI1 (Int.toNat (↑k : Int) * 1) v2)
          refine kp 72 (.int IntKind.i64 (↑(ByteArray.size (rowAt m k)) : Int)) ?_ (hw := wants_ff g76)
          refine kp 73 (.string (rowAt r k)) ?_ (hw := wants_ff g76)
          refine kp 74 (.int IntKind.i64 (↑(ByteArray.size (rowAt r k)) : Int)) ?_ (hw := wants_ff g76)
          refine kp 75 (.bool ((↑(ByteArray.size (rowAt m k)) : Int) != (↑(ByteArray.size (rowAt r k)) : Int))) ?_ (hw := wants_ff g76)
          refine kp 76 (.bool ((↑(ByteArray.size (rowAt m k)) : Int) != (↑(ByteArray.size (rowAt r k)) : Int))) ?_ (hop := fun _ => o_pickF g76)
          refine WpOps.nil ?_
          exact ⟨rfl, (.upd rfl (.upd rfl (.upd rfl (.upd rfl (.upd rfl (.upd rfl (.upd rfl (.upd rfl (.upd rfl (.upd rfl .refl)))))))))), (by kernel_rfl)⟩
        refine kp 77 (.bool b76) ?_
        refine WpOps.fork 4 (b76) [78, 79, 80, 81] 81 (true) (!allB (rowAt r k) 32 126) (by kernel_rfl) (fun g81 => ?_) (fun g81 => ?_) (fun f_81 b81 hb81 => ?_)
        · refine um 78 ?_ (hw := wants_tf g81)
          refine um 79 ?_ (hw := wants_tf g81)
          refine um 80 ?_ (hw := wants_tf g81)
          refine kp 81 (.bool true) ?_ (hop := fun _ => o_pickT g81)
          refine WpOps.nil ?_
          exact ⟨rfl, (.upd rfl (.upd rfl (.upd rfl (.upd rfl .refl)))), (by kernel_rfl)⟩
        · refine kp 78 (.string (rowAt r k)) ?_ (hw := wants_ff g81)
          refine fr 79 47 [Value.string (rowAt r k), Value.int .u8 32, Value.int .u8 126] ?_ (hw := wants_ff g81)
          refine WpFun.of (a1) ?_
          refine kp 80 (.bool !allB (rowAt r k) 32 126) ?_ (hw := wants_ff g81)
          refine kp 81 (.bool !allB (rowAt r k) 32 126) ?_ (hop := fun _ => o_pickF g81)
          refine WpOps.nil ?_
          exact ⟨rfl, (.upd rfl (.upd rfl (.upd rfl (.upd rfl .refl)))), (by kernel_rfl)⟩
        refine kp 82 (.bool b81) ?_
        refine WpOps.fork 8 (b81) [83, 84, 85, 86, 87, 88, 89, 90] 90 (true) (!allB (rowAt m k) 48 55) (by kernel_rfl) (fun g90 => ?_) (fun g90 => ?_) (fun f_90 b90 hb90 => ?_)
        · refine um 83 ?_ (hw := wants_tf g90)
          refine um 84 ?_ (hw := wants_tf g90)
          refine um 85 ?_ (hw := wants_tf g90)
          refine um 86 ?_ (hw := wants_tf g90)
          refine um 87 ?_ (hw := wants_tf g90)
          refine um 88 ?_ (hw := wants_tf g90)
          refine um 89 ?_ (hw := wants_tf g90)
          refine kp 90 (.bool true) ?_ (hop := fun _ => o_pickT g90)
          refine WpOps.nil ?_
          exact ⟨rfl, (.upd rfl (.upd rfl (.upd rfl (.upd rfl (.upd rfl (.upd rfl (.upd rfl (.upd rfl .refl)))))))), (by kernel_rfl)⟩
        · refine kp 83 (.pointer (some ⟨0, 1, none⟩)) ?_ (hw := wants_ff g90)
          refine kp 84 (.iface 9 (Value.iface (List.length m) (Value.iface y (Value.agg (List.toArray (List.map Value.string m)))))) ?_ (hw := wants_ff g90)
          refine kp 85 (.int IntKind.i64 (↑k : Int)) ?_ (hw := wants_ff g90)
          refine kp 86 (.iface 9 (Value.iface (Int.toNat (↑k : Int) * 1) (Value.agg (List.toArray (List.map Value.string m))))) ?_ (hw := wants_ff g90) (hop := fun _ => o_indexI (e := 9) (size := 1) (a := (↑k : Int)) l3)
          refine kp 87 (.string (rowAt m k)) ?_ (hw := wants_ff g90) (hop := fun _ => o_loadI1 (Int.toNat (↑k : Int) * 1) v2)
          refine fr 88 47 [Value.string (rowAt m k), Value.int .u8 48, Value.int .u8 55] ?_ (hw := wants_ff g90)
          refine WpFun.of (a2) ?_
          refine kp 89 (.bool !allB (rowAt m k) 48 55) ?_ (hw := wants_ff g90)
          refine kp 90 (.bool !allB (rowAt m k) 48 55) ?_ (hop := fun _ => o_pickF g90)
          refine WpOps.nil ?_
          exact ⟨rfl, (.upd rfl (.upd rfl (.upd rfl (.upd rfl (.upd rfl (.upd rfl (.upd rfl (.upd rfl .refl)))))))), (by kernel_rfl)⟩
        refine WpOps.nil (thenK_at ?_)
        have e : b90 = !decide (RowOk (rowAt r 0).size (rowAt r k) (rowAt m k)) := by
          rw [hb90, hb81, hb76, cond_or', cond_or', cond_or', Bool.eq_iff_iff]
          simp only [Bool.or_eq_true, Bool.not_eq_true', decide_eq_false_iff_not, bne_iff_ne, ne_eq]
          unfold RowOk
          constructor
          · rintro (((h | h) | h) | h) ⟨q1, q2, q3, q4⟩
            · omega
            · omega
            · rw [q3] at h; cases h
            · rw [q4] at h; cases h
          · intro h
            by_cases q1 : (rowAt r k).size = (rowAt r 0).size
            · by_cases q2 : (rowAt m k).size = (rowAt r 0).size
              · cases q3 : allB (rowAt r k) 32 126 with
                | false => simp
                | true => cases q4 : allB (rowAt m k) 48 55 with
                  | false => simp
                  | true => exact absurd ⟨q1, q2, q3, q4⟩ h
              · omega
            · omega
        clear hb90 hb81 hb76
        refine Wp.split (b90) (by kernel_rfl) (fun hx => ?_) (fun hx => ?_)
        · have hn : ¬ Good r m i j := fun h => by
            rw [hx, decide_eq_true (h.2 k (by omega))] at e
            cases e
          rw [decide_eq_false hn]
          refine Wp.seq (Wp.text ?_)
          refine kp 2 (.bool false) ?_
          refine WpOps.nil (thenK_at (Wp.ret (blockK_ret (thenK_ret (thenK_ret (blockK_ret (thenK_ret ?_)))))))
          refine endK_retn [Value.bool false] (Value.bool false) (by kernel_rfl) (by kernel_rfl) ?_
          rfl
        · have hok : RowOk (rowAt r 0).size (rowAt r k) (rowAt m k) := by
            rw [hx] at e
            exact of_decide_eq_true (by simpa using e.symm)
          refine Wp.skip (blockK_norm (thenK_at (Wp.text ?_)))
          refine kp 91 (.int IntKind.i64 (IntKind.wrap .i64 ((↑k : Int) + 1))) ?_
          refine kp 53 (.int IntKind.i64 (IntKind.wrap .i64 ((↑k : Int) + 1))) ?_
          refine WpOps.nil (thenK_at ?_)
          refine ⟨k + 1, by omega, ⟨by omega, fun q hq => ?_⟩, View.of [0] [⟨24, true, [strs x r, strs y m, .int .i64 i, .int .i64 j]⟩] _ (by decide) rfl ⟨⟨_, by kernel_rfl, CellsOk.eq rfl rfl⟩, trivial⟩ ⟨⟨by kernel_rfl, rfl⟩, ⟨by kernel_rfl, rfl⟩, ⟨by kernel_rfl, rfl⟩, ⟨congrArg (Value.int .i64) (wr _ (by omega) (by omega)), rfl⟩, trivial⟩⟩
          rcases Nat.lt_or_ge q k with h | h
          · exact hp q h
          · obtain rfl : q = k := by omega
            exact hok
      · have hle : ¬ ((k : Int) < r.length) := of_decide_eq_false hd
        have hgood : Good r m i j := ⟨g6, fun q hq => hp q (by omega)⟩
        rw [decide_eq_true hgood]
        refine Wp.exit (thenK_exit (thenK_exit (blockK_hit (thenK_at (Wp.seq (Wp.text ?_))))))
        refine kp 2 (.bool true) ?_
        refine WpOps.nil (thenK_at (Wp.ret ?_))
        refine endK_retn [Value.bool true] (Value.bool true) (by kernel_rfl) (by kernel_rfl) ?_
        rfl

/-! ## updates that fit -/
def Fits (R C : Nat) (op row col n : Int) (t : ByteArray) : Prop :=
  (op = 0 ∧ (0 ≤ row ∧ row < R) ∧ (0 ≤ col ∧ col < C)) ∨ (op = 1 ∧ (1 ≤ t.size ∧ t.size ≤ 200) ∧ allB t 32 126 = true ∧ (0 ≤ n ∧ n ≤ 7)) ∨ (op = 4 ∧ (0 ≤ n ∧ n ≤ 7)) ∨
  (op = 6 ∧ (1 ≤ row ∧ row ≤ R) ∧ (1 ≤ col ∧ col ≤ C) ∧ (32 ≤ n ∧ n ≤ 126)) ∨ op = 2 ∨ op = 3 ∨ op = 5
instance (R C : Nat) (op row col n : Int) (t : ByteArray) : Decidable (Fits R C op row col n t) := inferInstanceAs (Decidable (_ ∨ _))
def uv (op row col n : Int) (t : ByteArray) : Value := .agg #[.int .i64 op, .int .i64 row, .int .i64 col, .int .i64 n, .string t]
theorem bne_f {a b : Int} (h : ¬ a = b) : (a == b) = false := by simpa using h
theorem f39 : E.funcs 39 = some Try.f39 := by kernel_rfl
theorem fits39 (x y : Nat) (r m : List ByteArray) (i j op row col n : Int) (t : ByteArray) (ht : t.size ≤ 140737488351232) (hr : 1 ≤ r.length ∧ r.length ≤ 40) (hc : 1 ≤ (rowAt r 0).size ∧ (rowAt r 0).size ≤ 80) :
    Fun E 39 [dv x y r m i j, uv op row col n t] (.bool (decide (Fits r.length (rowAt r 0).size op row col n t))) := by
  refine Fun.of f39 rfl (of_decide_eq_true (by kernel_rfl)) rfl ?_
  have l1 : 0 ≤ (0 : Int) ∧ (0 : Int) < r.length := by omega
  have v0 := strs_0 r (by omega)
  have w1 : IntKind.i64.wrap ((r.length : Int) - 1) = r.length - 1 := wr _ (by omega) (by omega)
  have w2 : IntKind.i64.wrap (((rowAt r 0).size : Int) - 1) = (rowAt r 0).size - 1 := wr _ (by omega) (by omega)
  unfold dv strs uv
  by_cases h0 : op = 0
  · subst h0
    have c1 := in43 row 0 (IntKind.i64.wrap ((r.length : Int) - 1))
    have c2 := in43 col 0 (IntKind.i64.wrap (((rowAt r 0).size : Int) - 1))
    refine Wp.seq (Wp.text ?_)
    refine md 2 (.pointer (some ⟨0, 0, none⟩)) (Blk.mk 24 true [strs x r, strs y m, Value.int .i64 i, Value.int .i64 j]) ?_
    refine md 3 (.pointer (some ⟨1, 0, none⟩)) (Blk.mk 26 true [Value.int .i64 0, Value.int .i64 row, Value.int .i64 col, Value.int .i64 n, Value.string t]) ?_
    refine kp 4 (.bool false) ?_
    refine WpOps.nil (thenK_at (Wp.seq ?_))
    refine Wp.region (by kernel_rfl) ?_
    refine kp 7 (.pointer (some ⟨0, 0, none⟩)) ?_
    refine kp 8 (.iface 9 (Value.iface (List.length r) (Value.iface x (Value.agg (List.toArray (List.map Value.string r)))))) ?_
    refine kp 9 (.int IntKind.i64 (↑(List.length r) : Int)) ?_
    refine kp 10 (.pointer (some ⟨0, 0, none⟩)) ?_
    refine kp 11 (.iface 9 (Value.iface (List.length r) (Value.iface x (Value.agg (List.toArray (List.map Value.string r)))))) ?_
    refine kp 12 (.iface 9 (Value.iface 0 (Value.agg (List.toArray (List.map Value.string r))))) ?_ (hop := fun _ => o_indexI (e := 9) (size := 1) (a := 0) l1)
    refine kp 13 (.string (rowAt r 0)) ?_ (hop := fun _ => o_loadI1 (0) v0)
    refine kp 14 (.int IntKind.i64 (↑(ByteArray.size (rowAt r 0)) : Int)) ?_
    refine kp 5 (.int IntKind.i64 (↑(List.length r) : Int)) ?_
    refine kp 6 (.int IntKind.i64 (↑(ByteArray.size (rowAt r 0)) : Int)) ?_
    refine WpOps.nil (thenK_at (Wp.seq (Wp.seq (Wp.text ?_))))
    refine kp 15 (.pointer (some ⟨1, 0, none⟩)) ?_
    refine kp 16 (.int IntKind.i64 0) ?_
    refine WpOps.nil (thenK_at (Wp.block (Wp.seq (Wp.text ?_))))
    refine kp 18 (.bool true) ?_
    refine kp 17 (.bool true) ?_
    refine WpOps.nil (thenK_at (on' (Wp.seq (Wp.text ?_))))
    refine kp 19 (.pointer (some ⟨1, 1, none⟩)) ?_
    refine kp 20 (.int IntKind.i64 row) ?_
    refine kp 21 (.int IntKind.i64 (↑(List.length r) : Int)) ?_
    refine kp 22 (.int IntKind.i64 (IntKind.wrap .i64 ((↑(List.length r) : Int) - 1))) ?_
    refine fr 23 43 [Value.int .i64 row, Value.int .i64 0, Value.int .i64 (IntKind.wrap .i64 ((↑(List.length r) : Int) - 1))] ?_
    refine WpFun.of (c1) ?_
    refine kp 24 (.bool (inB row 0 (IntKind.wrap .i64 ((↑(List.length r) : Int) - 1)))) ?_
    refine WpOps.fork 6 (inB row 0 (IntKind.wrap IntKind.i64 ((↑(List.length r) : Int) - 1))) [25, 26, 27, 28, 29, 30] 30 (inB col 0 (IntKind.wrap IntKind.i64 ((↑(ByteArray.size (rowAt r 0)) : Int) - 1))) (false) (by kernel_rfl) (fun g30 => ?_) (fun g30 => ?_) (fun f_30 b30 hb30 => ?_)
    · refine kp 25 (.pointer (some ⟨1, 2, none⟩)) ?_ (hw := wants_tt g30)
      refine kp 26 (.int IntKind.i64 col) ?_ (hw := wants_tt g30)
      refine kp 27 (.int IntKind.i64 (↑(ByteArray.size (rowAt r 0)) : Int)) ?_ (hw := wants_tt g30)
      refine kp 28 (.int IntKind.i64 (IntKind.wrap .i64 ((↑(ByteArray.size (rowAt r 0)) : Int) - 1))) ?_ (hw := wants_tt g30)
      refine fr 29 43 [Value.int .i64 col, Value.int .i64 0, Value.int .i64 (IntKind.wrap .i64 ((↑(ByteArray.size (rowAt r 0)) : Int) - 1))] ?_ (hw := wants_tt g30)
      refine WpFun.of (c2) ?_
      refine kp 30 (.bool (inB col 0 (IntKind.wrap .i64 ((↑(ByteArray.size (rowAt r 0)) : Int) - 1)))) ?_ (hop := fun _ => o_pickT g30)
      refine WpOps.nil ?_
      exact ⟨rfl, (.upd rfl (.upd rfl (.upd rfl (.upd rfl (.upd rfl (.upd rfl .refl)))))), (by kernel_rfl)⟩
    · refine um 25 ?_ (hw := wants_ft g30)
      refine um 26 ?_ (hw := wants_ft g30)
      refine um 27 ?_ (hw := wants_ft g30)
      refine um 28 ?_ (hw := wants_ft g30)
      refine um 29 ?_ (hw := wants_ft g30)
      refine kp 30 (.bool false) ?_ (hop := fun _ => o_pickF g30)
      refine WpOps.nil ?_
      exact ⟨rfl, (.upd rfl (.upd rfl (.upd rfl (.upd rfl (.upd rfl (.upd rfl .refl)))))), (by kernel_rfl)⟩
    refine kp 4 (.bool b30) ?_
    refine WpOps.nil (thenK_at (Wp.ret (blockK_ret (thenK_ret ?_))))
    refine endK_retn [Value.bool b30] (Value.bool b30) (by kernel_rfl) (by kernel_rfl) ?_
    have e : b30 = decide (Fits r.length (rowAt r 0).size 0 row col n t) := by
      rw [hb30, inB_eq, inB_eq, cond_and', w1, w2, Bool.eq_iff_iff]
      simp only [Bool.and_eq_true, decide_eq_true_eq]
      unfold Fits
      omega
    rw [← e]
    rfl
  have e0 := bne_f h0
  by_cases h1 : op = 1
  · subst h1
    have c1 := in43 t.size 1 200
    have c2 := in43 n 0 7
    have c3 := all47 t 32 126 ht
    refine Wp.seq (Wp.text ?_)
    refine md 2 (.pointer (some ⟨0, 0, none⟩)) (Blk.mk 24 true [strs x r, strs y m, Value.int .i64 i, Value.int .i64 j]) ?_
    refine md 3 (.pointer (some ⟨1, 0, none⟩)) (Blk.mk 26 true [Value.int .i64 1, Value.int .i64 row, Value.int .i64 col, Value.int .i64 n, Value.string t]) ?_
    refine kp 4 (.bool false) ?_
    refine WpOps.nil (thenK_at (Wp.seq ?_))
    refine Wp.region (by kernel_rfl) ?_
    refine kp 7 (.pointer (some ⟨0, 0, none⟩)) ?_
    refine kp 8 (.iface 9 (Value.iface (List.length r) (Value.iface x (Value.agg (List.toArray (List.map Value.string r)))))) ?_
    refine kp 9 (.int IntKind.i64 (↑(List.length r) : Int)) ?_
    refine kp 10 (.pointer (some ⟨0, 0, none⟩)) ?_
    refine kp 11 (.iface 9 (Value.iface (List.length r) (Value.iface x (Value.agg (List.toArray (List.map Value.string r)))))) ?_
    refine kp 12 (.iface 9 (Value.iface 0 (Value.agg (List.toArray (List.map Value.string r))))) ?_ (hop := fun _ => o_indexI (e := 9) (size := 1) (a := 0) l1)
    refine kp 13 (.string (rowAt r 0)) ?_ (hop := fun _ => o_loadI1 (0) v0)
    refine kp 14 (.int IntKind.i64 (↑(ByteArray.size (rowAt r 0)) : Int)) ?_
    refine kp 5 (.int IntKind.i64 (↑(List.length r) : Int)) ?_
    refine kp 6 (.int IntKind.i64 (↑(ByteArray.size (rowAt r 0)) : Int)) ?_
    refine WpOps.nil (thenK_at (Wp.seq (Wp.seq (Wp.text ?_))))
    refine kp 15 (.pointer (some ⟨1, 0, none⟩)) ?_
    refine kp 16 (.int IntKind.i64 1) ?_
    refine WpOps.nil (thenK_at (Wp.block (Wp.seq (Wp.text ?_))))
    refine kp 18 (.bool false) ?_
    refine kp 17 (.bool false) ?_
    refine WpOps.nil (thenK_at (off' (Wp.seq (Wp.text ?_))))
    refine kp 32 (.bool true) ?_
    refine kp 31 (.bool true) ?_
    refine WpOps.nil (thenK_at (on' (Wp.seq (Wp.text ?_))))
    refine kp 33 (.pointer (some ⟨1, 4, none⟩)) ?_
    refine kp 34 (.string t) ?_
    refine kp 35 (.int IntKind.i64 (↑(ByteArray.size t) : Int)) ?_
    refine fr 36 43 [Value.int .i64 (↑(ByteArray.size t) : Int), Value.int .i64 1, Value.int .i64 200] ?_
    refine WpFun.of (c1) ?_
    refine kp 37 (.bool (inB (↑(ByteArray.size t) : Int) 1 200)) ?_
    refine WpOps.fork 4 (inB (↑(ByteArray.size t) : Int) 1 200) [38, 39, 40, 41] 41 (allB t 32 126) (false) (by kernel_rfl) (fun g41 => ?_) (fun g41 => ?_) (fun f_41 b41 hb41 => ?_)
    · refine kp 38 (.pointer (some ⟨1, 4, none⟩)) ?_ (hw := wants_tt g41)
      refine kp 39 (.string t) ?_ (hw := wants_tt g41)
      refine fr 40 47 [Value.string t, Value.int .u8 32, Value.int .u8 126] ?_ (hw := wants_tt g41)
      refine WpFun.of (c3) ?_
      refine kp 41 (.bool (allB t 32 126)) ?_ (hop := fun _ => o_pickT g41)
      refine WpOps.nil ?_
      exact ⟨rfl, (.upd rfl (.upd rfl (.upd rfl (.upd rfl .refl)))), (by kernel_rfl)⟩
    · refine um 38 ?_ (hw := wants_ft g41)
      refine um 39 ?_ (hw := wants_ft g41)
      refine um 40 ?_ (hw := wants_ft g41)
      refine kp 41 (.bool false) ?_ (hop := fun _ => o_pickF g41)
      refine WpOps.nil ?_
      exact ⟨rfl, (.upd rfl (.upd rfl (.upd rfl (.upd rfl .refl)))), (by kernel_rfl)⟩
    refine kp 42 (.bool b41) ?_
    refine WpOps.fork 4 (b41) [43, 44, 45, 46] 46 (inB n 0 7) (false) (by kernel_rfl) (fun g46 => ?_) (fun g46 => ?_) (fun f_46 b46 hb46 => ?_)
    · refine kp 43 (.pointer (some ⟨1, 3, none⟩)) ?_ (hw := wants_tt g46)
      refine kp 44 (.int IntKind.i64 n) ?_ (hw := wants_tt g46)
      refine fr 45 43 [Value.int .i64 n, Value.int .i64 0, Value.int .i64 7] ?_ (hw := wants_tt g46)
      refine WpFun.of (c2) ?_
      refine kp 46 (.bool (inB n 0 7)) ?_ (hop := fun _ => o_pickT g46)
      refine WpOps.nil ?_
      exact ⟨rfl, (.upd rfl (.upd rfl (.upd rfl (.upd rfl .refl)))), (by kernel_rfl)⟩
    · refine um 43 ?_ (hw := wants_ft g46)
      refine um 44 ?_ (hw := wants_ft g46)
      refine um 45 ?_ (hw := wants_ft g46)
      refine kp 46 (.bool false) ?_ (hop := fun _ => o_pickF g46)
      refine WpOps.nil ?_
      exact ⟨rfl, (.upd rfl (.upd rfl (.upd rfl (.upd rfl .refl)))), (by kernel_rfl)⟩
    refine kp 4 (.bool b46) ?_
    refine WpOps.nil (thenK_at (Wp.ret (blockK_ret (thenK_ret ?_))))
    refine endK_retn [Value.bool b46] (Value.bool b46) (by kernel_rfl) (by kernel_rfl) ?_
    have e : b46 = decide (Fits r.length (rowAt r 0).size 1 row col n t) := by
      rw [hb46, hb41, inB_eq, inB_eq, cond_and', cond_and', Bool.eq_iff_iff]
      simp only [Bool.and_eq_true, decide_eq_true_eq]
      unfold Fits
      constructor
      · rintro ⟨⟨q1, q2⟩, q3⟩
        exact .inr (.inl ⟨rfl, by omega, q2, q3⟩)
      · rintro (h | ⟨_, q1, q2, q3⟩ | h)
        · omega
        · exact ⟨⟨by omega, q2⟩, q3⟩
        · omega
    rw [← e]
    rfl
  have e1 := bne_f h1
  by_cases h4 : op = 4
  · subst h4
    have c2 := in43 n 0 7
    refine Wp.seq (Wp.text ?_)
    refine md 2 (.pointer (some ⟨0, 0, none⟩)) (Blk.mk 24 true [strs x r, strs y m, Value.int .i64 i, Value.int .i64 j]) ?_
    refine md 3 (.pointer (some ⟨1, 0, none⟩)) (Blk.mk 26 true [Value.int .i64 4, Value.int .i64 row, Value.int .i64 col, Value.int .i64 n, Value.string t]) ?_
    refine kp 4 (.bool false) ?_
    refine WpOps.nil (thenK_at (Wp.seq ?_))
    refine Wp.region (by kernel_rfl) ?_
    refine kp 7 (.pointer (some ⟨0, 0, none⟩)) ?_
    refine kp 8 (.iface 9 (Value.iface (List.length r) (Value.iface x (Value.agg (List.toArray (List.map Value.string r)))))) ?_
    refine kp 9 (.int IntKind.i64 (↑(List.length r) : Int)) ?_
    refine kp 10 (.pointer (some ⟨0, 0, none⟩)) ?_
    refine kp 11 (.iface 9 (Value.iface (List.length r) (Value.iface x (Value.agg (List.toArray (List.map Value.string r)))))) ?_
    refine kp 12 (.iface 9 (Value.iface 0 (Value.agg (List.toArray (List.map Value.string r))))) ?_ (hop := fun _ => o_indexI (e := 9) (size := 1) (a := 0) l1)
    refine kp 13 (.string (rowAt r 0)) ?_ (hop := fun _ => o_loadI1 (0) v0)
    refine kp 14 (.int IntKind.i64 (↑(ByteArray.size (rowAt r 0)) : Int)) ?_
    refine kp 5 (.int IntKind.i64 (↑(List.length r) : Int)) ?_
    refine kp 6 (.int IntKind.i64 (↑(ByteArray.size (rowAt r 0)) : Int)) ?_
    refine WpOps.nil (thenK_at (Wp.seq (Wp.seq (Wp.text ?_))))
    refine kp 15 (.pointer (some ⟨1, 0, none⟩)) ?_
    refine kp 16 (.int IntKind.i64 4) ?_
    refine WpOps.nil (thenK_at (Wp.block (Wp.seq (Wp.text ?_))))
    refine kp 18 (.bool false) ?_
    refine kp 17 (.bool false) ?_
    refine WpOps.nil (thenK_at (off' (Wp.seq (Wp.text ?_))))
    refine kp 32 (.bool false) ?_
    refine kp 31 (.bool false) ?_
    refine WpOps.nil (thenK_at (off' (Wp.seq (Wp.text ?_))))
    refine kp 48 (.bool true) ?_
    refine kp 47 (.bool true) ?_
    refine WpOps.nil (thenK_at (on' (Wp.seq (Wp.text ?_))))
    refine kp 49 (.pointer (some ⟨1, 3, none⟩)) ?_
    refine kp 50 (.int IntKind.i64 n) ?_
    refine fr 51 43 [Value.int .i64 n, Value.int .i64 0, Value.int .i64 7] ?_
    refine WpFun.of (c2) ?_
    refine kp 4 (.bool (inB n 0 7)) ?_
    refine WpOps.nil (thenK_at (Wp.ret (blockK_ret (thenK_ret ?_))))
    refine endK_retn [Value.bool (inB n 0 7)] (Value.bool (inB n 0 7)) (by kernel_rfl) (by kernel_rfl) ?_
    rw [inB_eq, show decide (0 ≤ n ∧ n ≤ 7) = decide (Fits r.length (rowAt r 0).size 4 row col n t) from decide_eq_decide.2 (by unfold Fits; omega)]
    rfl
  have e4 := bne_f h4
  by_cases h6 : op = 6
  · subst h6
    have c1 := in43 row 1 r.length
    have c2 := in43 col 1 (rowAt r 0).size
    have c3 := in43 n 32 126
    refine Wp.seq (Wp.text ?_)
    refine md 2 (.pointer (some ⟨0, 0, none⟩)) (Blk.mk 24 true [strs x r, strs y m, Value.int .i64 i, Value.int .i64 j]) ?_
    refine md 3 (.pointer (some ⟨1, 0, none⟩)) (Blk.mk 26 true [Value.int .i64 6, Value.int .i64 row, Value.int .i64 col, Value.int .i64 n, Value.string t]) ?_
    refine kp 4 (.bool false) ?_
    refine WpOps.nil (thenK_at (Wp.seq ?_))
    refine Wp.region (by kernel_rfl) ?_
    refine kp 7 (.pointer (some ⟨0, 0, none⟩)) ?_
    refine kp 8 (.iface 9 (Value.iface (List.length r) (Value.iface x (Value.agg (List.toArray (List.map Value.string r)))))) ?_
    refine kp 9 (.int IntKind.i64 (↑(List.length r) : Int)) ?_
    refine kp 10 (.pointer (some ⟨0, 0, none⟩)) ?_
    refine kp 11 (.iface 9 (Value.iface (List.length r) (Value.iface x (Value.agg (List.toArray (List.map Value.string r)))))) ?_
    refine kp 12 (.iface 9 (Value.iface 0 (Value.agg (List.toArray (List.map Value.string r))))) ?_ (hop := fun _ => o_indexI (e := 9) (size := 1) (a := 0) l1)
    refine kp 13 (.string (rowAt r 0)) ?_ (hop := fun _ => o_loadI1 (0) v0)
    refine kp 14 (.int IntKind.i64 (↑(ByteArray.size (rowAt r 0)) : Int)) ?_
    refine kp 5 (.int IntKind.i64 (↑(List.length r) : Int)) ?_
    refine kp 6 (.int IntKind.i64 (↑(ByteArray.size (rowAt r 0)) : Int)) ?_
    refine WpOps.nil (thenK_at (Wp.seq (Wp.seq (Wp.text ?_))))
    refine kp 15 (.pointer (some ⟨1, 0, none⟩)) ?_
    refine kp 16 (.int IntKind.i64 6) ?_
    refine WpOps.nil (thenK_at (Wp.block (Wp.seq (Wp.text ?_))))
    refine kp 18 (.bool false) ?_
    refine kp 17 (.bool false) ?_
    refine WpOps.nil (thenK_at (off' (Wp.seq (Wp.text ?_))))
    refine kp 32 (.bool false) ?_
    refine kp 31 (.bool false) ?_
    refine WpOps.nil (thenK_at (off' (Wp.seq (Wp.text ?_))))
    refine kp 48 (.bool false) ?_
    refine kp 47 (.bool false) ?_
    refine WpOps.nil (thenK_at (off' (Wp.seq (Wp.text ?_))))
    refine kp 53 (.bool true) ?_
    refine kp 52 (.bool true) ?_
    refine WpOps.nil (thenK_at (on' (Wp.seq (Wp.text ?_))))
    refine kp 54 (.pointer (some ⟨1, 1, none⟩)) ?_
    refine kp 55 (.int IntKind.i64 row) ?_
    refine kp 56 (.int IntKind.i64 (↑(List.length r) : Int)) ?_
    refine fr 57 43 [Value.int .i64 row, Value.int .i64 1, Value.int .i64 (↑(List.length r) : Int)] ?_
    refine WpFun.of (c1) ?_
    refine kp 58 (.bool (inB row 1 (↑(List.length r) : Int))) ?_
    refine WpOps.fork 5 (inB row 1 (↑(List.length r) : Int)) [59, 60, 61, 62, 63] 63 (inB col 1 (↑(ByteArray.size (rowAt r 0)) : Int)) (false) (by kernel_rfl) (fun g63 => ?_) (fun g63 => ?_) (fun f_63 b63 hb63 => ?_)
    · refine kp 59 (.pointer (some ⟨1, 2, none⟩)) ?_ (hw := wants_tt g63)
      refine kp 60 (.int IntKind.i64 col) ?_ (hw := wants_tt g63)
      refine kp 61 (.int IntKind.i64 (↑(ByteArray.size (rowAt r 0)) : Int)) ?_ (hw := wants_tt g63)
      refine fr 62 43 [Value.int .i64 col, Value.int .i64 1, Value.int .i64 (↑(ByteArray.size (rowAt r 0)) : Int)] ?_ (hw := wants_tt g63)
      refine WpFun.of (c2) ?_
      refine kp 63 (.bool (inB col 1 (↑(ByteArray.size (rowAt r 0)) : Int))) ?_ (hop := fun _ => o_pickT g63)
      refine WpOps.nil ?_
      exact ⟨rfl, (.upd rfl (.upd rfl (.upd rfl (.upd rfl (.upd rfl .refl))))), (by kernel_rfl)⟩
    · refine um 59 ?_ (hw := wants_ft g63)
      refine um 60 ?_ (hw := wants_ft g63)
      refine um 61 ?_ (hw := wants_ft g63)
      refine um 62 ?_ (hw := wants_ft g63)
      refine kp 63 (.bool false) ?_ (hop := fun _ => o_pickF g63)
      refine WpOps.nil ?_
      exact ⟨rfl, (.upd rfl (.upd rfl (.upd rfl (.upd rfl (.upd rfl .refl))))), (by kernel_rfl)⟩
    refine kp 64 (.bool b63) ?_
    refine WpOps.fork 4 (b63) [65, 66, 67, 68] 68 (inB n 32 126) (false) (by kernel_rfl) (fun g68 => ?_) (fun g68 => ?_) (fun f_68 b68 hb68 => ?_)
    · refine kp 65 (.pointer (some ⟨1, 3, none⟩)) ?_ (hw := wants_tt g68)
      refine kp 66 (.int IntKind.i64 n) ?_ (hw := wants_tt g68)
      refine fr 67 43 [Value.int .i64 n, Value.int .i64 32, Value.int .i64 126] ?_ (hw := wants_tt g68)
      refine WpFun.of (c3) ?_
      refine kp 68 (.bool (inB n 32 126)) ?_ (hop := fun _ => o_pickT g68)
      refine WpOps.nil ?_
      exact ⟨rfl, (.upd rfl (.upd rfl (.upd rfl (.upd rfl .refl)))), (by kernel_rfl)⟩
    · refine um 65 ?_ (hw := wants_ft g68)
      refine um 66 ?_ (hw := wants_ft g68)
      refine um 67 ?_ (hw := wants_ft g68)
      refine kp 68 (.bool false) ?_ (hop := fun _ => o_pickF g68)
      refine WpOps.nil ?_
      exact ⟨rfl, (.upd rfl (.upd rfl (.upd rfl (.upd rfl .refl)))), (by kernel_rfl)⟩
    refine kp 4 (.bool b68) ?_
    refine WpOps.nil (thenK_at (Wp.ret (blockK_ret (thenK_ret ?_))))
    refine endK_retn [Value.bool b68] (Value.bool b68) (by kernel_rfl) (by kernel_rfl) ?_
    have e : b68 = decide (Fits r.length (rowAt r 0).size 6 row col n t) := by
      rw [hb68, hb63, inB_eq, inB_eq, inB_eq, cond_and', cond_and', Bool.eq_iff_iff]
      simp only [Bool.and_eq_true, decide_eq_true_eq]
      unfold Fits
      omega
    rw [← e]
    rfl
  have e6 := bne_f h6
  refine Wp.seq (Wp.text ?_)
  refine md 2 (.pointer (some ⟨0, 0, none⟩)) (Blk.mk 24 true [strs x r, strs y m, Value.int .i64 i, Value.int .i64 j]) ?_
  refine md 3 (.pointer (some ⟨1, 0, none⟩)) (Blk.mk 26 true [Value.int .i64 op, Value.int .i64 row, Value.int .i64 col, Value.int .i64 n, Value.string t]) ?_
  refine kp 4 (.bool false) ?_
  refine WpOps.nil (thenK_at (Wp.seq ?_))
  refine Wp.region (by kernel_rfl) ?_
  refine kp 7 (.pointer (some ⟨0, 0, none⟩)) ?_
  refine kp 8 (.iface 9 (Value.iface (List.length r) (Value.iface x (Value.agg (List.toArray (List.map Value.string r)))))) ?_
  refine kp 9 (.int IntKind.i64 (↑(List.length r) : Int)) ?_
  refine kp 10 (.pointer (some ⟨0, 0, none⟩)) ?_
  refine kp 11 (.iface 9 (Value.iface (List.length r) (Value.iface x (Value.agg (List.toArray (List.map Value.string r)))))) ?_
  refine kp 12 (.iface 9 (Value.iface 0 (Value.agg (List.toArray (List.map Value.string r))))) ?_ (hop := fun _ => o_indexI (e := 9) (size := 1) (a := 0) l1)
  refine kp 13 (.string (rowAt r 0)) ?_ (hop := fun _ => o_loadI1 (0) v0)
  refine kp 14 (.int IntKind.i64 (↑(ByteArray.size (rowAt r 0)) : Int)) ?_
  refine kp 5 (.int IntKind.i64 (↑(List.length r) : Int)) ?_
  refine kp 6 (.int IntKind.i64 (↑(ByteArray.size (rowAt r 0)) : Int)) ?_
  refine WpOps.nil (thenK_at (Wp.seq (Wp.seq (Wp.text ?_))))
  refine kp 15 (.pointer (some ⟨1, 0, none⟩)) ?_
  refine kp 16 (.int IntKind.i64 op) ?_
  refine WpOps.nil (thenK_at (Wp.block (Wp.seq (Wp.text ?_))))
  refine kp 18 (.bool false) ?_ (hop := fun _ => by_fact e0)
  refine kp 17 (.bool false) ?_
  refine WpOps.nil (thenK_at (off' (Wp.seq (Wp.text ?_))))
  refine kp 32 (.bool false) ?_ (hop := fun _ => by_fact e1)
  refine kp 31 (.bool false) ?_
  refine WpOps.nil (thenK_at (off' (Wp.seq (Wp.text ?_))))
  refine kp 48 (.bool false) ?_ (hop := fun _ => by_fact e4)
  refine kp 47 (.bool false) ?_
  refine WpOps.nil (thenK_at (off' (Wp.seq (Wp.text ?_))))
  refine kp 53 (.bool false) ?_ (hop := fun _ => by_fact e6)
  refine kp 52 (.bool false) ?_
  refine WpOps.nil (thenK_at (off' (Wp.skip (blockK_norm (thenK_at (Wp.seq (Wp.text ?_)))))))
  refine kp 69 (.pointer (some ⟨1, 0, none⟩)) ?_
  refine kp 70 (.int IntKind.i64 op) ?_
  refine kp 71 (.bool (op == 2)) ?_
  refine kp 72 (.bool (op == 2)) ?_
  refine WpOps.fork 4 (op == 2) [73, 74, 75, 76] 76 (true) (op == 3) (by kernel_rfl) (fun g76 => ?_) (fun g76 => ?_) (fun f_76 b76 hb76 => ?_)
  · refine um 73 ?_ (hw := wants_tf g76)
    refine um 74 ?_ (hw := wants_tf g76)
    refine um 75 ?_ (hw := wants_tf g76)
    refine kp 76 (.bool true) ?_ (hop := fun _ => o_pickT g76)
    refine WpOps.nil ?_
    exact ⟨rfl, (.upd rfl (.upd rfl (.upd rfl (.upd rfl .refl)))), (by kernel_rfl)⟩
  · refine kp 73 (.pointer (some ⟨1, 0, none⟩)) ?_ (hw := wants_ff g76)
    refine kp 74 (.int IntKind.i64 op) ?_ (hw := wants_ff g76)
    refine kp 75 (.bool (op == 3)) ?_ (hw := wants_ff g76)
    refine kp 76 (.bool (op == 3)) ?_ (hop := fun _ => o_pickF g76)
    refine WpOps.nil ?_
    exact ⟨rfl, (.upd rfl (.upd rfl (.upd rfl (.upd rfl .refl)))), (by kernel_rfl)⟩
  refine kp 77 (.bool b76) ?_
  refine WpOps.fork 4 (b76) [78, 79, 80, 81] 81 (true) (op == 5) (by kernel_rfl) (fun g81 => ?_) (fun g81 => ?_) (fun f_81 b81 hb81 => ?_)
  · refine um 78 ?_ (hw := wants_tf g81)
    refine um 79 ?_ (hw := wants_tf g81)
    refine um 80 ?_ (hw := wants_tf g81)
    refine kp 81 (.bool true) ?_ (hop := fun _ => o_pickT g81)
    refine WpOps.nil ?_
    exact ⟨rfl, (.upd rfl (.upd rfl (.upd rfl (.upd rfl .refl)))), (by kernel_rfl)⟩
  · refine kp 78 (.pointer (some ⟨1, 0, none⟩)) ?_ (hw := wants_ff g81)
    refine kp 79 (.int IntKind.i64 op) ?_ (hw := wants_ff g81)
    refine kp 80 (.bool (op == 5)) ?_ (hw := wants_ff g81)
    refine kp 81 (.bool (op == 5)) ?_ (hop := fun _ => o_pickF g81)
    refine WpOps.nil ?_
    exact ⟨rfl, (.upd rfl (.upd rfl (.upd rfl (.upd rfl .refl)))), (by kernel_rfl)⟩
  refine kp 4 (.bool b81) ?_
  refine WpOps.nil (thenK_at (Wp.ret ?_))
  refine endK_retn [Value.bool b81] (Value.bool b81) (by kernel_rfl) (by kernel_rfl) ?_
  have e : b81 = decide (Fits r.length (rowAt r 0).size op row col n t) := by
    rw [hb81, hb76, cond_or', cond_or', Bool.eq_iff_iff]
    simp only [Bool.or_eq_true, beq_iff_eq, decide_eq_true_eq]
    unfold Fits
    omega
  rw [← e]
  rfl
end Go.Proofs.Ytlejgfeoffhjoaa.D
