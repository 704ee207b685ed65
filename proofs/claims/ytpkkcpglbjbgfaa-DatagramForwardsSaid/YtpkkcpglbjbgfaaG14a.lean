/- Forwarding: lines, comparing prefixes. -/
import Derived.Test.YtpkkcpglbjbgfaaFwLem
import Derived.Test.YtpkkcpglbjbgfaaF14h
namespace Go.Proofs.Ytpkkcpglbjbgfaa.D
open Go.Fw Go.RowKit

/-- Cells of rows of things that have as many cells each. -/
theorem flat_len {α : Type} (f : α → List Value) (m : Nat) (hf : ∀ a, (f a).length = m) (l : List α) : (l.flatMap f).length = l.length * m := by
  induction l with
  | nil => simp
  | cons g r ih =>
    rw [List.flatMap_cons, List.length_append, ih, hf, List.length_cons, Nat.add_mul]
    omega
theorem flat_drop {α : Type} (f : α → List Value) (m : Nat) (hf : ∀ a, (f a).length = m) : ∀ (l : List α) (i : Nat) (hi : i < l.length), (l.flatMap f).drop (i * m) = f (l[i]'hi) ++ (l.drop (i + 1)).flatMap f
  | [], _, hi => by cases hi
  | g :: r, 0, _ => by simp
  | g :: r, i + 1, hi => by
    have ih := flat_drop f m hf r i (by simpa using hi)
    rw [List.flatMap_cons, show (i + 1) * m = (f g).length + i * m by rw [hf, Nat.add_mul]; omega, List.drop_append, List.drop_of_length_le (by omega), Nat.add_sub_cancel_left, List.nil_append, ih]
    rfl
theorem flat_at {α : Type} (f : α → List Value) (m : Nat) (hf : ∀ a, (f a).length = m) (l : List α) (i : Nat) (hi : i < l.length) : cellsAt (l.flatMap f) ((i : Int).toNat * m) m = some (f (l[i]'hi)) := by
  rw [Int.toNat_natCast]
  have h1 := flat_len f m hf l
  have h2 : i * m + m ≤ (l.flatMap f).length := by
    rw [h1]
    have := Nat.mul_le_mul_right m (show i + 1 ≤ l.length by omega)
    rw [Nat.add_mul] at this
    omega
  simp only [cellsAt, if_pos h2, Option.some.injEq]
  rw [flat_drop f m hf l i hi, List.take_append_of_le_length (by rw [hf]; exact Nat.le_refl _), List.take_of_length_le (by rw [hf]; exact Nat.le_refl _)]
theorem flat_get {α : Type} (f : α → List Value) (m : Nat) (hf : ∀ a, (f a).length = m) (l : List α) (i j : Nat) (hi : i < l.length) (hj : j < m) : (l.flatMap f)[i * m + j]? = (f (l[i]'hi))[j]? := by
  have h := flat_drop f m hf l i hi
  have h2 := congrArg (fun x => x[j]?) h
  simp only [List.getElem?_drop] at h2
  rw [h2, List.getElem?_append_left (by rw [hf]; exact hj)]

/-- A line. -/
structure Ln where
  to : Int
  size : Int
def lc (l : Ln) : List Value := [.int .i64 l.to, .int .i64 l.size]
def lv (l : Ln) : Value := .agg (lc l).toArray
def lns (e x : Nat) (l : List Ln) : Value := FS e l.length x (l.flatMap lc).toArray
def badL (l : Ln) : Bool := !inR l.size 1 4000
theorem f72 : E.funcs 72 = some Try.f72 := by kernel_rfl
theorem bad72 (l : Ln) : Fun E 72 [lv l] (.bool (badL l)) := by
  refine Fun.of f72 rfl (of_decide_eq_true (by kernel_rfl)) rfl ?_
  have c := in44 l.size 1 4000
  refine Wp.seq ?_
  refine Wp.text ?_
  refine WpOps.made 1 (Value.pointer (some (Addr.mk 0 0 none))) (Blk.mk 76 true [Value.int IntKind.i64 (Ln.to l), Value.int IntKind.i64 (Ln.size l)]) (by kernel_rfl) (by kernel_rfl) (by kernel_rfl) ?_ (fun cf => (by kernel_rfl))
  refine WpOps.keep 2 (Value.bool false) (by kernel_rfl) (by kernel_rfl) (by kernel_rfl) ?_ (fun cf => (by kernel_rfl))
  refine WpOps.nil ?_
  refine thenK_at ?_
  refine Wp.seq ?_
  refine Wp.text ?_
  refine WpOps.keep 3 (Value.pointer (some (Addr.mk 0 1 none))) (by kernel_rfl) (by kernel_rfl) (by kernel_rfl) ?_ (fun cf => (by kernel_rfl))
  refine WpOps.keep 4 (Value.int IntKind.i64 (Ln.size l)) (by kernel_rfl) (by kernel_rfl) (by kernel_rfl) ?_ (fun cf => (by kernel_rfl))
  refine WpOps.framed 5 44 [Value.int IntKind.i64 (Ln.size l), Value.int IntKind.i64 1, Value.int IntKind.i64 4000] (by kernel_rfl) (by kernel_rfl) (by kernel_rfl) (by kernel_rfl) (by kernel_rfl) (fun cf => (by kernel_rfl)) ?_
  refine WpFun.of (c) ?_
  refine WpOps.keep 6 (Value.bool !inR (Ln.size l) 1 4000) (by kernel_rfl) (by kernel_rfl) (by kernel_rfl) ?_ (fun cf => (by kernel_rfl))
  refine WpOps.keep 2 (Value.bool !inR (Ln.size l) 1 4000) (by kernel_rfl) (by kernel_rfl) (by kernel_rfl) ?_ (fun cf => (by kernel_rfl))
  refine WpOps.nil ?_
  refine thenK_at ?_
  refine Wp.ret ?_
  refine endK_retn [Value.bool !inR (Ln.size l) 1 4000] (Value.bool !inR (Ln.size l) 1 4000) (by kernel_rfl) (by kernel_rfl) ?_
  rfl
def firstL (l : List Ln) : Int := match l.findIdx? badL with
  | some i => i
  | none => -1
theorem f83 : E.funcs 83 = some Try.f83 := by kernel_rfl
theorem index83 (x : Nat) (l : List Ln) (hl : l.length ≤ 9223372036854775806) : Fun E 83 [lns 76 x l, .func (.func 72) #[] #[]] (.int .i64 (firstL l)) := by
  refine Fun.of f83 rfl (of_decide_eq_true (by kernel_rfl)) rfl ?_
  refine Wp.seq ?_
  refine Wp.text ?_
  refine WpOps.keep 4 (Value.int IntKind.i64 0) (by kernel_rfl) (by kernel_rfl) (by kernel_rfl) ?_ (fun cf => (by kernel_rfl))
  refine WpOps.nil ?_
  refine thenK_at ?_
  refine Wp.seq ?_
  refine Wp.seq ?_
  refine Wp.text ?_
  refine WpOps.keep 6 (Value.iface 76 (Value.iface (List.length l) (Value.iface x (Value.agg (List.toArray (List.flatMap lc l)))))) (by kernel_rfl) (by kernel_rfl) (by kernel_rfl) ?_ (fun cf => (by kernel_rfl))
  refine WpOps.keep 7 (Value.int IntKind.i64 (↑(List.length l) : Int)) (by kernel_rfl) (by kernel_rfl) (by kernel_rfl) ?_ (fun cf => (by kernel_rfl))
  refine WpOps.keep 8 (Value.int IntKind.i64 0) (by kernel_rfl) (by kernel_rfl) (by kernel_rfl) ?_ (fun cf => (by kernel_rfl))
  refine WpOps.nil ?_
  refine thenK_at ?_
  refine Wp.block ?_
  refine Wp.loop (G := Nat) (fun i => layj [(0, lns 76 x l), (1, .func (.func 72) #[] #[]), (7, .int .i64 l.length), (8, .int .i64 i)]) (fun _ => heapOf []) (fun i => l.length - i) (fun i => i ≤ l.length ∧ ∀ j (hj : j < l.length), j < i → badL (l[j]'hj) = false) 0
    (View.of [] [] _ List.nodup_nil rfl trivial ⟨⟨by kernel_rfl, rfl⟩, ⟨by kernel_rfl, rfl⟩, ⟨by kernel_rfl, rfl⟩, ⟨by kernel_rfl, rfl⟩, trivial⟩) ⟨Nat.zero_le _, fun j _ hj => absurd hj (Nat.not_lt_zero _)⟩ ?_
  rintro i ⟨hi, hp⟩
  refine Wp.seq ?_
  refine Wp.text ?_
  refine WpOps.keep 9 (Value.bool (decide ((↑i : Int) < (↑(List.length l) : Int)))) (by kernel_rfl) (by kernel_rfl) (by kernel_rfl) ?_ (fun cf => (by kernel_rfl))
  refine WpOps.nil ?_
  refine thenK_at ?_
  refine Wp.seq ?_
  refine Wp.split (decide ((↑i : Int) < (↑(List.length l) : Int))) (by kernel_rfl) (fun hc => ?_) (fun hc => ?_)
  · have hlt : (i : Int) < l.length := of_decide_eq_true hc
    have hi2 : i < l.length := by omega
    have h0 : 0 ≤ (i : Int) ∧ (i : Int) < l.length := ⟨Int.natCast_nonneg _, hlt⟩
    have hv := flat_at lc 2 (fun _ => rfl) l i hi2
    have c := bad72 (l[i]'hi2)
    refine Wp.skip ?_
    refine thenK_at ?_
    refine Wp.seq ?_
    refine Wp.block ?_
    refine Wp.seq ?_
    refine Wp.text ?_
    refine WpOps.keep 10 (Value.int IntKind.i64 (↑i : Int)) (by kernel_rfl) (by kernel_rfl) (by kernel_rfl) ?_ (fun cf => (by kernel_rfl))
    refine WpOps.keep 5 (Value.int IntKind.i64 (↑i : Int)) (by kernel_rfl) (by kernel_rfl) (by kernel_rfl) ?_ (fun cf => (by kernel_rfl))
    refine WpOps.nil ?_
    refine thenK_at ?_
    refine Wp.seq ?_
    refine Wp.text ?_
    refine WpOps.keep 11 (Value.func (Fn.func 72) #[] #[]) (by kernel_rfl) (by kernel_rfl) (by kernel_rfl) ?_ (fun cf => (by kernel_rfl))
    refine WpOps.keep 12 (Value.iface 76 (Value.iface (List.length l) (Value.iface x (Value.agg (List.toArray (List.flatMap lc l)))))) (by kernel_rfl) (by kernel_rfl) (by kernel_rfl) ?_ (fun cf => (by kernel_rfl))
    refine WpOps.keep 13 (Value.int IntKind.i64 (↑i : Int)) (by kernel_rfl) (by kernel_rfl) (by kernel_rfl) ?_ (fun cf => (by kernel_rfl))
    refine WpOps.keep 14 (Value.iface 76 (Value.iface (Int.toNat (↑i : Int) * 2) (Value.agg (List.toArray (List.flatMap lc l))))) (by kernel_rfl) (by kernel_rfl) (by kernel_rfl) ?_ (fun cf => o_indexI (e := 76) (size := 2) (a := (↑i : Int)) h0 (by kernel_rfl) (by kernel_rfl) (by kernel_rfl) (by kernel_rfl))
    refine WpOps.keep 15 (Value.agg (List.toArray (lc l[i]))) (by kernel_rfl) (by kernel_rfl) (by kernel_rfl) ?_ (fun cf => o_loadIA (Int.toNat (↑i : Int) * 2) hv (by kernel_rfl) (by kernel_rfl))
    refine WpOps.framed 16 72 [Value.agg (List.toArray (lc l[i]))] (by kernel_rfl) (by kernel_rfl) (by kernel_rfl) (by kernel_rfl) (by kernel_rfl) (fun cf => (by kernel_rfl)) ?_
    refine WpFun.of (c) ?_
    refine WpOps.nil ?_
    refine thenK_at ?_
    refine Wp.split (badL l[i]) (by kernel_rfl) (fun hb => ?_) (fun hb => ?_)
    · refine Wp.seq ?_
      refine Wp.text ?_
      refine WpOps.keep 17 (Value.int IntKind.i64 (↑i : Int)) (by kernel_rfl) (by kernel_rfl) (by kernel_rfl) ?_ (fun cf => (by kernel_rfl))
      refine WpOps.keep 4 (Value.int IntKind.i64 (↑i : Int)) (by kernel_rfl) (by kernel_rfl) (by kernel_rfl) ?_ (fun cf => (by kernel_rfl))
      refine WpOps.nil ?_
      refine thenK_at ?_
      refine Wp.ret ?_
      refine blockK_ret ?_
      refine thenK_ret ?_
      refine thenK_ret ?_
      refine blockK_ret ?_
      refine thenK_ret ?_
      refine endK_retn [Value.int IntKind.i64 (↑i : Int)] (Value.int IntKind.i64 (↑i : Int)) (by kernel_rfl) (by kernel_rfl) ?_
      have hf : firstL l = i := by
        have : l.findIdx? badL = some i := by
          rw [List.findIdx?_eq_some_iff_getElem]
          exact ⟨hi2, hb, fun j hj => by rw [hp j (by omega) hj]; decide⟩
        simp only [firstL, this]
      rw [hf]
      rfl
    · refine Wp.skip ?_
      refine blockK_norm ?_
      refine thenK_at ?_
      refine Wp.text ?_
      refine WpOps.keep 18 (Value.int IntKind.i64 (IntKind.wrap IntKind.i64 ((↑i : Int) + 1))) (by kernel_rfl) (by kernel_rfl) (by kernel_rfl) ?_ (fun cf => (by kernel_rfl))
      refine WpOps.keep 8 (Value.int IntKind.i64 (IntKind.wrap IntKind.i64 ((↑i : Int) + 1))) (by kernel_rfl) (by kernel_rfl) (by kernel_rfl) ?_ (fun cf => (by kernel_rfl))
      refine WpOps.nil ?_
      refine thenK_at ?_
      refine ⟨i + 1, by omega, ⟨by omega, fun j hj hji => ?_⟩, View.of [] [] _ List.nodup_nil rfl trivial ⟨⟨by kernel_rfl, rfl⟩, ⟨by kernel_rfl, rfl⟩, ⟨by kernel_rfl, rfl⟩, ⟨congrArg (Value.int .i64) (wrap_i64 ((i : Int) + 1) (by omega) (by omega)), rfl⟩, trivial⟩⟩
      rcases Nat.lt_or_ge j i with h | h
      · exact hp j hj h
      · obtain rfl : j = i := by omega
        exact hb
  · refine Wp.exit ?_
    refine thenK_exit ?_
    refine thenK_exit ?_
    refine blockK_hit ?_
    refine thenK_at ?_
    refine Wp.seq ?_
    refine Wp.text ?_
    refine WpOps.keep 4 (Value.int IntKind.i64 (-1)) (by kernel_rfl) (by kernel_rfl) (by kernel_rfl) ?_ (fun cf => (by kernel_rfl))
    refine WpOps.nil ?_
    refine thenK_at ?_
    refine Wp.ret ?_
    refine endK_retn [Value.int IntKind.i64 (-1)] (Value.int IntKind.i64 (-1)) (by kernel_rfl) (by kernel_rfl) ?_
    have hf : firstL l = -1 := by
      have hlen : ¬ ((i : Int) < l.length) := of_decide_eq_false hc
      have : l.findIdx? badL = none := by
        rw [List.findIdx?_eq_none_iff]
        intro v hv
        obtain ⟨j, hj, rfl⟩ := List.getElem_of_mem hv
        exact hp j hj (by omega)
      simp only [firstL, this]
    rw [hf]
    rfl
theorem firstL_neg (l : List Ln) : decide (firstL l ≥ 0) = l.any badL := by
  unfold firstL
  split
  · rename_i i h
    rw [List.findIdx?_eq_some_iff_getElem] at h
    obtain ⟨hi, h1, _⟩ := h
    rw [show l.any badL = true from List.any_eq_true.2 ⟨_, List.getElem_mem hi, h1⟩]
    exact decide_eq_true (Int.natCast_nonneg _)
  · rename_i h
    rw [List.findIdx?_eq_none_iff] at h
    rw [show l.any badL = false by simpa using h]
    rfl
theorem f71 : E.funcs 71 = some Try.f71 := by kernel_rfl
theorem contains71 (x : Nat) (l : List Ln) (hl : l.length ≤ 9223372036854775806) : Fun E 71 [lns 76 x l, .func (.func 72) #[] #[]] (.bool (l.any badL)) := by
  refine Fun.of f71 rfl (of_decide_eq_true (by kernel_rfl)) rfl ?_
  have c := index83 x l hl
  refine Wp.seq ?_
  refine Wp.text ?_
  refine WpOps.keep 4 (Value.bool false) (by kernel_rfl) (by kernel_rfl) (by kernel_rfl) ?_ (fun cf => (by kernel_rfl))
  refine WpOps.nil ?_
  refine thenK_at ?_
  refine Wp.seq ?_
  refine Wp.text ?_
  refine WpOps.keep 5 (Value.iface 76 (Value.iface (List.length l) (Value.iface x (Value.agg (List.toArray (List.flatMap lc l)))))) (by kernel_rfl) (by kernel_rfl) (by kernel_rfl) ?_ (fun cf => (by kernel_rfl))
  refine WpOps.keep 6 (Value.func (Fn.func 72) #[] #[]) (by kernel_rfl) (by kernel_rfl) (by kernel_rfl) ?_ (fun cf => (by kernel_rfl))
  refine WpOps.framed 7 83 [Value.iface 76 (Value.iface (List.length l) (Value.iface x (Value.agg (List.toArray (List.flatMap lc l))))), Value.func (Fn.func 72) #[] #[]] (by kernel_rfl) (by kernel_rfl) (by kernel_rfl) (by kernel_rfl) (by kernel_rfl) (fun cf => (by kernel_rfl)) ?_
  refine WpFun.of (c) ?_
  refine WpOps.keep 8 (Value.bool (decide (firstL l ≥ 0))) (by kernel_rfl) (by kernel_rfl) (by kernel_rfl) ?_ (fun cf => (by kernel_rfl))
  refine WpOps.keep 4 (Value.bool (decide (firstL l ≥ 0))) (by kernel_rfl) (by kernel_rfl) (by kernel_rfl) ?_ (fun cf => (by kernel_rfl))
  refine WpOps.nil ?_
  refine thenK_at ?_
  refine Wp.ret ?_
  refine endK_retn [Value.bool (decide (firstL l ≥ 0))] (Value.bool (decide (firstL l ≥ 0))) (by kernel_rfl) (by kernel_rfl) ?_
  rw [firstL_neg]
  rfl

/-! ## comparing -/
def cmpI (a b : Int) : Int := if a < b then -1 else if a > b then 1 else 0
theorem f100 : E.funcs 100 = some Try.f100 := by kernel_rfl
theorem nan100 (a : Int) : Fun E 100 [.int .i64 a] (.bool false) := by
  refine Fun.of f100 rfl (of_decide_eq_true (by kernel_rfl)) rfl ?_
  have n : (a != a) = false := by simp
  refine Wp.seq ?_
  refine Wp.text ?_
  refine WpOps.keep 2 (Value.bool false) (by kernel_rfl) (by kernel_rfl) (by kernel_rfl) ?_ (fun cf => (by kernel_rfl))
  refine WpOps.nil ?_
  refine thenK_at ?_
  refine Wp.seq ?_
  refine Wp.text ?_
  refine WpOps.keep 3 (Value.int IntKind.i64 a) (by kernel_rfl) (by kernel_rfl) (by kernel_rfl) ?_ (fun cf => (by kernel_rfl))
  refine WpOps.keep 4 (Value.int IntKind.i64 a) (by kernel_rfl) (by kernel_rfl) (by kernel_rfl) ?_ (fun cf => (by kernel_rfl))
  refine WpOps.keep 5 (Value.bool false) (by kernel_rfl) (by kernel_rfl) (by kernel_rfl) ?_ (fun cf => by_fact n ((by kernel_rfl)))
  refine WpOps.keep 2 (Value.bool false) (by kernel_rfl) (by kernel_rfl) (by kernel_rfl) ?_ (fun cf => (by kernel_rfl))
  refine WpOps.nil ?_
  refine thenK_at ?_
  refine Wp.ret ?_
  refine endK_retn [Value.bool false] (Value.bool false) (by kernel_rfl) (by kernel_rfl) ?_
  rfl
theorem f99 : E.funcs 99 = some Try.f99 := by kernel_rfl
theorem cmp99 (a b : Int) : Fun E 99 [.int .i64 a, .int .i64 b] (.int .i64 (cmpI a b)) := by
  refine Fun.of f99 rfl (of_decide_eq_true (by kernel_rfl)) rfl ?_
  have c := nan100
  unfold cmpI
  refine Wp.seq ?_
  refine Wp.text ?_
  refine WpOps.keep 4 (Value.int IntKind.i64 0) (by kernel_rfl) (by kernel_rfl) (by kernel_rfl) ?_ (fun cf => (by kernel_rfl))
  refine WpOps.nil ?_
  refine thenK_at ?_
  refine Wp.seq ?_
  refine Wp.text ?_
  refine WpOps.keep 7 (Value.int IntKind.i64 a) (by kernel_rfl) (by kernel_rfl) (by kernel_rfl) ?_ (fun cf => (by kernel_rfl))
  refine WpOps.framed 8 100 [Value.int IntKind.i64 a] (by kernel_rfl) (by kernel_rfl) (by kernel_rfl) (by kernel_rfl) (by kernel_rfl) (fun cf => (by kernel_rfl)) ?_
  refine WpFun.of (c _) ?_
  refine WpOps.keep 5 (Value.bool false) (by kernel_rfl) (by kernel_rfl) (by kernel_rfl) ?_ (fun cf => (by kernel_rfl))
  refine WpOps.nil ?_
  refine thenK_at ?_
  refine Wp.seq ?_
  refine Wp.text ?_
  refine WpOps.keep 9 (Value.int IntKind.i64 b) (by kernel_rfl) (by kernel_rfl) (by kernel_rfl) ?_ (fun cf => (by kernel_rfl))
  refine WpOps.framed 10 100 [Value.int IntKind.i64 b] (by kernel_rfl) (by kernel_rfl) (by kernel_rfl) (by kernel_rfl) (by kernel_rfl) (fun cf => (by kernel_rfl)) ?_
  refine WpFun.of (c _) ?_
  refine WpOps.keep 6 (Value.bool false) (by kernel_rfl) (by kernel_rfl) (by kernel_rfl) ?_ (fun cf => (by kernel_rfl))
  refine WpOps.nil ?_
  refine thenK_at ?_
  refine Wp.seq ?_
  refine Wp.seq ?_
  refine Wp.text ?_
  refine WpOps.keep 11 (Value.bool false) (by kernel_rfl) (by kernel_rfl) (by kernel_rfl) ?_ (fun cf => (by kernel_rfl))
  refine WpOps.nil ?_
  refine thenK_at ?_
  refine Wp.off (by kernel_rfl) ?_
  refine Wp.skip ?_
  refine thenK_at ?_
  refine Wp.seq ?_
  refine Wp.seq ?_
  refine Wp.text ?_
  refine WpOps.keep 13 (Value.bool false) (by kernel_rfl) (by kernel_rfl) (by kernel_rfl) ?_ (fun cf => (by kernel_rfl))
  refine WpOps.nil ?_
  refine thenK_at ?_
  refine Wp.off (by kernel_rfl) ?_
  refine Wp.skip ?_
  refine thenK_at ?_
  refine Wp.seq ?_
  refine Wp.seq ?_
  refine Wp.text ?_
  refine WpOps.keep 14 (Value.int IntKind.i64 a) (by kernel_rfl) (by kernel_rfl) (by kernel_rfl) ?_ (fun cf => (by kernel_rfl))
  refine WpOps.keep 15 (Value.int IntKind.i64 b) (by kernel_rfl) (by kernel_rfl) (by kernel_rfl) ?_ (fun cf => (by kernel_rfl))
  refine WpOps.keep 16 (Value.bool (decide (a < b))) (by kernel_rfl) (by kernel_rfl) (by kernel_rfl) ?_ (fun cf => (by kernel_rfl))
  refine WpOps.nil ?_
  refine thenK_at ?_
  refine Wp.split (decide (a < b)) (by kernel_rfl) (fun hc => ?_) (fun hc => ?_)
  · refine Wp.seq ?_
    refine Wp.text ?_
    refine WpOps.keep 4 (Value.int IntKind.i64 (-1)) (by kernel_rfl) (by kernel_rfl) (by kernel_rfl) ?_ (fun cf => (by kernel_rfl))
    refine WpOps.nil ?_
    refine thenK_at ?_
    refine Wp.ret ?_
    refine thenK_ret ?_
    refine endK_retn [Value.int IntKind.i64 (-1)] (Value.int IntKind.i64 (-1)) (by kernel_rfl) (by kernel_rfl) ?_
    rw [if_pos (of_decide_eq_true hc)]
    rfl
  · refine Wp.skip ?_
    refine thenK_at ?_
    refine Wp.seq ?_
    refine Wp.seq ?_
    refine Wp.text ?_
    refine WpOps.keep 17 (Value.int IntKind.i64 a) (by kernel_rfl) (by kernel_rfl) (by kernel_rfl) ?_ (fun cf => (by kernel_rfl))
    refine WpOps.keep 18 (Value.int IntKind.i64 b) (by kernel_rfl) (by kernel_rfl) (by kernel_rfl) ?_ (fun cf => (by kernel_rfl))
    refine WpOps.keep 19 (Value.bool (decide (a > b))) (by kernel_rfl) (by kernel_rfl) (by kernel_rfl) ?_ (fun cf => (by kernel_rfl))
    refine WpOps.nil ?_
    refine thenK_at ?_
    rw [if_neg (of_decide_eq_false hc)]
    refine Wp.split (decide (a > b)) (by kernel_rfl) (fun hd => ?_) (fun hd => ?_)
    · refine Wp.seq ?_
      refine Wp.text ?_
      refine WpOps.keep 4 (Value.int IntKind.i64 1) (by kernel_rfl) (by kernel_rfl) (by kernel_rfl) ?_ (fun cf => (by kernel_rfl))
      refine WpOps.nil ?_
      refine thenK_at ?_
      refine Wp.ret ?_
      refine thenK_ret ?_
      refine endK_retn [Value.int IntKind.i64 1] (Value.int IntKind.i64 1) (by kernel_rfl) (by kernel_rfl) ?_
      rw [if_pos (of_decide_eq_true hd)]
      rfl
    · refine Wp.skip ?_
      refine thenK_at ?_
      refine Wp.seq ?_
      refine Wp.text ?_
      refine WpOps.keep 4 (Value.int IntKind.i64 0) (by kernel_rfl) (by kernel_rfl) (by kernel_rfl) ?_ (fun cf => (by kernel_rfl))
      refine WpOps.nil ?_
      refine thenK_at ?_
      refine Wp.ret ?_
      refine endK_retn [Value.int IntKind.i64 0] (Value.int IntKind.i64 0) (by kernel_rfl) (by kernel_rfl) ?_
      rw [if_neg (of_decide_eq_false hd)]
      rfl
/-- slices.Compare. -/
def cmpL : List Int → List Int → Int
  | [], [] => 0
  | [], _ :: _ => -1
  | _ :: _, [] => 1
  | a :: p, b :: q => if cmpI a b ≠ 0 then cmpI a b else cmpL p q
theorem cmpL_eq (p q : List Int) (i : Nat) (hp : i ≤ p.length) (hq : i ≤ q.length) (h : ∀ j, j < i → p.getD j 0 = q.getD j 0) : cmpL p q = cmpL (p.drop i) (q.drop i) := by
  induction i generalizing p q with
  | zero => rfl
  | succ i ih =>
    match p, q, hp, hq with
    | a :: p, b :: q, hp, hq =>
      have h0 : a = b := h 0 (by omega)
      subst h0
      have : cmpI a a = 0 := by unfold cmpI; rw [if_neg (by omega), if_neg (by omega)]
      rw [cmpL, if_neg (by simpa using this)]
      exact ih p q (by simpa using hp) (by simpa using hq) fun j hj => h (j + 1) (by omega)
theorem f94 : E.funcs 94 = some Try.f94 := by kernel_rfl
theorem compare94 (x y : Nat) (p q : List Int) (hp : p.length ≤ 9223372036854775806) : Fun E 94 [sl x p, sl y q] (.int .i64 (cmpL p q)) := by
  refine Fun.of f94 rfl (of_decide_eq_true (by kernel_rfl)) rfl ?_
  refine Wp.seq ?_
  refine Wp.text ?_
  refine WpOps.keep 4 (Value.int IntKind.i64 0) (by kernel_rfl) (by kernel_rfl) (by kernel_rfl) ?_ (fun cf => (by kernel_rfl))
  refine WpOps.nil ?_
  refine thenK_at ?_
  refine Wp.seq ?_
  refine Wp.seq ?_
  refine Wp.text ?_
  refine WpOps.keep 9 (Value.iface 3 (Value.iface (List.length p) (Value.iface x (Value.agg (List.toArray (List.map (fun n => Value.int IntKind.i64 n) p)))))) (by kernel_rfl) (by kernel_rfl) (by kernel_rfl) ?_ (fun cf => (by kernel_rfl))
  refine WpOps.keep 10 (Value.int IntKind.i64 (↑(List.length p) : Int)) (by kernel_rfl) (by kernel_rfl) (by kernel_rfl) ?_ (fun cf => (by kernel_rfl))
  refine WpOps.keep 11 (Value.int IntKind.i64 0) (by kernel_rfl) (by kernel_rfl) (by kernel_rfl) ?_ (fun cf => (by kernel_rfl))
  refine WpOps.nil ?_
  refine thenK_at ?_
  refine Wp.block ?_
  refine Wp.loop (G := Nat) (fun i => layj [(0, sl x p), (1, sl y q), (9, sl x p), (10, .int .i64 p.length), (11, .int .i64 i)]) (fun _ => heapOf []) (fun i => p.length - i) (fun i => i ≤ p.length ∧ i ≤ q.length ∧ ∀ j, j < i → p.getD j 0 = q.getD j 0) 0
    (View.of [] [] _ List.nodup_nil rfl trivial ⟨⟨by kernel_rfl, rfl⟩, ⟨by kernel_rfl, rfl⟩, ⟨by kernel_rfl, rfl⟩, ⟨by kernel_rfl, rfl⟩, ⟨by kernel_rfl, rfl⟩, trivial⟩) ⟨Nat.zero_le _, Nat.zero_le _, fun j hj => absurd hj (Nat.not_lt_zero _)⟩ ?_
  rintro i ⟨hi, hi2, he⟩
  have hx := cmpL_eq p q i hi hi2 he
  refine Wp.seq ?_
  refine Wp.text ?_
  refine WpOps.keep 12 (Value.bool (decide ((↑i : Int) < (↑(List.length p) : Int)))) (by kernel_rfl) (by kernel_rfl) (by kernel_rfl) ?_ (fun cf => (by kernel_rfl))
  refine WpOps.nil ?_
  refine thenK_at ?_
  refine Wp.seq ?_
  refine Wp.split (decide ((↑i : Int) < (↑(List.length p) : Int))) (by kernel_rfl) (fun hc => ?_) (fun hc => ?_)
  · have hlt : (i : Int) < p.length := of_decide_eq_true hc
    have hlt2 : i < p.length := by omega
    have h0 : 0 ≤ (i : Int) ∧ (i : Int) < p.length := ⟨Int.natCast_nonneg _, hlt⟩
    have hv := sl_at p i (by omega)
    have ep : p.drop i = p.getD i 0 :: p.drop (i + 1) := by
      rw [List.drop_eq_getElem_cons hlt2, List.getD_eq_getElem?_getD, List.getElem?_eq_getElem hlt2]
      rfl
    refine Wp.skip ?_
    refine thenK_at ?_
    refine Wp.seq ?_
    refine Wp.block ?_
    refine Wp.seq ?_
    refine Wp.text ?_
    refine WpOps.keep 13 (Value.int IntKind.i64 (↑i : Int)) (by kernel_rfl) (by kernel_rfl) (by kernel_rfl) ?_ (fun cf => (by kernel_rfl))
    refine WpOps.keep 14 (Value.iface 3 (Value.iface (Int.toNat (↑i : Int) * 1) (Value.agg (List.toArray (List.map (fun n => Value.int IntKind.i64 n) p))))) (by kernel_rfl) (by kernel_rfl) (by kernel_rfl) ?_ (fun cf => o_indexI (e := 3) (size := 1) (a := (↑i : Int)) h0 (by kernel_rfl) (by kernel_rfl) (by kernel_rfl) (by kernel_rfl))
    refine WpOps.keep 15 (Value.int IntKind.i64 (List.getD p i 0)) (by kernel_rfl) (by kernel_rfl) (by kernel_rfl) ?_ (fun cf => o_loadI1 (Int.toNat (↑i : Int) * 1) hv (by kernel_rfl) (by kernel_rfl))
    refine WpOps.keep 5 (Value.int IntKind.i64 (↑i : Int)) (by kernel_rfl) (by kernel_rfl) (by kernel_rfl) ?_ (fun cf => (by kernel_rfl))
    refine WpOps.keep 6 (Value.int IntKind.i64 (List.getD p i 0)) (by kernel_rfl) (by kernel_rfl) (by kernel_rfl) ?_ (fun cf => (by kernel_rfl))
    refine WpOps.nil ?_
    refine thenK_at ?_
    refine Wp.seq ?_
    refine Wp.seq ?_
    refine Wp.text ?_
    refine WpOps.keep 16 (Value.int IntKind.i64 (↑i : Int)) (by kernel_rfl) (by kernel_rfl) (by kernel_rfl) ?_ (fun cf => (by kernel_rfl))
    refine WpOps.keep 17 (Value.iface 3 (Value.iface (List.length q) (Value.iface y (Value.agg (List.toArray (List.map (fun n => Value.int IntKind.i64 n) q)))))) (by kernel_rfl) (by kernel_rfl) (by kernel_rfl) ?_ (fun cf => (by kernel_rfl))
    refine WpOps.keep 18 (Value.int IntKind.i64 (↑(List.length q) : Int)) (by kernel_rfl) (by kernel_rfl) (by kernel_rfl) ?_ (fun cf => (by kernel_rfl))
    refine WpOps.keep 19 (Value.bool (decide ((↑i : Int) ≥ (↑(List.length q) : Int)))) (by kernel_rfl) (by kernel_rfl) (by kernel_rfl) ?_ (fun cf => (by kernel_rfl))
    refine WpOps.nil ?_
    refine thenK_at ?_
    refine Wp.split (decide ((↑i : Int) ≥ (↑(List.length q) : Int))) (by kernel_rfl) (fun hd => ?_) (fun hd => ?_)
    · have hq : q.drop i = [] := List.drop_eq_nil_of_le (by have := of_decide_eq_true hd; omega)
      refine Wp.seq ?_
      refine Wp.text ?_
      refine WpOps.keep 4 (Value.int IntKind.i64 1) (by kernel_rfl) (by kernel_rfl) (by kernel_rfl) ?_ (fun cf => (by kernel_rfl))
      refine WpOps.nil ?_
      refine thenK_at ?_
      refine Wp.ret ?_
      refine thenK_ret ?_
      refine blockK_ret ?_
      refine thenK_ret ?_
      refine thenK_ret ?_
      refine blockK_ret ?_
      refine thenK_ret ?_
      refine endK_retn [Value.int IntKind.i64 1] (Value.int IntKind.i64 1) (by kernel_rfl) (by kernel_rfl) ?_
      rw [hx, hq, ep]
      rfl
    · have hq : i < q.length := by have := of_decide_eq_false hd; omega
      have h1 : 0 ≤ (i : Int) ∧ (i : Int) < q.length := ⟨Int.natCast_nonneg _, by omega⟩
      have hw := sl_at q i hq
      have c := cmp99
      have eq : q.drop i = q.getD i 0 :: q.drop (i + 1) := by
        rw [List.drop_eq_getElem_cons hq, List.getD_eq_getElem?_getD, List.getElem?_eq_getElem hq]
        rfl
      rw [ep, eq, cmpL] at hx
      refine Wp.skip ?_
      refine thenK_at ?_
      refine Wp.seq ?_
      refine Wp.text ?_
      refine WpOps.keep 20 (Value.iface 3 (Value.iface (List.length q) (Value.iface y (Value.agg (List.toArray (List.map (fun n => Value.int IntKind.i64 n) q)))))) (by kernel_rfl) (by kernel_rfl) (by kernel_rfl) ?_ (fun cf => (by kernel_rfl))
      refine WpOps.keep 21 (Value.int IntKind.i64 (↑i : Int)) (by kernel_rfl) (by kernel_rfl) (by kernel_rfl) ?_ (fun cf => (by kernel_rfl))
      refine WpOps.keep 22 (Value.iface 3 (Value.iface (Int.toNat (↑i : Int) * 1) (Value.agg (List.toArray (List.map (fun n => Value.int IntKind.i64 n) q))))) (by kernel_rfl) (by kernel_rfl) (by kernel_rfl) ?_ (fun cf => o_indexI (e := 3) (size := 1) (a := (↑i : Int)) h1 (by kernel_rfl) (by kernel_rfl) (by kernel_rfl) (by kernel_rfl))
      refine WpOps.keep 23 (Value.int IntKind.i64 (List.getD q i 0)) (by kernel_rfl) (by kernel_rfl) (by kernel_rfl) ?_ (fun cf => o_loadI1 (Int.toNat (↑i : Int) * 1) hw (by kernel_rfl) (by kernel_rfl))
      refine WpOps.keep 7 (Value.int IntKind.i64 (List.getD q i 0)) (by kernel_rfl) (by kernel_rfl) (by kernel_rfl) ?_ (fun cf => (by kernel_rfl))
      refine WpOps.nil ?_
      refine thenK_at ?_
      refine Wp.seq ?_
      refine Wp.text ?_
      refine WpOps.keep 24 (Value.int IntKind.i64 (List.getD p i 0)) (by kernel_rfl) (by kernel_rfl) (by kernel_rfl) ?_ (fun cf => (by kernel_rfl))
      refine WpOps.keep 25 (Value.int IntKind.i64 (List.getD q i 0)) (by kernel_rfl) (by kernel_rfl) (by kernel_rfl) ?_ (fun cf => (by kernel_rfl))
      refine WpOps.framed 26 99 [Value.int IntKind.i64 (List.getD p i 0), Value.int IntKind.i64 (List.getD q i 0)] (by kernel_rfl) (by kernel_rfl) (by kernel_rfl) (by kernel_rfl) (by kernel_rfl) (fun cf => (by kernel_rfl)) ?_
      refine WpFun.of (c _ _) ?_
      refine WpOps.keep 8 (Value.int IntKind.i64 (cmpI (List.getD p i 0) (List.getD q i 0))) (by kernel_rfl) (by kernel_rfl) (by kernel_rfl) ?_ (fun cf => (by kernel_rfl))
      refine WpOps.nil ?_
      refine thenK_at ?_
      refine Wp.seq ?_
      refine Wp.text ?_
      refine WpOps.keep 27 (Value.int IntKind.i64 (cmpI (List.getD p i 0) (List.getD q i 0))) (by kernel_rfl) (by kernel_rfl) (by kernel_rfl) ?_ (fun cf => (by kernel_rfl))
      refine WpOps.keep 28 (Value.bool (cmpI (List.getD p i 0) (List.getD q i 0) != 0)) (by kernel_rfl) (by kernel_rfl) (by kernel_rfl) ?_ (fun cf => (by kernel_rfl))
      refine WpOps.nil ?_
      refine thenK_at ?_
      refine Wp.split (cmpI (List.getD p i 0) (List.getD q i 0) != 0) (by kernel_rfl) (fun hb => ?_) (fun hb => ?_)
      · have hb2 : cmpI (p.getD i 0) (q.getD i 0) ≠ 0 := by simpa using hb
        refine Wp.seq ?_
        refine Wp.text ?_
        refine WpOps.keep 29 (Value.int IntKind.i64 (cmpI (List.getD p i 0) (List.getD q i 0))) (by kernel_rfl) (by kernel_rfl) (by kernel_rfl) ?_ (fun cf => (by kernel_rfl))
        refine WpOps.keep 4 (Value.int IntKind.i64 (cmpI (List.getD p i 0) (List.getD q i 0))) (by kernel_rfl) (by kernel_rfl) (by kernel_rfl) ?_ (fun cf => (by kernel_rfl))
        refine WpOps.nil ?_
        refine thenK_at ?_
        refine Wp.ret ?_
        refine blockK_ret ?_
        refine thenK_ret ?_
        refine thenK_ret ?_
        refine blockK_ret ?_
        refine thenK_ret ?_
        refine endK_retn [Value.int IntKind.i64 (cmpI (List.getD p i 0) (List.getD q i 0))] (Value.int IntKind.i64 (cmpI (List.getD p i 0) (List.getD q i 0))) (by kernel_rfl) (by kernel_rfl) ?_
        rw [hx, if_pos hb2]
        rfl
      · have hb2 : cmpI (p.getD i 0) (q.getD i 0) = 0 := by simpa using hb
        have hb3 : p.getD i 0 = q.getD i 0 := by
          unfold cmpI at hb2
          split at hb2
          · cases hb2
          · split at hb2
            · cases hb2
            · omega
        refine Wp.skip ?_
        refine blockK_norm ?_
        refine thenK_at ?_
        refine Wp.text ?_
        refine WpOps.keep 30 (Value.int IntKind.i64 (IntKind.wrap IntKind.i64 ((↑i : Int) + 1))) (by kernel_rfl) (by kernel_rfl) (by kernel_rfl) ?_ (fun cf => (by kernel_rfl))
        refine WpOps.keep 11 (Value.int IntKind.i64 (IntKind.wrap IntKind.i64 ((↑i : Int) + 1))) (by kernel_rfl) (by kernel_rfl) (by kernel_rfl) ?_ (fun cf => (by kernel_rfl))
        refine WpOps.nil ?_
        refine thenK_at ?_
        refine ⟨i + 1, by omega, ⟨by omega, by omega, fun j hj => ?_⟩, View.of [] [] _ List.nodup_nil rfl trivial ⟨⟨by kernel_rfl, rfl⟩, ⟨by kernel_rfl, rfl⟩, ⟨by kernel_rfl, rfl⟩, ⟨by kernel_rfl, rfl⟩, ⟨congrArg (Value.int .i64) (wrap_i64 ((i : Int) + 1) (by omega) (by omega)), rfl⟩, trivial⟩⟩
        rcases Nat.lt_or_ge j i with h | h
        · exact he j h
        · obtain rfl : j = i := by omega
          exact hb3
  · have hlen : i = p.length := by have := of_decide_eq_false hc; omega
    have ep : p.drop i = [] := List.drop_eq_nil_of_le (by omega)
    rw [ep] at hx
    refine Wp.exit ?_
    refine thenK_exit ?_
    refine thenK_exit ?_
    refine blockK_hit ?_
    refine thenK_at ?_
    refine Wp.seq ?_
    refine Wp.seq ?_
    refine Wp.text ?_
    refine WpOps.keep 31 (Value.iface 3 (Value.iface (List.length p) (Value.iface x (Value.agg (List.toArray (List.map (fun n => Value.int IntKind.i64 n) p)))))) (by kernel_rfl) (by kernel_rfl) (by kernel_rfl) ?_ (fun cf => (by kernel_rfl))
    refine WpOps.keep 32 (Value.int IntKind.i64 (↑(List.length p) : Int)) (by kernel_rfl) (by kernel_rfl) (by kernel_rfl) ?_ (fun cf => (by kernel_rfl))
    refine WpOps.keep 33 (Value.iface 3 (Value.iface (List.length q) (Value.iface y (Value.agg (List.toArray (List.map (fun n => Value.int IntKind.i64 n) q)))))) (by kernel_rfl) (by kernel_rfl) (by kernel_rfl) ?_ (fun cf => (by kernel_rfl))
    refine WpOps.keep 34 (Value.int IntKind.i64 (↑(List.length q) : Int)) (by kernel_rfl) (by kernel_rfl) (by kernel_rfl) ?_ (fun cf => (by kernel_rfl))
    refine WpOps.keep 35 (Value.bool (decide ((↑(List.length p) : Int) < (↑(List.length q) : Int)))) (by kernel_rfl) (by kernel_rfl) (by kernel_rfl) ?_ (fun cf => (by kernel_rfl))
    refine WpOps.nil ?_
    refine thenK_at ?_
    refine Wp.split (decide ((↑(List.length p) : Int) < (↑(List.length q) : Int))) (by kernel_rfl) (fun hd => ?_) (fun hd => ?_)
    · have hq : i < q.length := by have := of_decide_eq_true hd; omega
      refine Wp.seq ?_
      refine Wp.text ?_
      refine WpOps.keep 4 (Value.int IntKind.i64 (-1)) (by kernel_rfl) (by kernel_rfl) (by kernel_rfl) ?_ (fun cf => (by kernel_rfl))
      refine WpOps.nil ?_
      refine thenK_at ?_
      refine Wp.ret ?_
      refine thenK_ret ?_
      refine endK_retn [Value.int IntKind.i64 (-1)] (Value.int IntKind.i64 (-1)) (by kernel_rfl) (by kernel_rfl) ?_
      rw [hx, List.drop_eq_getElem_cons hq]
      rfl
    · have hq : q.drop i = [] := List.drop_eq_nil_of_le (by have := of_decide_eq_false hd; omega)
      refine Wp.skip ?_
      refine thenK_at ?_
      refine Wp.seq ?_
      refine Wp.text ?_
      refine WpOps.keep 4 (Value.int IntKind.i64 0) (by kernel_rfl) (by kernel_rfl) (by kernel_rfl) ?_ (fun cf => (by kernel_rfl))
      refine WpOps.nil ?_
      refine thenK_at ?_
      refine Wp.ret ?_
      refine endK_retn [Value.int IntKind.i64 0] (Value.int IntKind.i64 0) (by kernel_rfl) (by kernel_rfl) ?_
      rw [hx, hq]
      rfl
end Go.Proofs.Ytpkkcpglbjbgfaa.D
