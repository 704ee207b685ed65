/- Displays: what an update makes is a display; how many cells it changes. -/
import Derived.Test.YtlejgfeoffhjoaaFwLem
import Derived.Test.YtlejgfeoffhjoaaF34g
namespace Go.Proofs.Ytlejgfeoffhjoaa.D
open Go.Fw Go.RowKit

def cellF (l : List ByteArray) (i j : Nat) : UInt8 := byteAt (rowAt l i) j
structure Ap where
  f : Nat → Nat → UInt8
  g : Nat → Nat → UInt8
  i : Nat
  j : Nat
/-- What an update that fits makes of a display. -/
def apF (R C : Nat) (f g : Nat → Nat → UInt8) (i j : Nat) (op : Int) (row col n : Nat) (t : ByteArray) : Ap :=
  if op = 0 then ⟨f, g, row, col⟩
  else if op = 1 then ⟨tF C (i * C + j) t f, tF C (i * C + j) (fillS (UInt8.ofNat (48 + n)) t.size) g, min (i * C + j + t.size) (R * C - 1) / C, min (i * C + j + t.size) (R * C - 1) % C⟩
  else if op = 2 then ⟨putF f i j (fillS 32 (C - j)), putF g i j (fillS 48 (C - j)), i, j⟩
  else if op = 3 then ⟨fun _ _ => 32, fun _ _ => 48, 0, 0⟩
  else if op = 5 then ⟨upF R f 32, upF R g 48, i, j⟩
  else if op = 6 then ⟨fiF i j row col (UInt8.ofNat n) f, fiF i j row col 48 g, i, j⟩
  else ⟨f, g, i, j⟩
def apD (r m : List ByteArray) (i j op row col n : Int) (t : ByteArray) : Ap := apF r.length (rowAt r 0).size (cellF r) (cellF m) i.toNat j.toNat op row.toNat col.toNat n.toNat t
def apV (r m : List ByteArray) (i j op row col n : Int) (t : ByteArray) : Value :=
  dv 0 0 (mkR r.length (rowAt r 0).size (apD r m i j op row col n t).f) (mkR r.length (rowAt r 0).size (apD r m i j op row col n t).g) (apD r m i j op row col n t).i (apD r m i j op row col n t).j
theorem good_mk {r m : List ByteArray} {i j : Int} (h : Good r m i j) : r = mkR r.length (rowAt r 0).size (cellF r) ∧ m = mkR r.length (rowAt r 0).size (cellF m) :=
  ⟨mkR_of rfl (fun i hi => (h.2 i hi).1) fun _ _ _ _ => rfl, mkR_of h.1.2.1 (fun i hi => (h.2 i hi).2.1) fun _ _ _ _ => rfl⟩
theorem apply40 (x y : Nat) (r m : List ByteArray) (i j op row col n : Int) (t : ByteArray) (hx : x ≠ 2) (hy : y ≠ 2) (hg : Good r m i j) (hf : Fits r.length (rowAt r 0).size op row col n t) : Fun E 40 [dv x y r m i j, uv op row col n t] (apV r m i j op row col n t) := by
  obtain ⟨e1, e2⟩ := good_mk hg
  obtain ⟨⟨g1, g2, g3, g4, g5⟩, _⟩ := hg
  unfold apV apD
  obtain ⟨R, hR⟩ : ∃ R, R = r.length := ⟨_, rfl⟩
  obtain ⟨C, hC⟩ : ∃ C, C = (rowAt r 0).size := ⟨_, rfl⟩
  rw [← hR, ← hC] at e1 e2 hf ⊢
  rw [← hR] at g1 g4
  rw [← hC] at g3 g5
  generalize cellF r = f at e1 ⊢
  generalize cellF m = g at e2 ⊢
  rw [e1, e2]
  obtain ⟨a, rfl⟩ : ∃ a : Nat, i = a := ⟨i.toNat, by omega⟩
  obtain ⟨b, rfl⟩ : ∃ b : Nat, j = b := ⟨j.toNat, by omega⟩
  simp only [Int.toNat_natCast]
  unfold apF
  unfold Fits at hf
  by_cases h0 : op = 0
  · subst h0
    rw [if_pos rfl]
    obtain ⟨p, rfl⟩ : ∃ p : Nat, row = p := ⟨row.toNat, by omega⟩
    obtain ⟨q, rfl⟩ : ∃ q : Nat, col = q := ⟨col.toNat, by omega⟩
    exact apply0 x y R C f g a b p q n t hx hy (by omega) (by omega)
  rw [if_neg h0]
  by_cases h1 : op = 1
  · subst h1
    rw [if_pos rfl]
    obtain ⟨k, rfl⟩ : ∃ k : Nat, n = k := ⟨n.toNat, by omega⟩
    exact apply1 x y R C f g a b k row col t hx hy (by omega) (by omega) (by omega) (by omega) (by omega) (by omega)
  rw [if_neg h1]
  by_cases h2 : op = 2
  · subst h2
    rw [if_pos rfl]
    exact apply2 x y R C f g a b row col n t hx hy (by omega) (by omega) (by omega) (by omega)
  rw [if_neg h2]
  by_cases h3 : op = 3
  · subst h3
    rw [if_pos rfl]
    exact apply3 x y R C f g a b row col n t hx hy (by omega) (by omega) (by omega)
  rw [if_neg h3]
  by_cases h5 : op = 5
  · subst h5
    rw [if_pos rfl]
    exact apply5 x y R C f g a b row col n t hx hy (by omega) (by omega) (by omega)
  rw [if_neg h5]
  by_cases h6 : op = 6
  · subst h6
    rw [if_pos rfl]
    obtain ⟨p, rfl⟩ : ∃ p : Nat, row = p := ⟨row.toNat, by omega⟩
    obtain ⟨q, rfl⟩ : ∃ q : Nat, col = q := ⟨col.toNat, by omega⟩
    obtain ⟨k, rfl⟩ : ∃ k : Nat, n = k := ⟨n.toNat, by omega⟩
    exact apply6 x y R C f g a b p q k t hx hy (by omega) (by omega) (by omega) (by omega) (by omega) (by omega) (by omega)
  rw [if_neg h6]
  have h4 : op = 4 := by omega
  subst h4
  exact apply4 x y R C f g a b row col n t hx hy (by omega) (by omega)
/-- What Apply hands back. -/
def ApOk (r m : List ByteArray) (i j op row col n : Int) (t : ByteArray) : Prop := Good r m i j ∧ Fits r.length (rowAt r 0).size op row col n t
instance (r m : List ByteArray) (i j op row col n : Int) (t : ByteArray) : Decidable (ApOk r m i j op row col n t) := inferInstanceAs (Decidable (_ ∧ _))
def ApV (r m : List ByteArray) (i j op row col n : Int) (t : ByteArray) : Value := if ApOk r m i j op row col n t then .tuple #[apV r m i j op row col n t, .int .i64 0] else .tuple #[dv 2 2 [] [] 0 0, .int .i64 1]
theorem f9 : E.funcs 9 = some Try.f9 := by kernel_rfl
theorem types9 : ∃ ti, E.types 9 = some ti := by
  have : (E.types 9).map TI.size = some 1 := by kernel_rfl
  obtain ⟨ti, h, _⟩ := Option.map_eq_some_iff.1 this
  exact ⟨ti, h⟩
def zero_disp : Value := .tuple #[.agg #[.slice none 0 0, .slice none 0 0, .int .i64 0, .int .i64 0], .int .i64 1]
theorem zero_nil {ti : TI} (ht : E.types 9 = some ti) : NilV E zero_disp (.tuple #[dv 2 2 [] [] 0 0, .int .i64 1]) :=
  .tuple (.cons (.agg (.cons (.inr ⟨rfl, 9, ti, ht, rfl⟩) (.cons (.inr ⟨rfl, 9, ti, ht, rfl⟩) (.cons (.inl rfl) (.cons (.inl rfl) .nil))))) (.cons (.c (.inl rfl)) .nil))
theorem Apply9 (x y : Nat) (r m : List ByteArray) (i j op row col n : Int) (t : ByteArray) (hx : x = 2 → r = []) (hy : y = 2 → m = []) (hr : ∀ k, (rowAt r k).size ≤ 140737488351232) (hm : ∀ k, (rowAt m k).size ≤ 140737488351232) (ht : t.size ≤ 140737488351232) :
    Fun E 9 [dv x y r m i j, uv op row col n t] (ApV r m i j op row col n t) := by
  refine Fun.ofN f9 rfl (of_decide_eq_true (by kernel_rfl)) (by unfold ApV; split <;> rfl) ?_
  have c1 := valid15 x y r m i j hr hm
  unfold dv strs at c1 ⊢
  unfold uv
  by_cases h1 : Good r m i j
  · rw [decide_eq_true h1] at c1
    have c2 := fits39 x y r m i j op row col n t ht h1.1.1 h1.1.2.2.1
    unfold dv uv strs at c2
    have hl : 1 ≤ r.length := h1.1.1.1
    have hl2 : m.length = r.length := h1.1.2.1
    have hx2 : x ≠ 2 := fun h => by rw [hx h] at hl; exact absurd hl (by decide)
    have hy2 : y ≠ 2 := fun h => by rw [hy h] at hl2; rw [← hl2] at hl; exact absurd hl (by decide)
    by_cases h2 : Fits r.length (rowAt r 0).size op row col n t
    · rw [decide_eq_true h2] at c2
      have c3 := apply40 x y r m i j op row col n t hx2 hy2 h1 h2
      have e : ApV r m i j op row col n t = _ := if_pos ⟨h1, h2⟩
      rw [e]
      unfold apV dv uv strs at c3
      unfold apV dv strs
      refine Wp.seq (Wp.text ?_)
      refine md 2 (.pointer (some ⟨0, 0, none⟩)) (Blk.mk 24 true [strs x r, strs y m, Value.int .i64 i, Value.int .i64 j]) ?_
      refine md 3 (.pointer (some ⟨1, 0, none⟩)) (Blk.mk 26 true [Value.int .i64 op, Value.int .i64 row, Value.int .i64 col, Value.int .i64 n, Value.string t]) ?_
      refine md 4 (.pointer (some ⟨2, 0, none⟩)) (Blk.mk 24 true [Value.slice none 0 0, Value.slice none 0 0, Value.int .i64 0, Value.int .i64 0]) ?_
      refine kp 5 (.int IntKind.i64 0) ?_
      refine WpOps.nil (thenK_at (Wp.seq (Wp.seq (Wp.text ?_))))
      refine kp 6 (.agg #[strs x r, strs y m, Value.int .i64 i, Value.int .i64 j]) ?_
      refine fr 7 15 [Value.agg #[strs x r, strs y m, Value.int .i64 i, Value.int .i64 j]] ?_
      refine WpFun.of (c1) ?_
      refine kp 8 (.bool false) ?_
      refine kp 9 (.bool false) ?_
      refine kp 10 (.agg #[strs x r, strs y m, Value.int .i64 i, Value.int .i64 j]) ?_
      refine kp 11 (.agg #[Value.int .i64 op, Value.int .i64 row, Value.int .i64 col, Value.int .i64 n, Value.string t]) ?_
      refine fr 12 39 [Value.agg #[strs x r, strs y m, Value.int .i64 i, Value.int .i64 j], Value.agg #[Value.int .i64 op, Value.int .i64 row, Value.int .i64 col, Value.int .i64 n, Value.string t]] ?_
      refine WpFun.of (c2) ?_
      refine kp 13 (.bool false) ?_
      refine kp 14 (.bool false) ?_
      refine WpOps.nil (thenK_at (off' (Wp.skip (thenK_at (Wp.seq (Wp.text ?_))))))
      refine kp 16 (.agg #[strs x r, strs y m, Value.int .i64 i, Value.int .i64 j]) ?_
      refine kp 17 (.agg #[Value.int .i64 op, Value.int .i64 row, Value.int .i64 col, Value.int .i64 n, Value.string t]) ?_
      refine fr 18 40 [Value.agg #[strs x r, strs y m, Value.int .i64 i, Value.int .i64 j], Value.agg #[Value.int .i64 op, Value.int .i64 row, Value.int .i64 col, Value.int .i64 n, Value.string t]] ?_
      refine WpFun.of (c3) ?_
      refine ld (.tuple #[]) (2) (Blk.mk 24 true [strs 0 (mkR (List.length r) (ByteArray.size (rowAt r 0)) (Ap.f (apD r m i j op row col n t))), strs 0 (mkR (List.length r) (ByteArray.size (rowAt r 0)) (Ap.g (apD r m i j op row col n t))), Value.int .i64 (↑(Ap.i (apD r m i j op row col n t)) : Int), Value.int .i64 (↑(Ap.j (apD r m i j op row col n t)) : Int)]) ?_
      refine kp 5 (.int IntKind.i64 0) ?_
      refine WpOps.nil (thenK_at (Wp.ret ?_))
      refine endK_retn [Value.agg #[strs 0 (mkR (List.length r) (ByteArray.size (rowAt r 0)) (Ap.f (apD r m i j op row col n t))), strs 0 (mkR (List.length r) (ByteArray.size (rowAt r 0)) (Ap.g (apD r m i j op row col n t))), Value.int IntKind.i64 (↑(Ap.i (apD r m i j op row col n t)) : Int), Value.int IntKind.i64 (↑(Ap.j (apD r m i j op row col n t)) : Int)], Value.int IntKind.i64 0] (Value.tuple #[Value.agg #[strs 0 (mkR (List.length r) (ByteArray.size (rowAt r 0)) (Ap.f (apD r m i j op row col n t))), strs 0 (mkR (List.length r) (ByteArray.size (rowAt r 0)) (Ap.g (apD r m i j op row col n t))), Value.int IntKind.i64 (↑(Ap.i (apD r m i j op row col n t)) : Int), Value.int IntKind.i64 (↑(Ap.j (apD r m i j op row col n t)) : Int)], Value.int IntKind.i64 0]) (by kernel_rfl) (by kernel_rfl) ?_
      exact ⟨.tuple #[apV r m i j op row col n t, .int .i64 0], by kernel_rfl, .w (.c (.inl rfl))⟩
    · rw [decide_eq_false h2] at c2
      have e : ApV r m i j op row col n t = _ := if_neg fun h => h2 h.2
      rw [e]
      refine Wp.seq (Wp.text ?_)
      refine md 2 (.pointer (some ⟨0, 0, none⟩)) (Blk.mk 24 true [strs x r, strs y m, Value.int .i64 i, Value.int .i64 j]) ?_
      refine md 3 (.pointer (some ⟨1, 0, none⟩)) (Blk.mk 26 true [Value.int .i64 op, Value.int .i64 row, Value.int .i64 col, Value.int .i64 n, Value.string t]) ?_
      refine md 4 (.pointer (some ⟨2, 0, none⟩)) (Blk.mk 24 true [Value.slice none 0 0, Value.slice none 0 0, Value.int .i64 0, Value.int .i64 0]) ?_
      refine kp 5 (.int IntKind.i64 0) ?_
      refine WpOps.nil (thenK_at (Wp.seq (Wp.seq (Wp.text ?_))))
      refine kp 6 (.agg #[strs x r, strs y m, Value.int .i64 i, Value.int .i64 j]) ?_
      refine fr 7 15 [Value.agg #[strs x r, strs y m, Value.int .i64 i, Value.int .i64 j]] ?_
      refine WpFun.of (c1) ?_
      refine kp 8 (.bool false) ?_
      refine kp 9 (.bool false) ?_
      refine kp 10 (.agg #[strs x r, strs y m, Value.int .i64 i, Value.int .i64 j]) ?_
      refine kp 11 (.agg #[Value.int .i64 op, Value.int .i64 row, Value.int .i64 col, Value.int .i64 n, Value.string t]) ?_
      refine fr 12 39 [Value.agg #[strs x r, strs y m, Value.int .i64 i, Value.int .i64 j], Value.agg #[Value.int .i64 op, Value.int .i64 row, Value.int .i64 col, Value.int .i64 n, Value.string t]] ?_
      refine WpFun.of (c2) ?_
      refine kp 13 (.bool true) ?_
      refine kp 14 (.bool true) ?_
      refine WpOps.nil (thenK_at (on' (Wp.seq (Wp.text ?_))))
      refine kp 15 (.agg #[Value.slice none 0 0, Value.slice none 0 0, Value.int .i64 0, Value.int .i64 0]) ?_
      refine ld (.tuple #[]) (2) (Blk.mk 24 true [Value.slice none 0 0, Value.slice none 0 0, Value.int .i64 0, Value.int .i64 0]) ?_
      refine kp 5 (.int IntKind.i64 1) ?_
      refine WpOps.nil (thenK_at (Wp.ret (thenK_ret ?_)))
      refine endK_retn [Value.agg #[Value.slice none 0 0, Value.slice none 0 0, Value.int IntKind.i64 0, Value.int IntKind.i64 0], Value.int IntKind.i64 1] (Value.tuple #[Value.agg #[Value.slice none 0 0, Value.slice none 0 0, Value.int IntKind.i64 0, Value.int IntKind.i64 0], Value.int IntKind.i64 1]) (by kernel_rfl) (by kernel_rfl) ?_
      obtain ⟨ti, ht⟩ := types9
      exact ⟨zero_disp, by kernel_rfl, zero_nil ht⟩
  · rw [decide_eq_false h1] at c1
    have e : ApV r m i j op row col n t = _ := if_neg fun h => h1 h.1
    rw [e]
    refine Wp.seq (Wp.text ?_)
    refine md 2 (.pointer (some ⟨0, 0, none⟩)) (Blk.mk 24 true [strs x r, strs y m, Value.int .i64 i, Value.int .i64 j]) ?_
    refine md 3 (.pointer (some ⟨1, 0, none⟩)) (Blk.mk 26 true [Value.int .i64 op, Value.int .i64 row, Value.int .i64 col, Value.int .i64 n, Value.string t]) ?_
    refine md 4 (.pointer (some ⟨2, 0, none⟩)) (Blk.mk 24 true [Value.slice none 0 0, Value.slice none 0 0, Value.int .i64 0, Value.int .i64 0]) ?_
    refine kp 5 (.int IntKind.i64 0) ?_
    refine WpOps.nil (thenK_at (Wp.seq (Wp.seq (Wp.text ?_))))
    refine kp 6 (.agg #[strs x r, strs y m, Value.int .i64 i, Value.int .i64 j]) ?_
    refine fr 7 15 [Value.agg #[strs x r, strs y m, Value.int .i64 i, Value.int .i64 j]] ?_
    refine WpFun.of (c1) ?_
    refine kp 8 (.bool true) ?_
    refine kp 9 (.bool true) ?_
    refine um 10 ?_
    refine um 11 ?_
    refine um 12 ?_
    refine um 13 ?_
    refine kp 14 (.bool true) ?_
    refine WpOps.nil (thenK_at (on' (Wp.seq (Wp.text ?_))))
    refine kp 15 (.agg #[Value.slice none 0 0, Value.slice none 0 0, Value.int .i64 0, Value.int .i64 0]) ?_
    refine ld (.tuple #[]) (2) (Blk.mk 24 true [Value.slice none 0 0, Value.slice none 0 0, Value.int .i64 0, Value.int .i64 0]) ?_
    refine kp 5 (.int IntKind.i64 1) ?_
    refine WpOps.nil (thenK_at (Wp.ret (thenK_ret ?_)))
    refine endK_retn [Value.agg #[Value.slice none 0 0, Value.slice none 0 0, Value.int IntKind.i64 0, Value.int IntKind.i64 0], Value.int IntKind.i64 1] (Value.tuple #[Value.agg #[Value.slice none 0 0, Value.slice none 0 0, Value.int IntKind.i64 0, Value.int IntKind.i64 0], Value.int IntKind.i64 1]) (by kernel_rfl) (by kernel_rfl) ?_
    obtain ⟨ti, ht⟩ := types9
    exact ⟨zero_disp, by kernel_rfl, zero_nil ht⟩
open Go.Fw Go.RowKit

/-- Cells that may be shown. -/
def CellsIn (R C : Nat) (f g : Nat → Nat → UInt8) : Prop := ∀ a c, a < R → c < C → byIn 32 126 (f a c) = true ∧ byIn 48 55 (g a c) = true
theorem byIn_ofNat (lo hi n : Nat) (h : lo ≤ n ∧ n ≤ hi) (hh : hi < 256) : byIn lo hi (UInt8.ofNat n) = true := by
  unfold byIn
  rw [UInt8.toNat_ofNat', Nat.mod_eq_of_lt (by omega)]
  exact decide_eq_true h
section
variable {R C : Nat} {f g : Nat → Nat → UInt8} {i j row col n : Nat} {op : Int} {t : ByteArray}
theorem apF_in (hc : CellsIn R C f g) (hi : i < R) (hj : j < C) (hf : Fits R C op row col n t) :
    CellsIn R C (apF R C f g i j op row col n t).f (apF R C f g i j op row col n t).g ∧ (apF R C f g i j op row col n t).i < R ∧ (apF R C f g i j op row col n t).j < C := by
  unfold Fits at hf
  unfold apF
  by_cases h0 : op = 0
  · rw [if_pos h0]
    exact ⟨hc, by dsimp only; omega, by dsimp only; omega⟩
  rw [if_neg h0]
  by_cases h1 : op = 1
  · rw [if_pos h1]
    have hF : (1 ≤ t.size ∧ t.size ≤ 200) ∧ allB t 32 126 = true ∧ (0 ≤ (n : Int) ∧ (n : Int) ≤ 7) := by
      rcases hf with h | h | h
      · omega
      · exact h.2
      · omega
    obtain ⟨hF1, hF2, hF3⟩ := hF
    have hlt := cell_lt hi hj
    refine ⟨fun a c ha hcc => ?_, ?_, ?_⟩
    · have h := hc a c ha hcc
      dsimp only
      unfold tF
      rw [fillS_size]
      by_cases q : i * C + j ≤ a * C + c ∧ a * C + c < i * C + j + t.size
      · rw [if_pos q, if_pos q, fillS_at _ (by omega)]
        exact ⟨(allB_iff t 32 126).1 hF2 _ (by omega), byIn_ofNat 48 55 _ (by omega) (by omega)⟩
      · rw [if_neg q, if_neg q]
        exact h
    · dsimp only
      rw [Nat.div_lt_iff_lt_mul (by omega)]
      omega
    · dsimp only
      exact Nat.mod_lt _ (by omega)
  rw [if_neg h1]
  by_cases h2 : op = 2
  · rw [if_pos h2]
    refine ⟨fun a c ha hcc => ?_, hi, hj⟩
    have h := hc a c ha hcc
    dsimp only
    unfold putF
    rw [fillS_size, fillS_size]
    by_cases q : a = i ∧ j ≤ c ∧ c < j + (C - j)
    · rw [if_pos q, if_pos q, fillS_at _ (by omega), fillS_at _ (by omega)]
      exact ⟨rfl, rfl⟩
    · rw [if_neg q, if_neg q]
      exact h
  rw [if_neg h2]
  by_cases h3 : op = 3
  · rw [if_pos h3]
    exact ⟨fun a c _ _ => ⟨rfl, rfl⟩, by dsimp only; omega, by dsimp only; omega⟩
  rw [if_neg h3]
  by_cases h5 : op = 5
  · rw [if_pos h5]
    refine ⟨fun a c ha hcc => ?_, hi, hj⟩
    dsimp only
    unfold upF
    by_cases q : a + 1 < R
    · rw [if_pos q, if_pos q]
      exact hc _ c q hcc
    · rw [if_neg q, if_neg q]
      exact ⟨rfl, rfl⟩
  rw [if_neg h5]
  by_cases h6 : op = 6
  · rw [if_pos h6]
    refine ⟨fun a c ha hcc => ?_, hi, hj⟩
    have h := hc a c ha hcc
    dsimp only
    unfold fiF
    by_cases q : (i ≤ a ∧ a < i + row) ∧ j ≤ c ∧ c < j + col
    · rw [if_pos q, if_pos q]
      exact ⟨byIn_ofNat 32 126 _ (by omega) (by omega), rfl⟩
    · rw [if_neg q, if_neg q]
      exact h
  rw [if_neg h6]
  exact ⟨hc, hi, hj⟩
theorem good_of (hR : 1 ≤ R ∧ R ≤ 40) (hC : 1 ≤ C ∧ C ≤ 80) (hi : i < R) (hj : j < C) (hc : CellsIn R C f g) : Good (mkR R C f) (mkR R C g) i j := by
  have e0 : (rowAt (mkR R C f) 0).size = C := mkR_size (by omega)
  refine ⟨⟨by rw [mkR_len]; exact hR, by rw [mkR_len, mkR_len], by rw [e0]; exact hC, by rw [mkR_len]; omega, by rw [e0]; omega⟩, fun k hk => ?_⟩
  rw [mkR_len] at hk
  refine ⟨by rw [mkR_size hk, e0], by rw [mkR_size hk, e0], (allB_iff _ _ _).2 fun c hcc => ?_, (allB_iff _ _ _).2 fun c hcc => ?_⟩
  · rw [mkR_size hk] at hcc
    rw [mkR_at hk hcc]
    exact (hc k c hk hcc).1
  · rw [mkR_size hk] at hcc
    rw [mkR_at hk hcc]
    exact (hc k c hk hcc).2
end
theorem cells_of {r m : List ByteArray} {i j : Int} (h : Good r m i j) : CellsIn r.length (rowAt r 0).size (cellF r) (cellF m) := fun a c ha hc => by
  obtain ⟨h1, h2, h3, h4⟩ := h.2 a ha
  exact ⟨(allB_iff _ _ _).1 h3 c (by omega), (allB_iff _ _ _).1 h4 c (by omega)⟩
theorem fits_nat {R C : Nat} {op row col n : Int} {t : ByteArray} (h : Fits R C op row col n t) : Fits R C op row.toNat col.toNat n.toNat t := by
  unfold Fits at *
  rcases h with h | h | h | h | h
  · left; omega
  · right; left; exact ⟨h.1, h.2.1, h.2.2.1, by omega⟩
  · right; right; left; omega
  · right; right; right; left; omega
  · right; right; right; right; exact h
theorem ap_in {r m : List ByteArray} {i j op row col n : Int} {t : ByteArray} (h : ApOk r m i j op row col n t) :
    CellsIn r.length (rowAt r 0).size (apD r m i j op row col n t).f (apD r m i j op row col n t).g ∧ (apD r m i j op row col n t).i < r.length ∧ (apD r m i j op row col n t).j < (rowAt r 0).size := by
  obtain ⟨hg, hf⟩ := h
  have h4 := hg.1.2.2.2
  exact apF_in (cells_of hg) (by omega) (by omega) (fits_nat hf)
theorem ap_good {r m : List ByteArray} {i j op row col n : Int} {t : ByteArray} (h : ApOk r m i j op row col n t) :
    Good (mkR r.length (rowAt r 0).size (apD r m i j op row col n t).f) (mkR r.length (rowAt r 0).size (apD r m i j op row col n t).g) (apD r m i j op row col n t).i (apD r m i j op row col n t).j := by
  obtain ⟨h1, h2, h3⟩ := ap_in h
  obtain ⟨⟨g1, g2, g3, _⟩, _⟩ := h.1
  exact good_of g1 g3 h2 h3 h1

/-! ## how many cells -/
def cntC (h : Nat → Nat → Bool) (i : Nat) : Nat → Nat
  | 0 => 0
  | k + 1 => cntC h i k + (if h i k = true then 1 else 0)
def cnt (h : Nat → Nat → Bool) (C : Nat) : Nat → Nat
  | 0 => 0
  | k + 1 => cnt h C k + cntC h k C
theorem cnt_lin {h : Nat → Nat → Bool} {R C p0 len : Nat} (hh : ∀ a c, a < R → c < C → h a c = true → p0 ≤ a * C + c ∧ a * C + c < p0 + len) : ∀ k, k ≤ R → cnt h C k ≤ min (k * C - p0) len
  | 0, _ => by simp [cnt]
  | k + 1, hk => by
    have ih := cnt_lin hh k (by omega)
    have key : ∀ j, j ≤ C → cnt h C k + cntC h k j ≤ min (k * C + j - p0) len := fun j => by
      induction j with
      | zero => intro _; simpa [cntC] using ih
      | succ j ihj =>
        intro hj
        have h1 := ihj (by omega)
        rw [cntC]
        split
        · rename_i q
          have := hh k j (by omega) (by omega) q
          omega
        · omega
    have := key C (Nat.le_refl _)
    rw [cnt, Nat.succ_mul]
    exact this
theorem cnt_rect {h : Nat → Nat → Bool} {R C i0 j0 row col : Nat} (hh : ∀ a c, a < R → c < C → h a c = true → (i0 ≤ a ∧ a < i0 + row) ∧ j0 ≤ c ∧ c < j0 + col) : ∀ k, k ≤ R → cnt h C k ≤ min (k - i0) row * col
  | 0, _ => by simp [cnt]
  | k + 1, hk => by
    have ih := cnt_rect hh k (by omega)
    have key : ∀ j, j ≤ C → cntC h k j ≤ min (j - j0) col ∧ (¬ (i0 ≤ k ∧ k < i0 + row) → cntC h k j = 0) := fun j => by
      induction j with
      | zero => intro _; simp [cntC]
      | succ j ihj =>
        intro hj
        have h1 := ihj (by omega)
        rw [cntC]
        split
        · rename_i q
          have := hh k j (by omega) (by omega) q
          exact ⟨by omega, fun hn => absurd this.1 hn⟩
        · exact ⟨by omega, fun hn => by rw [h1.2 hn]⟩
    have h2 := key C (Nat.le_refl _)
    rw [cnt]
    by_cases q : i0 ≤ k ∧ k < i0 + row
    · have e : min (k + 1 - i0) row = min (k - i0) row + 1 := by omega
      rw [e, Nat.succ_mul]
      omega
    · have e : min (k + 1 - i0) row = min (k - i0) row := by omega
      rw [e, h2.2 q]
      exact ih
/-- Is a cell another one? -/
def chg (f g f' g' : Nat → Nat → UInt8) (a c : Nat) : Bool := cond (f' a c != f a c) true (g' a c != g a c)
end Go.Proofs.Ytlejgfeoffhjoaa.D
