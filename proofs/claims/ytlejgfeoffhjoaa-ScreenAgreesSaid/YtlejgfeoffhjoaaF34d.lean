/- Displays: text. -/
import Derived.Test.YtlejgfeoffhjoaaFwLem
import Derived.Test.YtlejgfeoffhjoaaF34c
namespace Go.Proofs.Ytlejgfeoffhjoaa.D
open Go.Fw Go.RowKit

/-- A text put in from a cell on. -/
def tF (C p0 : Nat) (s : ByteArray) (f : Nat → Nat → UInt8) (i j : Nat) : UInt8 := if p0 ≤ i * C + j ∧ i * C + j < p0 + s.size then byteAt s (i * C + j - p0) else f i j
theorem cell_lt {R C i j : Nat} (hi : i < R) (hj : j < C) : i * C + j < R * C := by
  have h : (i + 1) * C ≤ R * C := Nat.mul_le_mul_right C hi
  rw [Nat.succ_mul] at h
  omega
theorem tF_ext {R C p0 : Nat} {u w : ByteArray} {f : Nat → Nat → UInt8} (h : ∀ k, p0 + k < R * C → (k < u.size ↔ k < w.size)) (h2 : ∀ k, p0 + k < R * C → k < u.size → byteAt u k = byteAt w k) : mkR R C (tF C p0 u f) = mkR R C (tF C p0 w f) := by
  refine mkR_congr fun i j hi hj => ?_
  have hc := cell_lt hi hj
  unfold tF
  by_cases q : p0 ≤ i * C + j
  · have hk := h (i * C + j - p0) (by omega)
    by_cases q2 : i * C + j < p0 + u.size
    · rw [if_pos ⟨q, q2⟩, if_pos ⟨q, by omega⟩, h2 _ (by omega) (by omega)]
    · rw [if_neg (by omega), if_neg (by omega)]
  · rw [if_neg (by omega), if_neg (by omega)]
theorem tF_step {R C p0 a b : Nat} {u v w : ByteArray} {f : Nat → Nat → UInt8} (hp : a * C + b = p0 + u.size) (hb : b + v.size ≤ C) (hw : w.size = u.size + v.size) (h1 : ∀ k, k < u.size → byteAt w k = byteAt u k) (h2 : ∀ k, k < v.size → byteAt w (u.size + k) = byteAt v k) :
    mkR R C (putF (tF C p0 u f) a b v) = mkR R C (tF C p0 w f) := by
  refine mkR_congr fun i j hi hj => ?_
  unfold putF tF
  rcases Nat.lt_trichotomy i a with h | h | h
  · have hc := cell_lt h hj
    rw [if_neg (by omega)]
    by_cases q : p0 ≤ i * C + j
    · rw [if_pos (by omega), if_pos (by omega), h1 _ (by omega)]
    · rw [if_neg (by omega), if_neg (by omega)]
  · subst h
    by_cases q : b ≤ j ∧ j < b + v.size
    · rw [if_pos ⟨rfl, q⟩, if_pos (by omega), ← h2 _ (by omega)]
      congr 1
      omega
    · rw [if_neg fun x => q x.2]
      by_cases q2 : p0 ≤ i * C + j ∧ i * C + j < p0 + u.size
      · rw [if_pos q2, if_pos (by omega), h1 _ (by omega)]
      · rw [if_neg q2, if_neg (by omega)]
  · have hc := cell_lt h (j := 0) (C := C) (by omega)
    rw [if_neg (by omega)]
    by_cases hC : b + v.size ≤ C
    · have h3 : (a + 1) * C ≤ i * C := Nat.mul_le_mul_right C h
      rw [Nat.succ_mul] at h3
      rw [if_neg (by omega), if_neg (by omega)]
    · omega
theorem ex_size (s : ByteArray) {a b : Nat} (h : a ≤ b) (hb : b ≤ s.size) : (s.extract a b).size = b - a := by rw [ByteArray.size_extract]; omega
theorem fillS_at (b : UInt8) {n k : Nat} (h : k < n) : byteAt (fillS b n) k = b := by
  unfold byteAt fillS
  simp only [List.getD_eq_getElem?_getD, List.getElem?_replicate, h, if_true, Option.getD_some]
theorem nil_ne (a : ByteArray) (h : 0 < a.size) : (!(a.toList == ByteArray.toList (ByteArray.mk #[]))) = true := by
  rw [str_ne fun e => by rw [e] at h; exact absurd h (by decide)]
  rfl
theorem divC {a b C : Nat} (h : b < C) : (a * C + b) / C = a ∧ (a * C + b) % C = b := by
  rw [Nat.mul_comm a C, Nat.mul_add_div (by omega), Nat.mul_add_mod, Nat.div_eq_of_lt h, Nat.mod_eq_of_lt h]
  omega
theorem tF_pre {R C p0 : Nat} {f : Nat → Nat → UInt8} (s : ByteArray) (t : Nat) (ht : t ≤ s.size) (h : t = s.size ∨ R * C ≤ p0 + t) : mkR R C (tF C p0 (s.extract 0 t) f) = mkR R C (tF C p0 s f) := by
  have q := ex_size s (Nat.zero_le t) ht
  refine tF_ext (fun k hk => by omega) fun k hk h2 => ?_
  rw [byteAt_ext _ _ _ _ (by omega), Nat.zero_add]
theorem tF_fill {R C p0 : Nat} {f : Nat → Nat → UInt8} (b : UInt8) (t n : Nat) (ht : t ≤ n) (h : t = n ∨ R * C ≤ p0 + t) : mkR R C (tF C p0 (fillS b t) f) = mkR R C (tF C p0 (fillS b n) f) := by
  refine tF_ext (fun k hk => by rw [fillS_size, fillS_size]; omega) fun k hk h2 => ?_
  rw [fillS_size] at h2
  rw [fillS_at _ h2, fillS_at _ (by omega)]
theorem dBs_eq {R C : Nat} {f g f' g' : Nat → Nat → UInt8} (i j : Int) (h1 : mkR R C f = mkR R C f') (h2 : mkR R C g = mkR R C g') : dBs R C f g i j = dBs R C f' g' i j := by
  unfold dBs
  rw [h1, h2]
theorem cellsD {n : Nat} {x y x' y' : Int} (hx : x = x') (hy : y = y') : CellsOk [0, 1, 2] 3 [.slice (some ⟨1, 0, none⟩) n n, .slice (some ⟨2, 0, none⟩) n n, .int .i64 x, .int .i64 y] [.slice (some ⟨1, 0, none⟩) n n, .slice (some ⟨2, 0, none⟩) n n, .int .i64 x', .int .i64 y'] := by
  subst hx hy
  exact ⟨rfl, rfl⟩
theorem f66 : E.funcs 66 = some Try.f66 := by kernel_rfl
set_option maxHeartbeats 4000000 in
theorem text66 (R C : Nat) (f g : Nat → Nat → UInt8) (i j mk : Nat) (s : ByteArray) (hi : i < R) (hj : j < C) (hR : R ≤ 40) (hC : C ≤ 80) (hs : s.size ≤ 1000000) (hmk : mk ≤ 7) :
    Lent E 66 [.pointer (some ⟨0, 0, none⟩), .string s, .int .i64 mk] (dBs R C f g i j) (.tuple #[])
      (dBs R C (tF C (i * C + j) s f) (tF C (i * C + j) (fillS (UInt8.ofNat (48 + mk)) s.size) g) ((min (i * C + j + s.size) (R * C - 1) / C : Nat) : Int) ((min (i * C + j + s.size) (R * C - 1) % C : Nat) : Int)) := by
  refine Lent.of f66 rfl (of_decide_eq_true (by kernel_rfl)) rfl rfl (Nat.le_refl _) rfl (dsp_ok _ _ _ _ _ _) rfl ?_
  have l1 : 0 ≤ (0 : Int) ∧ (0 : Int) < R := by omega
  have v1 := strs_at0 (mkR R C f) 0 (by rw [mkR_len]; omega)
  unfold dBs dB sB
  refine Wp.seq ?_
  refine Wp.region (by kernel_rfl) ?_
  refine kp 9 (.pointer (some ⟨0, 0, none⟩)) ?_
  refine kp 10 (.pointer (some ⟨0, 0, none⟩)) ?_
  refine kp 11 (.pointer (some ⟨0, 0, none⟩)) ?_
  refine kp 12 (.slice (some ⟨1, 0, none⟩) R R) ?_
  refine kp 13 (.int IntKind.i64 (↑R : Int)) ?_
  refine kp 14 (.pointer (some ⟨0, 0, none⟩)) ?_
  refine kp 15 (.pointer (some ⟨0, 0, none⟩)) ?_
  refine kp 16 (.pointer (some ⟨0, 0, none⟩)) ?_
  refine kp 17 (.slice (some ⟨1, 0, none⟩) R R) ?_
  refine kp 18 (.pointer (some ⟨1, 0, none⟩)) ?_ (hop := fun _ => o_indexAddr (a := 0) (bl := 1) (off := 0) (size := 1) 9 (R) l1)
  refine kp 19 (.string (rowAt (mkR R C f) 0)) ?_ (hop := fun _ => o_load1 1 (0) v1)
  refine kp 20 (.int IntKind.i64 (↑(ByteArray.size (rowAt (mkR R C f) 0)) : Int)) ?_
  refine kp 6 (.int IntKind.i64 (↑R : Int)) ?_
  refine kp 7 (.int IntKind.i64 (↑(ByteArray.size (rowAt (mkR R C f) 0)) : Int)) ?_
  refine WpOps.nil (thenK_at (Wp.block ?_))
  refine Wp.loop (G := Nat × Nat × Nat) (fun q => layj [(0, .pointer (some ⟨0, 0, none⟩)), (1, .string (s.extract q.1 s.size)), (2, .int .i64 mk), (6, .int .i64 R), (7, .int .i64 C)]) (fun q => heapOf (dBs R C (tF C (i * C + j) (s.extract 0 q.1) f) (tF C (i * C + j) (fillS (UInt8.ofNat (48 + mk)) q.1) g) q.2.1 q.2.2)) (fun q => s.size - q.1)
    (fun q => q.1 ≤ s.size ∧ q.2.1 < R ∧ q.2.2 < C ∧ q.2.1 * C + q.2.2 = i * C + j + q.1 ∧ (q.1 = 0 ∨ q.2.2 = 0)) (0, i, j) ?_ ⟨Nat.zero_le _, hi, hj, rfl, .inl rfl⟩ ?_
  · have e1 : mkR R C f = mkR R C (tF C (i * C + j) (s.extract 0 0) f) := by
      refine mkR_congr fun x y _ _ => ?_
      unfold tF
      rw [ex_size s (by omega) (by omega), if_neg (by omega)]
    have e2 : mkR R C g = mkR R C (tF C (i * C + j) (fillS (UInt8.ofNat (48 + mk)) 0) g) := by
      refine mkR_congr fun x y _ _ => ?_
      unfold tF
      rw [fillS_size, if_neg (by omega)]
    have e3 : s = s.extract 0 s.size := by simp
    have e4 : (rowAt (mkR R C f) 0).size = C := mkR_size (by omega)
    have e5 : (((rowAt (mkR R C f) 0).size : Nat) : Int) = C := by rw [e4]
    exact View.of [0, 1, 2] (dBs R C (tF C (i * C + j) (s.extract 0 0) f) (tF C (i * C + j) (fillS (UInt8.ofNat (48 + mk)) 0) g) i j) _ (by decide) rfl
      ⟨⟨_, by kernel_rfl, cellsD rfl rfl⟩, ⟨_, by kernel_rfl, CellsOk.eq (congrArg (List.map Value.string) e1) (strs_flat _)⟩, ⟨_, by kernel_rfl, CellsOk.eq (congrArg (List.map Value.string) e2) (strs_flat _)⟩, trivial⟩ ⟨⟨by kernel_rfl, rfl⟩, ⟨congrArg Value.string e3, rfl⟩, ⟨by kernel_rfl, rfl⟩, ⟨by kernel_rfl, rfl⟩, ⟨congrArg (Value.int .i64) e5, rfl⟩, trivial⟩
  rintro ⟨t, a, b⟩ ⟨h1, h2, h3, h4, h5⟩
  dsimp only at h1 h2 h3 h4 h5 ⊢
  by_cases ht : t < s.size
  · have hz : (s.extract t s.size).size = s.size - t := by rw [ByteArray.size_extract]; omega
    have he : (!((s.extract t s.size).toList == ByteArray.toList (ByteArray.mk #[]))) = true := nil_ne _ (by omega)
    obtain ⟨nn, hnn⟩ : ∃ nn, nn = min (C - b) (s.size - t) := ⟨_, rfl⟩
    have hmin : (if IntKind.i64.wrap ((C : Int) - b) < ((s.extract t s.size).size : Int) then IntKind.i64.wrap ((C : Int) - b) else ((s.extract t s.size).size : Int)) = (nn : Int) := by
      rw [wr _ (by omega) (by omega), hz]
      split <;> omega
    have z1 : 0 ≤ (if IntKind.i64.wrap ((C : Int) - b) < ((s.extract t s.size).size : Int) then IntKind.i64.wrap ((C : Int) - b) else ((s.extract t s.size).size : Int)) ∧ (if IntKind.i64.wrap ((C : Int) - b) < ((s.extract t s.size).size : Int) then IntKind.i64.wrap ((C : Int) - b) else ((s.extract t s.size).size : Int)) ≤ ((s.extract t s.size).size : Int) := by rw [hmin, hz]; omega
    have z2 : (s.extract t s.size).extract 0 nn = s.extract t (t + nn) := by
      apply ByteArray.ext
      simp only [ByteArray.data_extract, Array.extract_extract]
      congr 1
      omega
    have z3 : (s.extract t (t + nn)).size = nn := by rw [ByteArray.size_extract]; omega
    have c1 : Lent E 67 [.pointer (some ⟨0, 0, none⟩), .int .i64 a, .int .i64 b, .string ((s.extract t s.size).extract 0 (if IntKind.i64.wrap ((C : Int) - b) < ((s.extract t s.size).size : Int) then IntKind.i64.wrap ((C : Int) - b) else ((s.extract t s.size).size : Int)).toNat), .int .i64 mk] (dBs R C (tF C (i * C + j) (s.extract 0 t) f) (tF C (i * C + j) (fillS (UInt8.ofNat (48 + mk)) t) g) a b) (.tuple #[])
        (dBs R C (tF C (i * C + j) (s.extract 0 (t + nn)) f) (tF C (i * C + j) (fillS (UInt8.ofNat (48 + mk)) (t + nn)) g) a b) := by
      rw [hmin, Int.toNat_natCast, z2]
      have h := putM R C (tF C (i * C + j) (s.extract 0 t) f) (tF C (i * C + j) (fillS (UInt8.ofNat (48 + mk)) t) g) a b a b mk (s.extract t (t + nn)) h2 hC (by omega) hmk
      rw [z3] at h
      have q1 : (s.extract 0 t).size = t := ex_size s (by omega) (by omega)
      have q2 : (s.extract 0 (t + nn)).size = t + nn := ex_size s (by omega) (by omega)
      have e1 : mkR R C (putF (tF C (i * C + j) (s.extract 0 t) f) a b (s.extract t (t + nn))) = mkR R C (tF C (i * C + j) (s.extract 0 (t + nn)) f) :=
        tF_step (by omega) (by omega) (by omega) (fun k hk => by rw [byteAt_ext _ _ _ _ (by omega), byteAt_ext _ _ _ _ (by omega)]) (fun k hk => by
          rw [byteAt_ext _ _ _ _ (by omega), byteAt_ext _ _ _ _ (by omega)]
          congr 1
          omega)
      have e2 : mkR R C (putF (tF C (i * C + j) (fillS (UInt8.ofNat (48 + mk)) t) g) a b (fillS (UInt8.ofNat (48 + mk)) nn)) = mkR R C (tF C (i * C + j) (fillS (UInt8.ofNat (48 + mk)) (t + nn)) g) :=
        tF_step (by rw [fillS_size]; omega) (by rw [fillS_size]; omega) (by rw [fillS_size, fillS_size, fillS_size])
          (fun k hk => by rw [fillS_size] at hk; rw [fillS_at _ hk, fillS_at _ (by omega)]) (fun k hk => by rw [fillS_size] at hk; rw [fillS_at _ hk, fillS_size, fillS_at _ (by omega)])
      rw [dBs_eq a b e1 e2] at h
      exact h
    have hw : IntKind.i64.wrap ((b : Int) + (if IntKind.i64.wrap ((C : Int) - b) < ((s.extract t s.size).size : Int) then IntKind.i64.wrap ((C : Int) - b) else ((s.extract t s.size).size : Int))) = ((b + nn : Nat) : Int) := by rw [hmin, wr _ (by omega) (by omega)]; omega
    have hw1 : IntKind.i64.wrap ((R : Int) - 1) = ((R - 1 : Nat) : Int) := by rw [wr _ (by omega) (by omega)]; omega
    have hw2 : IntKind.i64.wrap ((C : Int) - 1) = ((C - 1 : Nat) : Int) := by rw [wr _ (by omega) (by omega)]; omega
    have hlt := cell_lt h2 h3
    have fl1 := strs_flat (mkR R C (tF C (i * C + j) (s.extract 0 t) f))
    have fl2 := strs_flat (mkR R C (tF C (i * C + j) (fillS (UInt8.ofNat (48 + mk)) t) g))
    have fl3 := strs_flat (mkR R C (tF C (i * C + j) (s.extract 0 (t + nn)) f))
    have fl4 := strs_flat (mkR R C (tF C (i * C + j) (fillS (UInt8.ofNat (48 + mk)) (t + nn)) g))
    unfold dBs dB sB at c1 ⊢
    by_cases hq : b + nn < C
    · have hd : decide (IntKind.i64.wrap ((b : Int) + (if IntKind.i64.wrap ((C : Int) - b) < ((s.extract t s.size).size : Int) then IntKind.i64.wrap ((C : Int) - b) else ((s.extract t s.size).size : Int))) < (C : Int)) = true := by rw [hw]; exact decide_eq_true (by omega)
      have hlt2 := cell_lt h2 hq
      have hdv := divC (a := a) hq
      have ht2 : t + nn = s.size := by omega
      have e3 : (a : Int) = ((min (i * C + j + s.size) (R * C - 1) / C : Nat) : Int) := by
        rw [show min (i * C + j + s.size) (R * C - 1) = a * C + (b + nn) by omega, hdv.1]
      have e4 : IntKind.i64.wrap ((b : Int) + (if IntKind.i64.wrap ((C : Int) - b) < ((s.extract t s.size).size : Int) then IntKind.i64.wrap ((C : Int) - b) else ((s.extract t s.size).size : Int))) = ((min (i * C + j + s.size) (R * C - 1) % C : Nat) : Int) := by
        rw [show min (i * C + j + s.size) (R * C - 1) = a * C + (b + nn) by omega, hdv.2, hw]
      have e1 : mkR R C (tF C (i * C + j) (s.extract 0 (t + nn)) f) = mkR R C (tF C (i * C + j) s f) := tF_pre s (t + nn) (by omega) (.inl ht2)
      have e2 : mkR R C (tF C (i * C + j) (fillS (UInt8.ofNat (48 + mk)) (t + nn)) g) = mkR R C (tF C (i * C + j) (fillS (UInt8.ofNat (48 + mk)) s.size) g) := by rw [ht2]
      refine Wp.seq (Wp.seq (Wp.text ?_))
      refine kp 21 (.string (ByteArray.extract s t (ByteArray.size s))) ?_
      refine kp 22 (.bool true) ?_ (hop := fun _ => by_fact he)
      refine WpOps.nil (thenK_at (on' (Wp.skip (thenK_at (Wp.block (Wp.seq (Wp.text ?_)))))))
      refine kp 23 (.string (ByteArray.extract s t (ByteArray.size s))) ?_
      refine kp 24 (.int IntKind.i64 (↑(ByteArray.size (ByteArray.extract s t (ByteArray.size s))) : Int)) ?_
      refine kp 25 (.int IntKind.i64 (↑C : Int)) ?_
      refine kp 26 (.pointer (some ⟨0, 0, none⟩)) ?_
      refine kp 27 (.pointer (some ⟨0, 0, none⟩)) ?_
      refine kp 28 (.pointer (some ⟨0, 3, none⟩)) ?_
      refine kp 29 (.int IntKind.i64 (↑b : Int)) ?_
      refine kp 30 (.int IntKind.i64 (IntKind.wrap .i64 ((↑C : Int) - (↑b : Int)))) ?_
      refine kp 31 (.int IntKind.i64 (if IntKind.wrap .i64 ((↑C : Int) - (↑b : Int)) < (↑(ByteArray.size (ByteArray.extract s t (ByteArray.size s))) : Int) then IntKind.wrap .i64 ((↑C : Int) - (↑b : Int)) else (↑(ByteArray.size (ByteArray.extract s t (ByteArray.size s))) : Int))) ?_
      refine kp 8 (.int IntKind.i64 (if IntKind.wrap .i64 ((↑C : Int) - (↑b : Int)) < (↑(ByteArray.size (ByteArray.extract s t (ByteArray.size s))) : Int) then IntKind.wrap .i64 ((↑C : Int) - (↑b : Int)) else (↑(ByteArray.size (ByteArray.extract s t (ByteArray.size s))) : Int))) ?_
      refine WpOps.nil (thenK_at (Wp.seq ?_))
      refine Wp.region (by kernel_rfl) ?_
      refine kp 32 (.pointer (some ⟨0, 0, none⟩)) ?_
      refine kp 33 (.pointer (some ⟨0, 0, none⟩)) ?_
      refine kp 34 (.pointer (some ⟨0, 0, none⟩)) ?_
      refine kp 35 (.pointer (some ⟨0, 2, none⟩)) ?_
      refine kp 36 (.int IntKind.i64 (↑a : Int)) ?_
      refine kp 37 (.pointer (some ⟨0, 0, none⟩)) ?_
      refine kp 38 (.pointer (some ⟨0, 0, none⟩)) ?_
      refine kp 39 (.pointer (some ⟨0, 3, none⟩)) ?_
      refine kp 40 (.int IntKind.i64 (↑b : Int)) ?_
      refine kp 41 (.string (ByteArray.extract s t (ByteArray.size s))) ?_
      refine kp 42 (.int IntKind.i64 (if IntKind.wrap .i64 ((↑C : Int) - (↑b : Int)) < (↑(ByteArray.size (ByteArray.extract s t (ByteArray.size s))) : Int) then IntKind.wrap .i64 ((↑C : Int) - (↑b : Int)) else (↑(ByteArray.size (ByteArray.extract s t (ByteArray.size s))) : Int))) ?_
      refine kp 43 (.string (ByteArray.extract (ByteArray.extract s t (ByteArray.size s)) 0 (Int.toNat (if IntKind.wrap .i64 ((↑C : Int) - (↑b : Int)) < (↑(ByteArray.size (ByteArray.extract s t (ByteArray.size s))) : Int) then IntKind.wrap .i64 ((↑C : Int) - (↑b : Int)) else (↑(ByteArray.size (ByteArray.extract s t (ByteArray.size s))) : Int))))) ?_ (hop := fun _ => o_cut_hi z1)
      refine kp 44 (.int IntKind.i64 (↑mk : Int)) ?_
      refine cl 45 67 [Value.pointer (some ⟨0, 0, none⟩), Value.int .i64 (↑a : Int), Value.int .i64 (↑b : Int), Value.string (ByteArray.extract (ByteArray.extract s t (ByteArray.size s)) 0 (Int.toNat (if IntKind.wrap .i64 ((↑C : Int) - (↑b : Int)) < (↑(ByteArray.size (ByteArray.extract s t (ByteArray.size s))) : Int) then IntKind.wrap .i64 ((↑C : Int) - (↑b : Int)) else (↑(ByteArray.size (ByteArray.extract s t (ByteArray.size s))) : Int)))), Value.int .i64 (↑mk : Int)] ?_
      refine WpCall.lent [0, 1, 2] (c1) (by decide) ⟨⟨[Value.slice (some (Addr.mk 1 0 none)) R R, Value.slice (some (Addr.mk 2 0 none)) R R, Value.int IntKind.i64 (↑a : Int), Value.int IntKind.i64 (↑b : Int)], (by kernel_rfl), (by kernel_rfl), (by kernel_rfl)⟩, ⟨⟨_, (by kernel_rfl), CellsOk.eq rfl (by assumption)⟩, ⟨⟨_, (by kernel_rfl), CellsOk.eq rfl (by assumption)⟩, trivial⟩⟩⟩ (by kernel_rfl) (Value.tuple #[]) ([Blk.mk 24 true [Value.slice (some (Addr.mk (List.getD [0, 1, 2] 1 0) 0 none)) R R, Value.slice (some (Addr.mk (List.getD [0, 1, 2] 2 0) 0 none)) R R, Value.int IntKind.i64 (↑a : Int), Value.int IntKind.i64 (↑b : Int)], Blk.mk 9 true (List.map Value.string (mkR R C (tF C (i * C + j) (ByteArray.extract s 0 (t + nn)) f))), Blk.mk 9 true (List.map Value.string (mkR R C (tF C (i * C + j) (fillS (UInt8.ofNat (48 + mk)) (t + nn)) g)))]) (.cons (by kernel_rfl) (.cons (unB_flat (by assumption)) (.cons (unB_flat (by assumption)) .nil))) (by kernel_rfl) (Heap.set (Heap.set (Heap.set (heapOf [Blk.mk 24 true [Value.slice (some (Addr.mk 1 0 none)) R R, Value.slice (some (Addr.mk 2 0 none)) R R, Value.int IntKind.i64 (↑a : Int), Value.int IntKind.i64 (↑b : Int)], Blk.mk 9 true (List.map Value.string (mkR R C (tF C (i * C + j) (ByteArray.extract s 0 t) f))), Blk.mk 9 true (List.map Value.string (mkR R C (tF C (i * C + j) (fillS (UInt8.ofNat (48 + mk)) t) g)))]) 0 (some (Blk.mk 24 true [Value.slice (some (Addr.mk 1 0 none)) R R, Value.slice (some (Addr.mk 2 0 none)) R R, Value.int IntKind.i64 (↑a : Int), Value.int IntKind.i64 (↑b : Int)]))) 1 (some (Blk.mk 9 true (List.map Value.string (mkR R C (tF C (i * C + j) (ByteArray.extract s 0 (t + nn)) f)))))) 2 (some (Blk.mk 9 true (List.map Value.string (mkR R C (tF C (i * C + j) (fillS (UInt8.ofNat (48 + mk)) (t + nn)) g)))))) (by kernel_rfl) ?_
      refine WpOps.nil (thenK_at (Wp.seq (Wp.text ?_)))
      refine kp 46 (.string (ByteArray.extract s t (ByteArray.size s))) ?_
      refine kp 47 (.int IntKind.i64 (if IntKind.wrap .i64 ((↑C : Int) - (↑b : Int)) < (↑(ByteArray.size (ByteArray.extract s t (ByteArray.size s))) : Int) then IntKind.wrap .i64 ((↑C : Int) - (↑b : Int)) else (↑(ByteArray.size (ByteArray.extract s t (ByteArray.size s))) : Int))) ?_
      refine kp 48 (.string (ByteArray.extract (ByteArray.extract s t (ByteArray.size s)) (Int.toNat (if IntKind.wrap .i64 ((↑C : Int) - (↑b : Int)) < (↑(ByteArray.size (ByteArray.extract s t (ByteArray.size s))) : Int) then IntKind.wrap .i64 ((↑C : Int) - (↑b : Int)) else (↑(ByteArray.size (ByteArray.extract s t (ByteArray.size s))) : Int))) (ByteArray.size (ByteArray.extract s t (ByteArray.size s))))) ?_ (hop := fun _ => o_cut_lo z1)
      refine kp 1 (.string (ByteArray.extract (ByteArray.extract s t (ByteArray.size s)) (Int.toNat (if IntKind.wrap .i64 ((↑C : Int) - (↑b : Int)) < (↑(ByteArray.size (ByteArray.extract s t (ByteArray.size s))) : Int) then IntKind.wrap .i64 ((↑C : Int) - (↑b : Int)) else (↑(ByteArray.size (ByteArray.extract s t (ByteArray.size s))) : Int))) (ByteArray.size (ByteArray.extract s t (ByteArray.size s))))) ?_
      refine WpOps.nil (thenK_at (Wp.seq (Wp.text ?_)))
      refine kp 49 (.pointer (some ⟨0, 0, none⟩)) ?_
      refine kp 50 (.pointer (some ⟨0, 0, none⟩)) ?_
      refine kp 51 (.pointer (some ⟨0, 3, none⟩)) ?_
      refine kp 52 (.int IntKind.i64 (↑b : Int)) ?_
      refine kp 53 (.int IntKind.i64 (if IntKind.wrap .i64 ((↑C : Int) - (↑b : Int)) < (↑(ByteArray.size (ByteArray.extract s t (ByteArray.size s))) : Int) then IntKind.wrap .i64 ((↑C : Int) - (↑b : Int)) else (↑(ByteArray.size (ByteArray.extract s t (ByteArray.size s))) : Int))) ?_
      refine kp 54 (.int IntKind.i64 (IntKind.wrap .i64 ((↑b : Int) + if IntKind.wrap .i64 ((↑C : Int) - (↑b : Int)) < (↑(ByteArray.size (ByteArray.extract s t (ByteArray.size s))) : Int) then IntKind.wrap .i64 ((↑C : Int) - (↑b : Int)) else (↑(ByteArray.size (ByteArray.extract s t (ByteArray.size s))) : Int)))) ?_
      refine kp 55 (.pointer (some ⟨0, 0, none⟩)) ?_
      refine kp 56 (.pointer (some ⟨0, 3, none⟩)) ?_
      refine ld (.tuple #[]) (0) (Blk.mk 24 true [Value.slice (some ⟨1, 0, none⟩) R R, Value.slice (some ⟨2, 0, none⟩) R R, Value.int .i64 (↑a : Int), Value.int .i64 (IntKind.wrap .i64 ((↑b : Int) + if IntKind.wrap .i64 ((↑C : Int) - (↑b : Int)) < (↑(ByteArray.size (ByteArray.extract s t (ByteArray.size s))) : Int) then IntKind.wrap .i64 ((↑C : Int) - (↑b : Int)) else (↑(ByteArray.size (ByteArray.extract s t (ByteArray.size s))) : Int)))]) ?_
      refine WpOps.nil (thenK_at (Wp.seq (Wp.seq (Wp.text ?_))))
      refine kp 57 (.pointer (some ⟨0, 0, none⟩)) ?_
      refine kp 58 (.pointer (some ⟨0, 0, none⟩)) ?_
      refine kp 59 (.pointer (some ⟨0, 3, none⟩)) ?_
      refine kp 60 (.int IntKind.i64 (IntKind.wrap .i64 ((↑b : Int) + if IntKind.wrap .i64 ((↑C : Int) - (↑b : Int)) < (↑(ByteArray.size (ByteArray.extract s t (ByteArray.size s))) : Int) then IntKind.wrap .i64 ((↑C : Int) - (↑b : Int)) else (↑(ByteArray.size (ByteArray.extract s t (ByteArray.size s))) : Int)))) ?_
      refine kp 61 (.int IntKind.i64 (↑C : Int)) ?_
      refine kp 62 (.bool true) ?_ (hop := fun _ => by_fact hd)
      refine WpOps.nil (thenK_at (on' (Wp.ret (thenK_ret (blockK_ret (thenK_ret (blockK_ret ?_)))))))
      refine endK_retn [] (Value.tuple #[]) (by kernel_rfl) (by kernel_rfl) ?_
      exact ⟨[0, 1, 2], by decide, by kernel_rfl, ⟨⟨_, by kernel_rfl, .cons (.inl ⟨rfl, rfl⟩) (.cons (.inl ⟨rfl, rfl⟩) (.cons (.inl ⟨congrArg (Value.int .i64) e3, rfl⟩) (.cons (.inl ⟨congrArg (Value.int .i64) e4, rfl⟩) .nil)))⟩, ⟨_, by kernel_rfl, told_eq (congrArg (List.map Value.string) e1) (strs_flat _)⟩, ⟨_, by kernel_rfl, told_eq (congrArg (List.map Value.string) e2) (strs_flat _)⟩, trivial⟩, .w (.un rfl rfl)⟩
    · have hd : decide (IntKind.i64.wrap ((b : Int) + (if IntKind.i64.wrap ((C : Int) - b) < ((s.extract t s.size).size : Int) then IntKind.i64.wrap ((C : Int) - b) else ((s.extract t s.size).size : Int))) < (C : Int)) = false := by rw [hw]; exact decide_eq_false (by omega)
      have hbn : b + nn = C := by omega
      by_cases hl : a + 1 = R
      · have hx : ((a : Int) == IntKind.i64.wrap ((R : Int) - 1)) = true := by rw [hw1, show R - 1 = a by omega]; exact beq_self_eq_true _
        have hC1 : C - 1 < C := by omega
        have hdv := divC (a := a) hC1
        have hRC : R * C = a * C + C := by rw [← hl, Nat.succ_mul]
        have e3 : (a : Int) = ((min (i * C + j + s.size) (R * C - 1) / C : Nat) : Int) := by
          rw [show min (i * C + j + s.size) (R * C - 1) = a * C + (C - 1) by omega, hdv.1]
        have e4 : IntKind.i64.wrap ((C : Int) - 1) = ((min (i * C + j + s.size) (R * C - 1) % C : Nat) : Int) := by
          rw [show min (i * C + j + s.size) (R * C - 1) = a * C + (C - 1) by omega, hdv.2, hw2]
        have e1 : mkR R C (tF C (i * C + j) (s.extract 0 (t + nn)) f) = mkR R C (tF C (i * C + j) s f) := tF_pre s (t + nn) (by omega) (.inr (by omega))
        have e2 : mkR R C (tF C (i * C + j) (fillS (UInt8.ofNat (48 + mk)) (t + nn)) g) = mkR R C (tF C (i * C + j) (fillS (UInt8.ofNat (48 + mk)) s.size) g) := tF_fill _ (t + nn) s.size (by omega) (.inr (by omega))
        refine Wp.seq (Wp.seq (Wp.text ?_))
        refine kp 21 (.string (ByteArray.extract s t (ByteArray.size s))) ?_
        refine kp 22 (.bool true) ?_ (hop := fun _ => by_fact he)
        refine WpOps.nil (thenK_at (on' (Wp.skip (thenK_at (Wp.block (Wp.seq (Wp.text ?_)))))))
        refine kp 23 (.string (ByteArray.extract s t (ByteArray.size s))) ?_
        refine kp 24 (.int IntKind.i64 (↑(ByteArray.size (ByteArray.extract s t (ByteArray.size s))) : Int)) ?_
        refine kp 25 (.int IntKind.i64 (↑C : Int)) ?_
        refine kp 26 (.pointer (some ⟨0, 0, none⟩)) ?_
        refine kp 27 (.pointer (some ⟨0, 0, none⟩)) ?_
        refine kp 28 (.pointer (some ⟨0, 3, none⟩)) ?_
        refine kp 29 (.int IntKind.i64 (↑b : Int)) ?_
        refine kp 30 (.int IntKind.i64 (IntKind.wrap .i64 ((↑C : Int) - (↑b : Int)))) ?_
        refine kp 31 (.int IntKind.i64 (if IntKind.wrap .i64 ((↑C : Int) - (↑b : Int)) < (↑(ByteArray.size (ByteArray.extract s t (ByteArray.size s))) : Int) then IntKind.wrap .i64 ((↑C : Int) - (↑b : Int)) else (↑(ByteArray.size (ByteArray.extract s t (ByteArray.size s))) : Int))) ?_
        refine kp 8 (.int IntKind.i64 (if IntKind.wrap .i64 ((↑C : Int) - (↑b : Int)) < (↑(ByteArray.size (ByteArray.extract s t (ByteArray.size s))) : Int) then IntKind.wrap .i64 ((↑C : Int) - (↑b : Int)) else (↑(ByteArray.size (ByteArray.extract s t (ByteArray.size s))) : Int))) ?_
        refine WpOps.nil (thenK_at (Wp.seq ?_))
        refine Wp.region (by kernel_rfl) ?_
        refine kp 32 (.pointer (some ⟨0, 0, none⟩)) ?_
        refine kp 33 (.pointer (some ⟨0, 0, none⟩)) ?_
        refine kp 34 (.pointer (some ⟨0, 0, none⟩)) ?_
        refine kp 35 (.pointer (some ⟨0, 2, none⟩)) ?_
        refine kp 36 (.int IntKind.i64 (↑a : Int)) ?_
        refine kp 37 (.pointer (some ⟨0, 0, none⟩)) ?_
        refine kp 38 (.pointer (some ⟨0, 0, none⟩)) ?_
        refine kp 39 (.pointer (some ⟨0, 3, none⟩)) ?_
        refine kp 40 (.int IntKind.i64 (↑b : Int)) ?_
        refine kp 41 (.string (ByteArray.extract s t (ByteArray.size s))) ?_
        refine kp 42 (.int IntKind.i64 (if IntKind.wrap .i64 ((↑C : Int) - (↑b : Int)) < (↑(ByteArray.size (ByteArray.extract s t (ByteArray.size s))) : Int) then IntKind.wrap .i64 ((↑C : Int) - (↑b : Int)) else (↑(ByteArray.size (ByteArray.extract s t (ByteArray.size s))) : Int))) ?_
        refine kp 43 (.string (ByteArray.extract (ByteArray.extract s t (ByteArray.size s)) 0 (Int.toNat (if IntKind.wrap .i64 ((↑C : Int) - (↑b : Int)) < (↑(ByteArray.size (ByteArray.extract s t (ByteArray.size s))) : Int) then IntKind.wrap .i64 ((↑C : Int) - (↑b : Int)) else (↑(ByteArray.size (ByteArray.extract s t (ByteArray.size s))) : Int))))) ?_ (hop := fun _ => o_cut_hi z1)
        refine kp 44 (.int IntKind.i64 (↑mk : Int)) ?_
        refine cl 45 67 [Value.pointer (some ⟨0, 0, none⟩), Value.int .i64 (↑a : Int), Value.int .i64 (↑b : Int), Value.string (ByteArray.extract (ByteArray.extract s t (ByteArray.size s)) 0 (Int.toNat (if IntKind.wrap .i64 ((↑C : Int) - (↑b : Int)) < (↑(ByteArray.size (ByteArray.extract s t (ByteArray.size s))) : Int) then IntKind.wrap .i64 ((↑C : Int) - (↑b : Int)) else (↑(ByteArray.size (ByteArray.extract s t (ByteArray.size s))) : Int)))), Value.int .i64 (↑mk : Int)] ?_
        refine WpCall.lent [0, 1, 2] (c1) (by decide) ⟨⟨[Value.slice (some (Addr.mk 1 0 none)) R R, Value.slice (some (Addr.mk 2 0 none)) R R, Value.int IntKind.i64 (↑a : Int), Value.int IntKind.i64 (↑b : Int)], (by kernel_rfl), (by kernel_rfl), (by kernel_rfl)⟩, ⟨⟨_, (by kernel_rfl), CellsOk.eq rfl (by assumption)⟩, ⟨⟨_, (by kernel_rfl), CellsOk.eq rfl (by assumption)⟩, trivial⟩⟩⟩ (by kernel_rfl) (Value.tuple #[]) ([Blk.mk 24 true [Value.slice (some (Addr.mk (List.getD [0, 1, 2] 1 0) 0 none)) R R, Value.slice (some (Addr.mk (List.getD [0, 1, 2] 2 0) 0 none)) R R, Value.int IntKind.i64 (↑a : Int), Value.int IntKind.i64 (↑b : Int)], Blk.mk 9 true (List.map Value.string (mkR R C (tF C (i * C + j) (ByteArray.extract s 0 (t + nn)) f))), Blk.mk 9 true (List.map Value.string (mkR R C (tF C (i * C + j) (fillS (UInt8.ofNat (48 + mk)) (t + nn)) g)))]) (.cons (by kernel_rfl) (.cons (unB_flat (by assumption)) (.cons (unB_flat (by assumption)) .nil))) (by kernel_rfl) (Heap.set (Heap.set (Heap.set (heapOf [Blk.mk 24 true [Value.slice (some (Addr.mk 1 0 none)) R R, Value.slice (some (Addr.mk 2 0 none)) R R, Value.int IntKind.i64 (↑a : Int), Value.int IntKind.i64 (↑b : Int)], Blk.mk 9 true (List.map Value.string (mkR R C (tF C (i * C + j) (ByteArray.extract s 0 t) f))), Blk.mk 9 true (List.map Value.string (mkR R C (tF C (i * C + j) (fillS (UInt8.ofNat (48 + mk)) t) g)))]) 0 (some (Blk.mk 24 true [Value.slice (some (Addr.mk 1 0 none)) R R, Value.slice (some (Addr.mk 2 0 none)) R R, Value.int IntKind.i64 (↑a : Int), Value.int IntKind.i64 (↑b : Int)]))) 1 (some (Blk.mk 9 true (List.map Value.string (mkR R C (tF C (i * C + j) (ByteArray.extract s 0 (t + nn)) f)))))) 2 (some (Blk.mk 9 true (List.map Value.string (mkR R C (tF C (i * C + j) (fillS (UInt8.ofNat (48 + mk)) (t + nn)) g)))))) (by kernel_rfl) ?_
        refine WpOps.nil (thenK_at (Wp.seq (Wp.text ?_)))
        refine kp 46 (.string (ByteArray.extract s t (ByteArray.size s))) ?_
        refine kp 47 (.int IntKind.i64 (if IntKind.wrap .i64 ((↑C : Int) - (↑b : Int)) < (↑(ByteArray.size (ByteArray.extract s t (ByteArray.size s))) : Int) then IntKind.wrap .i64 ((↑C : Int) - (↑b : Int)) else (↑(ByteArray.size (ByteArray.extract s t (ByteArray.size s))) : Int))) ?_
        refine kp 48 (.string (ByteArray.extract (ByteArray.extract s t (ByteArray.size s)) (Int.toNat (if IntKind.wrap .i64 ((↑C : Int) - (↑b : Int)) < (↑(ByteArray.size (ByteArray.extract s t (ByteArray.size s))) : Int) then IntKind.wrap .i64 ((↑C : Int) - (↑b : Int)) else (↑(ByteArray.size (ByteArray.extract s t (ByteArray.size s))) : Int))) (ByteArray.size (ByteArray.extract s t (ByteArray.size s))))) ?_ (hop := fun _ => o_cut_lo z1)
        refine kp 1 (.string (ByteArray.extract (ByteArray.extract s t (ByteArray.size s)) (Int.toNat (if IntKind.wrap .i64 ((↑C : Int) - (↑b : Int)) < (↑(ByteArray.size (ByteArray.extract s t (ByteArray.size s))) : Int) then IntKind.wrap .i64 ((↑C : Int) - (↑b : Int)) else (↑(ByteArray.size (ByteArray.extract s t (ByteArray.size s))) : Int))) (ByteArray.size (ByteArray.extract s t (ByteArray.size s))))) ?_
        refine WpOps.nil (thenK_at (Wp.seq (Wp.text ?_)))
        refine kp 49 (.pointer (some ⟨0, 0, none⟩)) ?_
        refine kp 50 (.pointer (some ⟨0, 0, none⟩)) ?_
        refine kp 51 (.pointer (some ⟨0, 3, none⟩)) ?_
        refine kp 52 (.int IntKind.i64 (↑b : Int)) ?_
        refine kp 53 (.int IntKind.i64 (if IntKind.wrap .i64 ((↑C : Int) - (↑b : Int)) < (↑(ByteArray.size (ByteArray.extract s t (ByteArray.size s))) : Int) then IntKind.wrap .i64 ((↑C : Int) - (↑b : Int)) else (↑(ByteArray.size (ByteArray.extract s t (ByteArray.size s))) : Int))) ?_
        refine kp 54 (.int IntKind.i64 (IntKind.wrap .i64 ((↑b : Int) + if IntKind.wrap .i64 ((↑C : Int) - (↑b : Int)) < (↑(ByteArray.size (ByteArray.extract s t (ByteArray.size s))) : Int) then IntKind.wrap .i64 ((↑C : Int) - (↑b : Int)) else (↑(ByteArray.size (ByteArray.extract s t (ByteArray.size s))) : Int)))) ?_
        refine kp 55 (.pointer (some ⟨0, 0, none⟩)) ?_
        refine kp 56 (.pointer (some ⟨0, 3, none⟩)) ?_
        refine ld (.tuple #[]) (0) (Blk.mk 24 true [Value.slice (some ⟨1, 0, none⟩) R R, Value.slice (some ⟨2, 0, none⟩) R R, Value.int .i64 (↑a : Int), Value.int .i64 (IntKind.wrap .i64 ((↑b : Int) + if IntKind.wrap .i64 ((↑C : Int) - (↑b : Int)) < (↑(ByteArray.size (ByteArray.extract s t (ByteArray.size s))) : Int) then IntKind.wrap .i64 ((↑C : Int) - (↑b : Int)) else (↑(ByteArray.size (ByteArray.extract s t (ByteArray.size s))) : Int)))]) ?_
        refine WpOps.nil (thenK_at (Wp.seq (Wp.seq (Wp.text ?_))))
        refine kp 57 (.pointer (some ⟨0, 0, none⟩)) ?_
        refine kp 58 (.pointer (some ⟨0, 0, none⟩)) ?_
        refine kp 59 (.pointer (some ⟨0, 3, none⟩)) ?_
        refine kp 60 (.int IntKind.i64 (IntKind.wrap .i64 ((↑b : Int) + if IntKind.wrap .i64 ((↑C : Int) - (↑b : Int)) < (↑(ByteArray.size (ByteArray.extract s t (ByteArray.size s))) : Int) then IntKind.wrap .i64 ((↑C : Int) - (↑b : Int)) else (↑(ByteArray.size (ByteArray.extract s t (ByteArray.size s))) : Int)))) ?_
        refine kp 61 (.int IntKind.i64 (↑C : Int)) ?_
        refine kp 62 (.bool false) ?_ (hop := fun _ => by_fact hd)
        refine WpOps.nil (thenK_at (off' (Wp.skip (thenK_at (Wp.seq (Wp.seq (Wp.text ?_)))))))
        refine kp 63 (.pointer (some ⟨0, 0, none⟩)) ?_
        refine kp 64 (.pointer (some ⟨0, 0, none⟩)) ?_
        refine kp 65 (.pointer (some ⟨0, 2, none⟩)) ?_
        refine kp 66 (.int IntKind.i64 (↑a : Int)) ?_
        refine kp 67 (.int IntKind.i64 (↑R : Int)) ?_
        refine kp 68 (.int IntKind.i64 (IntKind.wrap .i64 ((↑R : Int) - 1))) ?_
        refine kp 69 (.bool true) ?_ (hop := fun _ => by_fact hx)
        refine WpOps.nil (thenK_at (on' (Wp.seq (Wp.text ?_))))
        refine kp 70 (.pointer (some ⟨0, 0, none⟩)) ?_
        refine kp 71 (.int IntKind.i64 (↑C : Int)) ?_
        refine kp 72 (.int IntKind.i64 (IntKind.wrap .i64 ((↑C : Int) - 1))) ?_
        refine kp 73 (.pointer (some ⟨0, 0, none⟩)) ?_
        refine kp 74 (.pointer (some ⟨0, 3, none⟩)) ?_
        refine ld (.tuple #[]) (0) (Blk.mk 24 true [Value.slice (some ⟨1, 0, none⟩) R R, Value.slice (some ⟨2, 0, none⟩) R R, Value.int .i64 (↑a : Int), Value.int .i64 (IntKind.wrap .i64 ((↑C : Int) - 1))]) ?_
        refine WpOps.nil (thenK_at (Wp.ret (thenK_ret (blockK_ret (thenK_ret (blockK_ret ?_))))))
        refine endK_retn [] (Value.tuple #[]) (by kernel_rfl) (by kernel_rfl) ?_
        exact ⟨[0, 1, 2], by decide, by kernel_rfl, ⟨⟨_, by kernel_rfl, .cons (.inl ⟨rfl, rfl⟩) (.cons (.inl ⟨rfl, rfl⟩) (.cons (.inl ⟨congrArg (Value.int .i64) e3, rfl⟩) (.cons (.inl ⟨congrArg (Value.int .i64) e4, rfl⟩) .nil)))⟩, ⟨_, by kernel_rfl, told_eq (congrArg (List.map Value.string) e1) (strs_flat _)⟩, ⟨_, by kernel_rfl, told_eq (congrArg (List.map Value.string) e2) (strs_flat _)⟩, trivial⟩, .w (.un rfl rfl)⟩
      · have hx : ((a : Int) == IntKind.i64.wrap ((R : Int) - 1)) = false := by rw [hw1]; exact bne_f (by omega)
        refine Wp.seq (Wp.seq (Wp.text ?_))
        refine kp 21 (.string (ByteArray.extract s t (ByteArray.size s))) ?_
        refine kp 22 (.bool true) ?_ (hop := fun _ => by_fact he)
        refine WpOps.nil (thenK_at (on' (Wp.skip (thenK_at (Wp.block (Wp.seq (Wp.text ?_)))))))
        refine kp 23 (.string (ByteArray.extract s t (ByteArray.size s))) ?_
        refine kp 24 (.int IntKind.i64 (↑(ByteArray.size (ByteArray.extract s t (ByteArray.size s))) : Int)) ?_
        refine kp 25 (.int IntKind.i64 (↑C : Int)) ?_
        refine kp 26 (.pointer (some ⟨0, 0, none⟩)) ?_
        refine kp 27 (.pointer (some ⟨0, 0, none⟩)) ?_
        refine kp 28 (.pointer (some ⟨0, 3, none⟩)) ?_
        refine kp 29 (.int IntKind.i64 (↑b : Int)) ?_
        refine kp 30 (.int IntKind.i64 (IntKind.wrap .i64 ((↑C : Int) - (↑b : Int)))) ?_
        refine kp 31 (.int IntKind.i64 (if IntKind.wrap .i64 ((↑C : Int) - (↑b : Int)) < (↑(ByteArray.size (ByteArray.extract s t (ByteArray.size s))) : Int) then IntKind.wrap .i64 ((↑C : Int) - (↑b : Int)) else (↑(ByteArray.size (ByteArray.extract s t (ByteArray.size s))) : Int))) ?_
        refine kp 8 (.int IntKind.i64 (if IntKind.wrap .i64 ((↑C : Int) - (↑b : Int)) < (↑(ByteArray.size (ByteArray.extract s t (ByteArray.size s))) : Int) then IntKind.wrap .i64 ((↑C : Int) - (↑b : Int)) else (↑(ByteArray.size (ByteArray.extract s t (ByteArray.size s))) : Int))) ?_
        refine WpOps.nil (thenK_at (Wp.seq ?_))
        refine Wp.region (by kernel_rfl) ?_
        refine kp 32 (.pointer (some ⟨0, 0, none⟩)) ?_
        refine kp 33 (.pointer (some ⟨0, 0, none⟩)) ?_
        refine kp 34 (.pointer (some ⟨0, 0, none⟩)) ?_
        refine kp 35 (.pointer (some ⟨0, 2, none⟩)) ?_
        refine kp 36 (.int IntKind.i64 (↑a : Int)) ?_
        refine kp 37 (.pointer (some ⟨0, 0, none⟩)) ?_
        refine kp 38 (.pointer (some ⟨0, 0, none⟩)) ?_
        refine kp 39 (.pointer (some ⟨0, 3, none⟩)) ?_
        refine kp 40 (.int IntKind.i64 (↑b : Int)) ?_
        refine kp 41 (.string (ByteArray.extract s t (ByteArray.size s))) ?_
        refine kp 42 (.int IntKind.i64 (if IntKind.wrap .i64 ((↑C : Int) - (↑b : Int)) < (↑(ByteArray.size (ByteArray.extract s t (ByteArray.size s))) : Int) then IntKind.wrap .i64 ((↑C : Int) - (↑b : Int)) else (↑(ByteArray.size (ByteArray.extract s t (ByteArray.size s))) : Int))) ?_
        refine kp 43 (.string (ByteArray.extract (ByteArray.extract s t (ByteArray.size s)) 0 (Int.toNat (if IntKind.wrap .i64 ((↑C : Int) - (↑b : Int)) < (↑(ByteArray.size (ByteArray.extract s t (ByteArray.size s))) : Int) then IntKind.wrap .i64 ((↑C : Int) - (↑b : Int)) else (↑(ByteArray.size (ByteArray.extract s t (ByteArray.size s))) : Int))))) ?_ (hop := fun _ => o_cut_hi z1)
        refine kp 44 (.int IntKind.i64 (↑mk : Int)) ?_
        refine cl 45 67 [Value.pointer (some ⟨0, 0, none⟩), Value.int .i64 (↑a : Int), Value.int .i64 (↑b : Int), Value.string (ByteArray.extract (ByteArray.extract s t (ByteArray.size s)) 0 (Int.toNat (if IntKind.wrap .i64 ((↑C : Int) - (↑b : Int)) < (↑(ByteArray.size (ByteArray.extract s t (ByteArray.size s))) : Int) then IntKind.wrap .i64 ((↑C : Int) - (↑b : Int)) else (↑(ByteArray.size (ByteArray.extract s t (ByteArray.size s))) : Int)))), Value.int .i64 (↑mk : Int)] ?_
        refine WpCall.lent [0, 1, 2] (c1) (by decide) ⟨⟨[Value.slice (some (Addr.mk 1 0 none)) R R, Value.slice (some (Addr.mk 2 0 none)) R R, Value.int IntKind.i64 (↑a : Int), Value.int IntKind.i64 (↑b : Int)], (by kernel_rfl), (by kernel_rfl), (by kernel_rfl)⟩, ⟨⟨_, (by kernel_rfl), CellsOk.eq rfl (by assumption)⟩, ⟨⟨_, (by kernel_rfl), CellsOk.eq rfl (by assumption)⟩, trivial⟩⟩⟩ (by kernel_rfl) (Value.tuple #[]) ([Blk.mk 24 true [Value.slice (some (Addr.mk (List.getD [0, 1, 2] 1 0) 0 none)) R R, Value.slice (some (Addr.mk (List.getD [0, 1, 2] 2 0) 0 none)) R R, Value.int IntKind.i64 (↑a : Int), Value.int IntKind.i64 (↑b : Int)], Blk.mk 9 true (List.map Value.string (mkR R C (tF C (i * C + j) (ByteArray.extract s 0 (t + nn)) f))), Blk.mk 9 true (List.map Value.string (mkR R C (tF C (i * C + j) (fillS (UInt8.ofNat (48 + mk)) (t + nn)) g)))]) (.cons (by kernel_rfl) (.cons (unB_flat (by assumption)) (.cons (unB_flat (by assumption)) .nil))) (by kernel_rfl) (Heap.set (Heap.set (Heap.set (heapOf [Blk.mk 24 true [Value.slice (some (Addr.mk 1 0 none)) R R, Value.slice (some (Addr.mk 2 0 none)) R R, Value.int IntKind.i64 (↑a : Int), Value.int IntKind.i64 (↑b : Int)], Blk.mk 9 true (List.map Value.string (mkR R C (tF C (i * C + j) (ByteArray.extract s 0 t) f))), Blk.mk 9 true (List.map Value.string (mkR R C (tF C (i * C + j) (fillS (UInt8.ofNat (48 + mk)) t) g)))]) 0 (some (Blk.mk 24 true [Value.slice (some (Addr.mk 1 0 none)) R R, Value.slice (some (Addr.mk 2 0 none)) R R, Value.int IntKind.i64 (↑a : Int), Value.int IntKind.i64 (↑b : Int)]))) 1 (some (Blk.mk 9 true (List.map Value.string (mkR R C (tF C (i * C + j) (ByteArray.extract s 0 (t + nn)) f)))))) 2 (some (Blk.mk 9 true (List.map Value.string (mkR R C (tF C (i * C + j) (fillS (UInt8.ofNat (48 + mk)) (t + nn)) g)))))) (by kernel_rfl) ?_
        refine WpOps.nil (thenK_at (Wp.seq (Wp.text ?_)))
        refine kp 46 (.string (ByteArray.extract s t (ByteArray.size s))) ?_
        refine kp 47 (.int IntKind.i64 (if IntKind.wrap .i64 ((↑C : Int) - (↑b : Int)) < (↑(ByteArray.size (ByteArray.extract s t (ByteArray.size s))) : Int) then IntKind.wrap .i64 ((↑C : Int) - (↑b : Int)) else (↑(ByteArray.size (ByteArray.extract s t (ByteArray.size s))) : Int))) ?_
        refine kp 48 (.string (ByteArray.extract (ByteArray.extract s t (ByteArray.size s)) (Int.toNat (if IntKind.wrap .i64 ((↑C : Int) - (↑b : Int)) < (↑(ByteArray.size (ByteArray.extract s t (ByteArray.size s))) : Int) then IntKind.wrap .i64 ((↑C : Int) - (↑b : Int)) else (↑(ByteArray.size (ByteArray.extract s t (ByteArray.size s))) : Int))) (ByteArray.size (ByteArray.extract s t (ByteArray.size s))))) ?_ (hop := fun _ => o_cut_lo z1)
        refine kp 1 (.string (ByteArray.extract (ByteArray.extract s t (ByteArray.size s)) (Int.toNat (if IntKind.wrap .i64 ((↑C : Int) - (↑b : Int)) < (↑(ByteArray.size (ByteArray.extract s t (ByteArray.size s))) : Int) then IntKind.wrap .i64 ((↑C : Int) - (↑b : Int)) else (↑(ByteArray.size (ByteArray.extract s t (ByteArray.size s))) : Int))) (ByteArray.size (ByteArray.extract s t (ByteArray.size s))))) ?_
        refine WpOps.nil (thenK_at (Wp.seq (Wp.text ?_)))
        refine kp 49 (.pointer (some ⟨0, 0, none⟩)) ?_
        refine kp 50 (.pointer (some ⟨0, 0, none⟩)) ?_
        refine kp 51 (.pointer (some ⟨0, 3, none⟩)) ?_
        refine kp 52 (.int IntKind.i64 (↑b : Int)) ?_
        refine kp 53 (.int IntKind.i64 (if IntKind.wrap .i64 ((↑C : Int) - (↑b : Int)) < (↑(ByteArray.size (ByteArray.extract s t (ByteArray.size s))) : Int) then IntKind.wrap .i64 ((↑C : Int) - (↑b : Int)) else (↑(ByteArray.size (ByteArray.extract s t (ByteArray.size s))) : Int))) ?_
        refine kp 54 (.int IntKind.i64 (IntKind.wrap .i64 ((↑b : Int) + if IntKind.wrap .i64 ((↑C : Int) - (↑b : Int)) < (↑(ByteArray.size (ByteArray.extract s t (ByteArray.size s))) : Int) then IntKind.wrap .i64 ((↑C : Int) - (↑b : Int)) else (↑(ByteArray.size (ByteArray.extract s t (ByteArray.size s))) : Int)))) ?_
        refine kp 55 (.pointer (some ⟨0, 0, none⟩)) ?_
        refine kp 56 (.pointer (some ⟨0, 3, none⟩)) ?_
        refine ld (.tuple #[]) (0) (Blk.mk 24 true [Value.slice (some ⟨1, 0, none⟩) R R, Value.slice (some ⟨2, 0, none⟩) R R, Value.int .i64 (↑a : Int), Value.int .i64 (IntKind.wrap .i64 ((↑b : Int) + if IntKind.wrap .i64 ((↑C : Int) - (↑b : Int)) < (↑(ByteArray.size (ByteArray.extract s t (ByteArray.size s))) : Int) then IntKind.wrap .i64 ((↑C : Int) - (↑b : Int)) else (↑(ByteArray.size (ByteArray.extract s t (ByteArray.size s))) : Int)))]) ?_
        refine WpOps.nil (thenK_at (Wp.seq (Wp.seq (Wp.text ?_))))
        refine kp 57 (.pointer (some ⟨0, 0, none⟩)) ?_
        refine kp 58 (.pointer (some ⟨0, 0, none⟩)) ?_
        refine kp 59 (.pointer (some ⟨0, 3, none⟩)) ?_
        refine kp 60 (.int IntKind.i64 (IntKind.wrap .i64 ((↑b : Int) + if IntKind.wrap .i64 ((↑C : Int) - (↑b : Int)) < (↑(ByteArray.size (ByteArray.extract s t (ByteArray.size s))) : Int) then IntKind.wrap .i64 ((↑C : Int) - (↑b : Int)) else (↑(ByteArray.size (ByteArray.extract s t (ByteArray.size s))) : Int)))) ?_
        refine kp 61 (.int IntKind.i64 (↑C : Int)) ?_
        refine kp 62 (.bool false) ?_ (hop := fun _ => by_fact hd)
        refine WpOps.nil (thenK_at (off' (Wp.skip (thenK_at (Wp.seq (Wp.seq (Wp.text ?_)))))))
        refine kp 63 (.pointer (some ⟨0, 0, none⟩)) ?_
        refine kp 64 (.pointer (some ⟨0, 0, none⟩)) ?_
        refine kp 65 (.pointer (some ⟨0, 2, none⟩)) ?_
        refine kp 66 (.int IntKind.i64 (↑a : Int)) ?_
        refine kp 67 (.int IntKind.i64 (↑R : Int)) ?_
        refine kp 68 (.int IntKind.i64 (IntKind.wrap .i64 ((↑R : Int) - 1))) ?_
        refine kp 69 (.bool false) ?_ (hop := fun _ => by_fact hx)
        refine WpOps.nil (thenK_at (off' (Wp.skip (thenK_at (Wp.text ?_)))))
        refine kp 75 (.pointer (some ⟨0, 0, none⟩)) ?_
        refine kp 76 (.pointer (some ⟨0, 0, none⟩)) ?_
        refine kp 77 (.pointer (some ⟨0, 0, none⟩)) ?_
        refine kp 78 (.pointer (some ⟨0, 0, none⟩)) ?_
        refine kp 79 (.pointer (some ⟨0, 2, none⟩)) ?_
        refine kp 80 (.int IntKind.i64 (↑a : Int)) ?_
        refine kp 81 (.int IntKind.i64 (IntKind.wrap .i64 ((↑a : Int) + 1))) ?_
        refine kp 82 (.pointer (some ⟨0, 0, none⟩)) ?_
        refine kp 83 (.pointer (some ⟨0, 2, none⟩)) ?_
        refine ld (.tuple #[]) (0) (Blk.mk 24 true [Value.slice (some ⟨1, 0, none⟩) R R, Value.slice (some ⟨2, 0, none⟩) R R, Value.int .i64 (IntKind.wrap .i64 ((↑a : Int) + 1)), Value.int .i64 (IntKind.wrap .i64 ((↑b : Int) + if IntKind.wrap .i64 ((↑C : Int) - (↑b : Int)) < (↑(ByteArray.size (ByteArray.extract s t (ByteArray.size s))) : Int) then IntKind.wrap .i64 ((↑C : Int) - (↑b : Int)) else (↑(ByteArray.size (ByteArray.extract s t (ByteArray.size s))) : Int)))]) ?_
        refine kp 84 (.pointer (some ⟨0, 0, none⟩)) ?_
        refine kp 85 (.pointer (some ⟨0, 3, none⟩)) ?_
        refine ld (.tuple #[]) (0) (Blk.mk 24 true [Value.slice (some ⟨1, 0, none⟩) R R, Value.slice (some ⟨2, 0, none⟩) R R, Value.int .i64 (IntKind.wrap .i64 ((↑a : Int) + 1)), Value.int .i64 0]) ?_
        refine WpOps.nil (blockK_norm (thenK_at ?_))
        have w3 : IntKind.i64.wrap ((a : Int) + 1) = ((a + 1 : Nat) : Int) := wr _ (by omega) (by omega)
        have e5 : (s.extract t s.size).extract (if IntKind.i64.wrap ((C : Int) - b) < ((s.extract t s.size).size : Int) then IntKind.i64.wrap ((C : Int) - b) else ((s.extract t s.size).size : Int)).toNat (s.extract t s.size).size = s.extract (t + nn) s.size := by
          rw [hmin, Int.toNat_natCast]
          apply ByteArray.ext
          simp only [ByteArray.data_extract, ByteArray.size_extract, Array.extract_extract]
          congr 1
          omega
        have hs1 : (a + 1) * C = a * C + C := Nat.succ_mul a C
        exact ⟨(t + nn, a + 1, 0), by dsimp only; omega, ⟨by dsimp only; omega, by dsimp only; omega, by dsimp only; omega, by dsimp only; omega, .inr rfl⟩, View.of [0, 1, 2] (dBs R C (tF C (i * C + j) (s.extract 0 (t + nn)) f) (tF C (i * C + j) (fillS (UInt8.ofNat (48 + mk)) (t + nn)) g) ((a + 1 : Nat) : Int) ((0 : Nat) : Int)) _ (by decide) rfl
          ⟨⟨_, by kernel_rfl, cellsD w3 rfl⟩, ⟨_, by kernel_rfl, CellsOk.eq rfl (strs_flat _)⟩, ⟨_, by kernel_rfl, CellsOk.eq rfl (strs_flat _)⟩, trivial⟩ ⟨⟨by kernel_rfl, rfl⟩, ⟨congrArg Value.string e5, rfl⟩, ⟨by kernel_rfl, rfl⟩, ⟨by kernel_rfl, rfl⟩, ⟨by kernel_rfl, rfl⟩, trivial⟩⟩
  · obtain rfl : t = s.size := by omega
    have hd : (!((s.extract s.size s.size).toList == ByteArray.toList (ByteArray.mk #[]))) = false := by
      have e : s.extract s.size s.size = ByteArray.mk #[] := ByteArray.ext (Array.eq_empty_of_size_eq_zero (by show (s.extract s.size s.size).size = 0; rw [ByteArray.size_extract]; omega))
      rw [e, beq_self_eq_true]
      rfl
    have hlt := cell_lt h2 h3
    have hdv := divC (a := a) h3
    have e3 : (a : Int) = ((min (i * C + j + s.size) (R * C - 1) / C : Nat) : Int) := by
      rw [show min (i * C + j + s.size) (R * C - 1) = a * C + b by omega, hdv.1]
    have e4 : (b : Int) = ((min (i * C + j + s.size) (R * C - 1) % C : Nat) : Int) := by
      rw [show min (i * C + j + s.size) (R * C - 1) = a * C + b by omega, hdv.2]
    have e1 : mkR R C (tF C (i * C + j) (s.extract 0 s.size) f) = mkR R C (tF C (i * C + j) s f) := tF_pre s s.size (by omega) (.inl rfl)
    have e2 : mkR R C (tF C (i * C + j) (fillS (UInt8.ofNat (48 + mk)) s.size) g) = mkR R C (tF C (i * C + j) (fillS (UInt8.ofNat (48 + mk)) s.size) g) := rfl
    unfold dBs dB sB
    refine Wp.seq (Wp.seq (Wp.text ?_))
    refine kp 21 (.string (ByteArray.extract s (ByteArray.size s) (ByteArray.size s))) ?_
    refine kp 22 (.bool false) ?_ (hop := fun _ => by_fact hd)
    refine WpOps.nil (thenK_at (off' (Wp.exit (thenK_exit (thenK_exit (blockK_hit ?_))))))
    refine endK_norm [] (Value.tuple #[]) (by kernel_rfl) (by kernel_rfl) ?_
    exact ⟨[0, 1, 2], by decide, by kernel_rfl, ⟨⟨_, by kernel_rfl, .cons (.inl ⟨rfl, rfl⟩) (.cons (.inl ⟨rfl, rfl⟩) (.cons (.inl ⟨congrArg (Value.int .i64) e3, rfl⟩) (.cons (.inl ⟨congrArg (Value.int .i64) e4, rfl⟩) .nil)))⟩, ⟨_, by kernel_rfl, told_eq (congrArg (List.map Value.string) e1) (strs_flat _)⟩, ⟨_, by kernel_rfl, told_eq (congrArg (List.map Value.string) e2) (strs_flat _)⟩, trivial⟩, .w (.un rfl rfl)⟩
end Go.Proofs.Ytlejgfeoffhjoaa.D
