/- Width tells the fewest bits: what is proved is the pure statement of the law BitsNarrow, for every int. No condition. -/
import Derived.Test.YthhlfddpacmhfaaPBitsNarrowx3
import Derived.WalkSmall
import Derived.KernelRfl
namespace Go.Proofs.Ythhlfddpacmhfaa.Pure
open Go.RowKit Go.Proofs.Ythhlfddpacmhfaa.PBitsNarrow Go.Proofs.YthhlfddpacmhfaaW.PrintWords Go.Proofs.YthhlfddpacmhfaaW.PrintLast

theorem wrap_in (n : Int) (h : -9223372036854775808 ≤ n) (h' : n ≤ 9223372036854775807) : wrap64 n = n := by unfold wrap64; omega
theorem u64_in (n : Int) (h : 0 ≤ n) (h' : n < 18446744073709551616) : IntKind.u64.wrap n = n := by
  show (let m := n % (2 ^ 64 : Int); if (false && decide (m ≥ (2 ^ 63 : Int))) = true then m - (2 ^ 64 : Int) else m) = n
  simp only [Bool.false_and, Bool.false_eq_true, if_false]
  omega

/-- The fewest bits. -/
def IsLen (n : Int) (w : Nat) : Prop := n < 2 ^ w ∧ (w = 0 → n = 0) ∧ (0 < w → 2 ^ (w - 1) ≤ n)

def tab : ByteArray := ⟨#[0, 1, 2, 2, 3, 3, 3, 3, 4, 4, 4, 4, 4, 4, 4, 4, 5, 5, 5, 5, 5, 5, 5, 5, 5, 5, 5, 5, 5, 5, 5, 5, 6, 6, 6, 6, 6, 6, 6, 6, 6, 6, 6, 6, 6, 6, 6, 6, 6, 6, 6, 6, 6, 6, 6, 6, 6, 6, 6, 6, 6, 6, 6, 6, 7, 7, 7, 7, 7, 7, 7, 7, 7, 7, 7, 7, 7, 7, 7, 7, 7, 7, 7, 7, 7, 7, 7, 7, 7, 7, 7, 7, 7, 7, 7, 7, 7, 7, 7, 7, 7, 7, 7, 7, 7, 7, 7, 7, 7, 7, 7, 7, 7, 7, 7, 7, 7, 7, 7, 7, 7, 7, 7, 7, 7, 7, 7, 7, 8, 8, 8, 8, 8, 8, 8, 8, 8, 8, 8, 8, 8, 8, 8, 8, 8, 8, 8, 8, 8, 8, 8, 8, 8, 8, 8, 8, 8, 8, 8, 8, 8, 8, 8, 8, 8, 8, 8, 8, 8, 8, 8, 8, 8, 8, 8, 8, 8, 8, 8, 8, 8, 8, 8, 8, 8, 8, 8, 8, 8, 8, 8, 8, 8, 8, 8, 8, 8, 8, 8, 8, 8, 8, 8, 8, 8, 8, 8, 8, 8, 8, 8, 8, 8, 8, 8, 8, 8, 8, 8, 8, 8, 8, 8, 8, 8, 8, 8, 8, 8, 8, 8, 8, 8, 8, 8, 8, 8, 8, 8, 8, 8, 8, 8, 8, 8, 8, 8, 8, 8, 8, 8, 8, 8, 8, 8, 8]⟩

def lenOk (x : Nat) : Bool := let w := tab.data.toList.getD x 0; decide (x < 2 ^ w.toNat) && decide (w.toNat ≤ 8) && (w.toNat != 0 || x == 0) && (w.toNat == 0 || decide (2 ^ (w.toNat - 1) ≤ x))
theorem tab_ok : (List.range 256).all lenOk = true := by decide +kernel

theorem tab_bt (x : Int) (h0 : 0 ≤ x) (h : x < 256) : ∃ w : Nat, bt tab x = w ∧ w ≤ 8 ∧ IsLen x w := by
  obtain ⟨n, rfl⟩ := Int.eq_ofNat_of_zero_le h0
  have hn : n < 256 := by omega
  have hlen : tab.data.toList.length = 256 := by decide +kernel
  have h1 := List.all_eq_true.1 tab_ok n (List.mem_range.2 hn)
  simp only [lenOk, Bool.and_eq_true, decide_eq_true_eq, Bool.or_eq_true, bne_iff_ne, beq_iff_eq] at h1
  have hb : bt tab n = ((tab.data.toList.getD n 0).toNat : Int) := by
    have hd : tab.data.size = 256 := by rw [← Array.length_toList]; exact hlen
    have hs : n < tab.size := by show n < tab.data.size; omega
    unfold bt
    simp only [Int.toNat_natCast]
    rw [dif_pos hs]
    congr 2
    rw [List.getD_eq_getElem?_getD, List.getElem?_eq_getElem (by omega)]
    rfl
  generalize hw : (tab.data.toList.getD n 0).toNat = w at *
  refine ⟨w, hb, h1.1.1.2, ?_, ?_, ?_⟩
  · exact_mod_cast h1.1.1.1
  · intro e; have := h1.1.2; omega
  · intro e
    rcases h1.2 with h2 | h2
    · omega
    · exact_mod_cast h2

theorem IsLen.up {x : Int} {k w : Nat} (hx : (2 : Int) ^ k ≤ x) (h : IsLen (x / 2 ^ k) w) : IsLen x (w + k) := by
  have hp : (0 : Int) < 2 ^ k := Int.pow_pos (by omega)
  have hq : 1 ≤ x / 2 ^ k := (Int.le_ediv_iff_mul_le hp).2 (by omega)
  have hw : 0 < w := by
    rcases Nat.eq_zero_or_pos w with e | e
    · have := h.2.1 e; omega
    · exact e
  refine ⟨?_, by omega, fun _ => ?_⟩
  · have := (Int.ediv_lt_iff_lt_mul hp).1 h.1
    rwa [Int.pow_add]
  · have := (Int.le_ediv_iff_mul_le hp).1 (h.2.2 hw)
    rw [show w + k - 1 = (w - 1) + k by omega, Int.pow_add]
    exact this

theorem pow_le_pow {a b : Nat} (h : a ≤ b) : (2 : Int) ^ a ≤ 2 ^ b := by
  have : (2 : Nat) ^ a ≤ 2 ^ b := Nat.pow_le_pow_right (by omega) h
  exact_mod_cast this
theorem IsLen.uniq {n : Int} {a b : Nat} (ha : IsLen n a) (hb : IsLen n b) : a = b := by
  rcases Nat.lt_trichotomy a b with h | h | h
  · have h1 := ha.1; have h2 := hb.2.2 (by omega); have h3 := pow_le_pow (show a ≤ b - 1 by omega); omega
  · exact h
  · have h1 := hb.1; have h2 := ha.2.2 (by omega); have h3 := pow_le_pow (show b ≤ a - 1 by omega); omega

theorem len64_eq (k : Nat) (x v : Int) : bits_Len64.j0 (k + 1) x v = if x ≥ 65536 then (if (x / 65536) ≥ 256 then (if 0 ≤ (((x / 65536) / 256) % 256) then (if (((x / 65536) / 256) % 256) < 256 then (some (wrap64 ((wrap64 ((wrap64 (v + 16)) + 8)) + (wrap64 (bt tab (((x / 65536) / 256) % 256)))))) else (none)) else (none)) else (if 0 ≤ ((x / 65536) % 256) then (if ((x / 65536) % 256) < 256 then (some (wrap64 ((wrap64 (v + 16)) + (wrap64 (bt tab ((x / 65536) % 256)))))) else (none)) else (none))) else (if x ≥ 256 then (if 0 ≤ ((x / 256) % 256) then (if ((x / 256) % 256) < 256 then (some (wrap64 ((wrap64 (v + 8)) + (wrap64 (bt tab ((x / 256) % 256)))))) else (none)) else (none)) else (if 0 ≤ ((x) % 256) then (if ((x) % 256) < 256 then (some (wrap64 (v + (wrap64 (bt tab ((x) % 256)))))) else (none)) else (none))) := rfl

theorem len64_j0 (x v : Int) (h0 : 0 ≤ x) (h : x < 4294967296) (hv : 0 ≤ v) (hv' : v ≤ 32) : ∃ w : Nat, (∀ k, bits_Len64.j0 (k + 1) x v = some (v + w)) ∧ w ≤ 32 ∧ IsLen x w := by
  by_cases c1 : x ≥ 65536
  · by_cases c2 : x / 65536 ≥ 256
    · obtain ⟨w, hb, hw, hl⟩ := tab_bt (x / 65536 / 256 % 256) (by omega) (by omega)
      have e : x / 65536 / 256 % 256 = x / 2 ^ 24 := by omega
      rw [e] at hl
      refine ⟨w + 24, fun k => ?_, by omega, IsLen.up (by omega) hl⟩
      rw [len64_eq, if_pos c1, if_pos c2, if_pos (by omega), if_pos (by omega)]
      rw [hb, wrap_in (w : Int) (by omega) (by omega), wrap_in (v + 16) (by omega) (by omega), wrap_in (v + 16 + 8) (by omega) (by omega), wrap_in _ (by omega) (by omega)]
      exact congrArg some (by omega)
    · obtain ⟨w, hb, hw, hl⟩ := tab_bt (x / 65536 % 256) (by omega) (by omega)
      have e : x / 65536 % 256 = x / 2 ^ 16 := by omega
      rw [e] at hl
      refine ⟨w + 16, fun k => ?_, by omega, IsLen.up (by omega) hl⟩
      rw [len64_eq, if_pos c1, if_neg c2, if_pos (by omega), if_pos (by omega)]
      rw [hb, wrap_in (w : Int) (by omega) (by omega), wrap_in (v + 16) (by omega) (by omega), wrap_in _ (by omega) (by omega)]
      exact congrArg some (by omega)
  · by_cases c2 : x ≥ 256
    · obtain ⟨w, hb, hw, hl⟩ := tab_bt (x / 256 % 256) (by omega) (by omega)
      have e : x / 256 % 256 = x / 2 ^ 8 := by omega
      rw [e] at hl
      refine ⟨w + 8, fun k => ?_, by omega, IsLen.up (by omega) hl⟩
      rw [len64_eq, if_neg c1, if_pos c2, if_pos (by omega), if_pos (by omega)]
      rw [hb, wrap_in (w : Int) (by omega) (by omega), wrap_in (v + 8) (by omega) (by omega), wrap_in _ (by omega) (by omega)]
      exact congrArg some (by omega)
    · obtain ⟨w, hb, hw, hl⟩ := tab_bt (x % 256) (by omega) (by omega)
      have e : x % 256 = x := by omega
      rw [e] at hl
      refine ⟨w, fun k => ?_, by omega, hl⟩
      rw [len64_eq, if_neg c1, if_neg c2, if_pos (by omega), if_pos (by omega)]
      rw [hb, wrap_in (w : Int) (by omega) (by omega), wrap_in _ (by omega) (by omega)]

/-- Width tells the fewest bits. -/
theorem width_ok (n : Int) (h0 : 0 ≤ n) (h : n ≤ 1000000000000000) : ∃ w : Nat, Ev (fun k => bits_Width.f k n) ((w : Int), 0) ∧ IsLen n w ∧ w ≤ 64 := by
  have hu := u64_in n h0 (by omega)
  by_cases c : n ≥ 4294967296
  · obtain ⟨w, hj, hw, hl⟩ := len64_j0 (n / 4294967296) 32 (by omega) (by omega) (by omega) (by omega)
    refine ⟨w + 32, ⟨1, fun k hk => ?_⟩, IsLen.up (k := 32) (by omega) (by simpa using hl), by omega⟩
    obtain ⟨m, rfl⟩ : ∃ m, k = m + 1 := ⟨k - 1, by omega⟩
    show bits_Width.f (m + 1) n = _
    unfold bits_Width.f bits_Len.f bits_Len64.f
    rw [if_neg (by omega), if_neg (by omega), hu, if_pos c, hj]
    simp [Int.add_comm]
  · obtain ⟨w, hj, hw, hl⟩ := len64_j0 n 0 (by omega) (by omega) (by omega) (by omega)
    refine ⟨w, ⟨1, fun k hk => ?_⟩, hl, by omega⟩
    obtain ⟨m, rfl⟩ : ∃ m, k = m + 1 := ⟨k - 1, by omega⟩
    show bits_Width.f (m + 1) n = _
    unfold bits_Width.f bits_Len.f bits_Len64.f
    rw [if_neg (by omega), if_neg (by omega), hu, if_neg c, hj]
    simp

/-- The lowest w bits of a number as digits, the highest first. -/
def bl (n : Int) : Nat → List Int
  | 0 => []
  | w + 1 => (48 + (n / 2 ^ w) % 2) :: bl n w
theorem bl_length (n : Int) (w : Nat) : (bl n w).length = w := by induction w <;> simp [bl, *]
theorem bl_get (n : Int) : ∀ (w i : Nat), i < w → (bl n w)[i]? = some (48 + (n / 2 ^ (w - 1 - i)) % 2)
  | 0, _, h => by omega
  | w + 1, 0, _ => by simp [bl]
  | w + 1, i + 1, h => by
    simp only [bl, List.getElem?_cons_succ]
    rw [bl_get n w i (by omega)]
    congr 5; omega

theorem and_one (x : Int) (h0 : 0 ≤ x) (h : x < 18446744073709551616) : Go.bits .and .u64 x 1 = x % 2 := and_one_u64 x h0 (by omega)

theorem shr_u64 (x : Int) (j : Nat) (hj : j ≤ 64) : shr .u64 x (j : Int) = x / 2 ^ j := by
  unfold shr
  simp only [Int.toNat_natCast, IntKind.bits]
  rw [Nat.min_eq_left hj]

theorem set_step {xs ys : List Int} {i : Nat} {v : Int} (hx : xs.take i = ys.take i) (hi : i < xs.length) (hv : ys[i]? = some v) : (xs.set i v).take (i + 1) = ys.take (i + 1) := by
  apply List.ext_getElem?
  intro j
  simp only [List.getElem?_take]
  by_cases hj : j < i + 1
  · simp only [hj, if_true]
    rcases Nat.lt_or_ge j i with h | h
    · rw [List.getElem?_set_ne (by omega)]
      have := congrArg (fun l => l[j]?) hx
      simpa [List.getElem?_take, h] using this
    · obtain rfl : j = i := by omega
      rw [List.getElem?_set_self hi, hv]
  · simp [hj]

theorem written_loop (n : Int) (h0 : 0 ≤ n) (hn : n < 18446744073709551616) (w : Nat) (hw : w ≤ 60) : ∀ (d i : Nat) (xs : List Int), xs.length = w → i + d = w → xs.take i = (bl n w).take i →
    ∀ k, d < k → bits_written.l0 k n w xs w i = some (strOfNums (bl n w))
  | 0, i, xs, hl, hd, ht, k, hk => by
    obtain ⟨k, rfl⟩ : ∃ m, k = m + 1 := ⟨k - 1, by omega⟩
    simp only [bits_written.l0]
    rw [if_neg (by omega)]
    have e1 : xs = bl n w := by
      have := ht
      rwa [List.take_of_length_le (by omega), List.take_of_length_le (by rw [bl_length]; omega)] at this
    rw [e1]
  | d + 1, i, xs, hl, hd, ht, k, hk => by
    obtain ⟨k, rfl⟩ : ∃ m, k = m + 1 := ⟨k - 1, by omega⟩
    simp only [bits_written.l0]
    have e1 : wrap64 ((w : Int) - 1) = w - 1 := wrap_in _ (by omega) (by omega)
    have e2 : wrap64 ((w : Int) - 1 - i) = ((w - 1 - i : Nat) : Int) := by rw [wrap_in _ (by omega) (by omega)]; omega
    have e3 : wrap64 ((i : Int) + 1) = ((i + 1 : Nat) : Int) := by rw [wrap_in _ (by omega) (by omega)]; omega
    have hq0 : 0 ≤ n / 2 ^ (w - 1 - i) := Int.ediv_nonneg h0 (Int.le_of_lt (Int.pow_pos (by omega)))
    have hq1 : n / 2 ^ (w - 1 - i) < 18446744073709551616 := Int.lt_of_le_of_lt (Int.ediv_le_self _ h0) hn
    rw [if_pos (by omega), e1, e2, if_pos (by omega), if_pos (by omega), if_pos (by omega), shr_u64 n _ (by omega), and_one _ hq0 hq1, e3, Int.toNat_natCast]
    have e4 : (48 + n / 2 ^ (w - 1 - i) % 2 % 256) % 256 = 48 + n / 2 ^ (w - 1 - i) % 2 := by omega
    rw [e4]
    exact written_loop n h0 hn w hw d (i + 1) _ (by simpa using hl) (by omega) (set_step ht (by omega) (bl_get n w i (by omega))) k (by omega)

theorem written_ok (n : Int) (h0 : 0 ≤ n) (hn : n < 18446744073709551616) (w : Nat) (hw : w ≤ 60) : Ev (fun k => bits_written.f k n w) (strOfNums (bl n w)) := by
  refine ⟨w + 1, fun k hk => ?_⟩
  show bits_written.f k n w = _
  unfold bits_written.f
  rw [if_pos (by omega), if_pos (by simp only [Int.toNat_natCast]; omega)]
  simp only [Option.bind_some, Int.toNat_natCast, List.length_replicate]
  exact written_loop n h0 hn w hw w 0 (List.replicate w 0) (by simp) (by omega) rfl k (by omega)

theorem shr_zero (n : Int) (w : Nat) (h0 : 0 ≤ n) (hw : w ≤ 60) : shr .i64 n w = 0 ↔ n < 2 ^ w := by
  unfold shr
  simp only [Int.toNat_natCast, IntKind.bits]
  rw [Nat.min_eq_left (by omega)]
  have hp : (0 : Int) < 2 ^ w := Int.pow_pos (by omega)
  constructor
  · intro h
    rcases Int.lt_or_le n (2 ^ w) with h1 | h1
    · exact h1
    · have := (Int.le_ediv_iff_mul_le hp).2 (show 1 * 2 ^ w ≤ n by omega); omega
  · intro h
    exact Int.ediv_eq_zero_of_lt h0 h

theorem put_ok (n : Int) (w : Nat) (h0 : 0 ≤ n) (hn : n ≤ 9223372036854775807) (hw : w ≤ 60) (h : n < 2 ^ w) : Ev (fun k => bits_Put.f k n w) (strOfNums (bl n w), 0) := by
  have hwr := written_ok n h0 (by omega) w hw
  have hu := u64_in n h0 (by omega)
  have hs := (shr_zero n w h0 hw).2 h
  refine Ev.congr (f := fun k => bits_Put.j0 k n w false) (fun k => ?_) (Ev.step (f := fun k => (bits_written.f k n w).bind fun t => some (t, 0)) (fun k => ?_) (Ev.bind hwr (Ev.now _)))
  · unfold bits_Put.f
    rw [if_neg (by omega), if_neg (by omega)]
    congr 1
    exact decide_eq_false (by omega)
  · simp only [bits_Put.j0, Bool.false_eq_true, if_false]
    rw [if_pos (by omega), if_pos hs, hu]

theorem put_no (n : Int) (w : Nat) (h0 : 0 ≤ n) (hw : w ≤ 60) (h : ¬ n < 2 ^ w) : Ev (fun k => bits_Put.f k n w) ((⟨#[]⟩ : ByteArray), 5) := by
  have hs := mt (shr_zero n w h0 hw).1 h
  refine Ev.congr (f := fun k => bits_Put.j0 k n w false) (fun k => ?_) (Ev.step (f := fun _ => some ((⟨#[]⟩ : ByteArray), 5)) (fun k => ?_) (Ev.now _))
  · unfold bits_Put.f
    rw [if_neg (by omega), if_neg (by omega)]
    congr 1
    exact decide_eq_false (by omega)
  · simp only [bits_Put.j0, Bool.false_eq_true, if_false]
    rw [if_pos (by omega), if_neg hs]

theorem sane_ok : Ev (fun k => heptadlaw01_sane.f k) true := Ev.of (g := fun k => heptadlaw01_sane.f k) heptadlaw01_sane.mono (k := 30) (by kernel_rfl)

theorem narrow_j1 (n : Int) (w : Nat) (h0 : 0 ≤ n) (h : n ≤ 1000000000000000) (hl : IsLen n w) (hw : w ≤ 60) : Ev (fun k => heptadlaw01_BitsNarrow.j1 k n w false) true := by
  refine Ev.step (f := fun k => (bits_Put.f k n w).bind fun bt129 => (if bt129.2 = 0 then (if (w : Int) = 0 then (if n = 0 then ((heptadlaw01_sane.f k).bind fun t131 => (some t131)) else (some false)) else ((bits_Put.f k n (wrap64 ((w : Int) - 1))).bind fun bt132 => (if bt132.2 = 5 then ((heptadlaw01_sane.f k).bind fun t134 => (some t134)) else (some false)))) else (some false))) (fun k => by simp only [heptadlaw01_BitsNarrow.j1, Bool.false_eq_true, if_false]) ?_
  refine Ev.bind (put_ok n w h0 (by omega) hw hl.1) ?_
  simp only [if_true]
  by_cases c : w = 0
  · subst c
    have := hl.2.1 rfl
    simp only [Int.natCast_zero, this, if_true]
    exact Ev.bind sane_ok (Ev.now _)
  · have hc : ¬ (w : Int) = 0 := by omega
    simp only [hc, if_false]
    have e : wrap64 ((w : Int) - 1) = ((w - 1 : Nat) : Int) := by rw [wrap_in _ (by omega) (by omega)]; omega
    rw [e]
    refine Ev.bind (put_no n (w - 1) h0 (by omega) (by have := hl.2.2 (by omega); omega)) ?_
    simp only [if_true]
    exact Ev.bind sane_ok (Ev.now _)

theorem BitsNarrow : heptadlaw01_BitsNarrow.Pure := by
  intro n _
  have hs : Ev (fun k => heptadlaw01_BitsNarrow.j0 k n true) true := Ev.step (f := fun k => (heptadlaw01_sane.f k).bind fun t => some t) (fun k => by simp only [heptadlaw01_BitsNarrow.j0, if_true]) (Ev.bind sane_ok (Ev.now _))
  refine Ev.rounds (g := fun k => heptadlaw01_BitsNarrow.f k n) ?_
  by_cases c1 : n < 0
  · exact Ev.congr (fun k => by simp only [heptadlaw01_BitsNarrow.f, c1, if_true]) hs
  by_cases c2 : n > 1000000000000000
  · exact Ev.congr (fun k => by simp only [heptadlaw01_BitsNarrow.f, c1, if_false, c2, decide_true]) hs
  obtain ⟨w, hw, hl, h64⟩ := width_ok n (by omega) (by omega)
  have h60 : w ≤ 60 := by
    rcases Nat.lt_or_ge 60 w with h | h
    · have h1 := hl.2.2 (by omega); have h2 := pow_le_pow (show 60 ≤ w - 1 by omega); omega
    · exact h
  refine Ev.congr (f := fun k => heptadlaw01_BitsNarrow.j0 k n false) (fun k => by simp only [heptadlaw01_BitsNarrow.f, c1, if_false, c2, decide_false]) ?_
  refine Ev.step (f := fun k => (bits_Width.f k n).bind fun bt127 => (if bt127.2 = 0 then (if bt127.1 < 0 then (heptadlaw01_BitsNarrow.j1 k n bt127.1 true) else (heptadlaw01_BitsNarrow.j1 k n bt127.1 (decide (bt127.1 > 60)))) else (heptadlaw01_BitsNarrow.j1 k n bt127.1 true))) (fun k => by simp only [heptadlaw01_BitsNarrow.j0, Bool.false_eq_true, if_false]) ?_
  refine Ev.bind hw ?_
  have d1 : ¬ (w : Int) < 0 := by omega
  have d2 : ¬ (w : Int) > 60 := by omega
  simp only [if_true, d1, if_false, d2, decide_false]
  exact narrow_j1 n w (by omega) (by omega) hl h60

end Go.Proofs.Ythhlfddpacmhfaa.Pure
