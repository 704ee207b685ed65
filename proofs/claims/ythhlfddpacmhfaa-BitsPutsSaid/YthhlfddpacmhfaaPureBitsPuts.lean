/- Width, Put, Signed and Octets are the reference's: the pure statement of the law BitsPuts, for every two ints. No condition. -/
import Derived.Test.YthhlfddpacmhfaaPBitsPutsx5
import Derived.KernelRfl
import Derived.WalkSmall
namespace Go.Proofs.Ythhlfddpacmhfaa.Pure
open Go.RowKit Go.Proofs.Ythhlfddpacmhfaa.PBitsPuts Go.Proofs.YthhlfddpacmhfaaW.PrintWords Go.Proofs.YthhlfddpacmhfaaW.PrintLast

theorem wrap_in (n : Int) (h : -9223372036854775808 ≤ n) (h' : n ≤ 9223372036854775807) : wrap64 n = n := by unfold wrap64; omega
theorem u64_in (n : Int) (h : 0 ≤ n) (h' : n < 18446744073709551616) : IntKind.u64.wrap n = n := by
  show (let m := n % (2 ^ 64 : Int); if (false && decide (m ≥ (2 ^ 63 : Int))) = true then m - (2 ^ 64 : Int) else m) = n
  simp only [Bool.false_and, Bool.false_eq_true, if_false]
  omega

/-- The fewest bits. -/
def IsLen (n : Int) (w : Nat) : Prop := n < 2 ^ w ∧ (w = 0 → n = 0) ∧ (0 < w → 2 ^ (w - 1) ≤ n)

def tab : ByteArray := ⟨#[0, 1, 2, 2, 3, 3, 3, 3, 4, 4, 4, 4, 4, 4, 4, 4, 5, 5, 5, 5, 5, 5, 5, 5, 5, 5, 5, 5, 5, 5, 5, 5, 6, 6, 6, 6, 6, 6, 6, 6, 6, 6, 6, 6, 6, 6, 6, 6, 6, 6, 6, 6, 6, 6, 6, 6, 6, 6, 6, 6, 6, 6, 6, 6, 7, 7, 7, 7, 7, 7, 7, 7, 7, 7, 7, 7, 7, 7, 7, 7, 7, 7, 7, 7, 7, 7, 7, 7, 7, 7, 7, 7, 7, 7, 7, 7, 7, 7, 7, 7, 7, 7, 7, 7, 7, 7, 7, 7, 7, 7, 7, 7, 7, 7, 7, 7, 7, 7, 7, 7, 7, 7, 7, 7, 7, 7, 7, 7, 8, 8, 8, 8, 8, 8, 8, 8, 8, 8, 8, 8, 8, 8, 8, 8, 8, 8, 8, 8, 8, 8, 8, 8, 8, 8, 8, 8, 8, 8, 8, 8, 8, 8, 8, 8, 8, 8, 8, 8, 8, 8, 8, 8, 8, 8, 8, 8, 8, 8, 8, 8, 8, 8, 8, 8, 8, 8, 8, 8, 8, 8, 8, 8, 8, 8, 8, 8, 8, 8, 8, 8, 8, 8, 8, 8, 8, 8, 8, 8, 8, 8, 8, 8, 8, 8, 8, 8, 8, 8, 8, 8, 8, 8, 8, 8, 8, 8, 8, 8, 8, 8, 8, 8, 8, 8, 8, 8, 8, 8, 8, 8, 8, 8, 8, 8, 8, 8, 8, 8, 8, 8, 8, 8, 8, 8, 8, 8]⟩

def lenOk (x : Nat) : Bool := let w := tab.data.toList.getD x 0; decide (x < 2 ^ w.toNat) && decide (w.toNat ≤ 8) && (w.toNat != 0 || x == 0) && (w.toNat == 0 || decide (2 ^ (w.toNat - 1) ≤ x))
theorem tab_ok : (List.range 256).all lenOk = true := by decide +kernel

theorem tab_bt (x : Int) (h0 : 0 ≤ x) (h : x < 256) : ∃ w : Nat, bt tab x = w ∧ w ≤ 8 ∧ IsLen x w := by
  obtain ⟨n, rfl⟩ := Int.eq_ofNat_of_zero_le h0
  have hn : n < 256 := by omega
  have hlen : tab.data.toList.length = 256 := by decide +kernel
  have h1 := List.all_eq_true.1 tab_ok n (List.mem_range.2 hn)
  simp only [lenOk, Bool.and_eq_true, decide_eq_true_eq, Bool.or_eq_true, bne_iff_ne, beq_iff_eq] at h1
  have hb : bt tab n = ((tab.data.toList.getD n 0).toNat : Int) := by
    have hd : tab.data.size = 256 := by rw [← Array.length_toList]; exact hlen
    have hs : n < tab.size := by show n < tab.data.size; omega
    unfold bt
    simp only [Int.toNat_natCast]
    rw [dif_pos hs]
    congr 2
    rw [List.getD_eq_getElem?_getD, List.getElem?_eq_getElem (by omega)]
    rfl
  generalize hw : (tab.data.toList.getD n 0).toNat = w at *
  refine ⟨w, hb, h1.1.1.2, ?_, ?_, ?_⟩
  · exact_mod_cast h1.1.1.1
  · intro e; have := h1.1.2; omega
  · intro e
    rcases h1.2 with h2 | h2
    · omega
    · exact_mod_cast h2

theorem IsLen.up {x : Int} {k w : Nat} (hx : (2 : Int) ^ k ≤ x) (h : IsLen (x / 2 ^ k) w) : IsLen x (w + k) := by
  have hp : (0 : Int) < 2 ^ k := Int.pow_pos (by omega)
  have hq : 1 ≤ x / 2 ^ k := (Int.le_ediv_iff_mul_le hp).2 (by omega)
  have hw : 0 < w := by
    rcases Nat.eq_zero_or_pos w with e | e
    · have := h.2.1 e; omega
    · exact e
  refine ⟨?_, by omega, fun _ => ?_⟩
  · have := (Int.ediv_lt_iff_lt_mul hp).1 h.1
    rwa [Int.pow_add]
  · have := (Int.le_ediv_iff_mul_le hp).1 (h.2.2 hw)
    rw [show w + k - 1 = (w - 1) + k by omega, Int.pow_add]
    exact this

theorem pow_le_pow {a b : Nat} (h : a ≤ b) : (2 : Int) ^ a ≤ 2 ^ b := by
  have : (2 : Nat) ^ a ≤ 2 ^ b := Nat.pow_le_pow_right (by omega) h
  exact_mod_cast this
theorem IsLen.uniq {n : Int} {a b : Nat} (ha : IsLen n a) (hb : IsLen n b) : a = b := by
  rcases Nat.lt_trichotomy a b with h | h | h
  · have h1 := ha.1; have h2 := hb.2.2 (by omega); have h3 := pow_le_pow (show a ≤ b - 1 by omega); omega
  · exact h
  · have h1 := hb.1; have h2 := ha.2.2 (by omega); have h3 := pow_le_pow (show b ≤ a - 1 by omega); omega

theorem len64_eq (k : Nat) (x v : Int) : bits_Len64.j0 (k + 1) x v = if x ≥ 65536 then (if (x / 65536) ≥ 256 then (if 0 ≤ (((x / 65536) / 256) % 256) then (if (((x / 65536) / 256) % 256) < 256 then (some (wrap64 ((wrap64 ((wrap64 (v + 16)) + 8)) + (wrap64 (bt tab (((x / 65536) / 256) % 256)))))) else (none)) else (none)) else (if 0 ≤ ((x / 65536) % 256) then (if ((x / 65536) % 256) < 256 then (some (wrap64 ((wrap64 (v + 16)) + (wrap64 (bt tab ((x / 65536) % 256)))))) else (none)) else (none))) else (if x ≥ 256 then (if 0 ≤ ((x / 256) % 256) then (if ((x / 256) % 256) < 256 then (some (wrap64 ((wrap64 (v + 8)) + (wrap64 (bt tab ((x / 256) % 256)))))) else (none)) else (none)) else (if 0 ≤ ((x) % 256) then (if ((x) % 256) < 256 then (some (wrap64 (v + (wrap64 (bt tab ((x) % 256)))))) else (none)) else (none))) := rfl

theorem len64_j0 (x v : Int) (h0 : 0 ≤ x) (h : x < 4294967296) (hv : 0 ≤ v) (hv' : v ≤ 32) : ∃ w : Nat, (∀ k, bits_Len64.j0 (k + 1) x v = some (v + w)) ∧ w ≤ 32 ∧ IsLen x w := by
  by_cases c1 : x ≥ 65536
  · by_cases c2 : x / 65536 ≥ 256
    · obtain ⟨w, hb, hw, hl⟩ := tab_bt (x / 65536 / 256 % 256) (by omega) (by omega)
      have e : x / 65536 / 256 % 256 = x / 2 ^ 24 := by omega
      rw [e] at hl
      refine ⟨w + 24, fun k => ?_, by omega, IsLen.up (by omega) hl⟩
      rw [len64_eq, if_pos c1, if_pos c2, if_pos (by omega), if_pos (by omega)]
      rw [hb, wrap_in (w : Int) (by omega) (by omega), wrap_in (v + 16) (by omega) (by omega), wrap_in (v + 16 + 8) (by omega) (by omega), wrap_in _ (by omega) (by omega)]
      exact congrArg some (by omega)
    · obtain ⟨w, hb, hw, hl⟩ := tab_bt (x / 65536 % 256) (by omega) (by omega)
      have e : x / 65536 % 256 = x / 2 ^ 16 := by omega
      rw [e] at hl
      refine ⟨w + 16, fun k => ?_, by omega, IsLen.up (by omega) hl⟩
      rw [len64_eq, if_pos c1, if_neg c2, if_pos (by omega), if_pos (by omega)]
      rw [hb, wrap_in (w : Int) (by omega) (by omega), wrap_in (v + 16) (by omega) (by omega), wrap_in _ (by omega) (by omega)]
      exact congrArg some (by omega)
  · by_cases c2 : x ≥ 256
    · obtain ⟨w, hb, hw, hl⟩ := tab_bt (x / 256 % 256) (by omega) (by omega)
      have e : x / 256 % 256 = x / 2 ^ 8 := by omega
      rw [e] at hl
      refine ⟨w + 8, fun k => ?_, by omega, IsLen.up (by omega) hl⟩
      rw [len64_eq, if_neg c1, if_pos c2, if_pos (by omega), if_pos (by omega)]
      rw [hb, wrap_in (w : Int) (by omega) (by omega), wrap_in (v + 8) (by omega) (by omega), wrap_in _ (by omega) (by omega)]
      exact congrArg some (by omega)
    · obtain ⟨w, hb, hw, hl⟩ := tab_bt (x % 256) (by omega) (by omega)
      have e : x % 256 = x := by omega
      rw [e] at hl
      refine ⟨w, fun k => ?_, by omega, hl⟩
      rw [len64_eq, if_neg c1, if_neg c2, if_pos (by omega), if_pos (by omega)]
      rw [hb, wrap_in (w : Int) (by omega) (by omega), wrap_in _ (by omega) (by omega)]

/-- Width tells the fewest bits. -/
theorem width_ok (n : Int) (h0 : 0 ≤ n) (h : n ≤ 1000000000000000) : ∃ w : Nat, Ev (fun k => bits_Width.f k n) ((w : Int), 0) ∧ IsLen n w ∧ w ≤ 64 := by
  have hu := u64_in n h0 (by omega)
  by_cases c : n ≥ 4294967296
  · obtain ⟨w, hj, hw, hl⟩ := len64_j0 (n / 4294967296) 32 (by omega) (by omega) (by omega) (by omega)
    refine ⟨w + 32, ⟨1, fun k hk => ?_⟩, IsLen.up (k := 32) (by omega) (by simpa using hl), by omega⟩
    obtain ⟨m, rfl⟩ : ∃ m, k = m + 1 := ⟨k - 1, by omega⟩
    show bits_Width.f (m + 1) n = _
    unfold bits_Width.f bits_Len.f bits_Len64.f
    rw [if_neg (by omega), if_neg (by omega), hu, if_pos c, hj]
    simp [Int.add_comm]
  · obtain ⟨w, hj, hw, hl⟩ := len64_j0 n 0 (by omega) (by omega) (by omega) (by omega)
    refine ⟨w, ⟨1, fun k hk => ?_⟩, hl, by omega⟩
    obtain ⟨m, rfl⟩ : ∃ m, k = m + 1 := ⟨k - 1, by omega⟩
    show bits_Width.f (m + 1) n = _
    unfold bits_Width.f bits_Len.f bits_Len64.f
    rw [if_neg (by omega), if_neg (by omega), hu, if_neg c, hj]
    simp

/-- The lowest w bits of a number as digits, the highest first. -/
def bl (n : Int) : Nat → List Int
  | 0 => []
  | w + 1 => (48 + (n / 2 ^ w) % 2) :: bl n w
theorem bl_length (n : Int) (w : Nat) : (bl n w).length = w := by induction w <;> simp [bl, *]
theorem bl_get (n : Int) : ∀ (w i : Nat), i < w → (bl n w)[i]? = some (48 + (n / 2 ^ (w - 1 - i)) % 2)
  | 0, _, h => by omega
  | w + 1, 0, _ => by simp [bl]
  | w + 1, i + 1, h => by
    simp only [bl, List.getElem?_cons_succ]
    rw [bl_get n w i (by omega)]
    congr 5; omega

theorem and_one (x : Int) (h0 : 0 ≤ x) (h : x < 18446744073709551616) : Go.bits .and .u64 x 1 = x % 2 := and_one_u64 x h0 (by omega)

theorem shr_u64 (x : Int) (j : Nat) (hj : j ≤ 64) : shr .u64 x (j : Int) = x / 2 ^ j := by
  unfold shr
  simp only [Int.toNat_natCast, IntKind.bits]
  rw [Nat.min_eq_left hj]

theorem set_step {xs ys : List Int} {i : Nat} {v : Int} (hx : xs.take i = ys.take i) (hi : i < xs.length) (hv : ys[i]? = some v) : (xs.set i v).take (i + 1) = ys.take (i + 1) := by
  apply List.ext_getElem?
  intro j
  simp only [List.getElem?_take]
  by_cases hj : j < i + 1
  · simp only [hj, if_true]
    rcases Nat.lt_or_ge j i with h | h
    · rw [List.getElem?_set_ne (by omega)]
      have := congrArg (fun l => l[j]?) hx
      simpa [List.getElem?_take, h] using this
    · obtain rfl : j = i := by omega
      rw [List.getElem?_set_self hi, hv]
  · simp [hj]

theorem written_loop (n : Int) (h0 : 0 ≤ n) (hn : n < 18446744073709551616) (w : Nat) (hw : w ≤ 60) : ∀ (d i : Nat) (xs : List Int), xs.length = w → i + d = w → xs.take i = (bl n w).take i →
    ∀ k, d < k → bits_written.l0 k n w xs w i = some (strOfNums (bl n w))
  | 0, i, xs, hl, hd, ht, k, hk => by
    obtain ⟨k, rfl⟩ : ∃ m, k = m + 1 := ⟨k - 1, by omega⟩
    simp only [bits_written.l0]
    rw [if_neg (by omega)]
    have e1 : xs = bl n w := by
      have := ht
      rwa [List.take_of_length_le (by omega), List.take_of_length_le (by rw [bl_length]; omega)] at this
    rw [e1]
  | d + 1, i, xs, hl, hd, ht, k, hk => by
    obtain ⟨k, rfl⟩ : ∃ m, k = m + 1 := ⟨k - 1, by omega⟩
    simp only [bits_written.l0]
    have e1 : wrap64 ((w : Int) - 1) = w - 1 := wrap_in _ (by omega) (by omega)
    have e2 : wrap64 ((w : Int) - 1 - i) = ((w - 1 - i : Nat) : Int) := by rw [wrap_in _ (by omega) (by omega)]; omega
    have e3 : wrap64 ((i : Int) + 1) = ((i + 1 : Nat) : Int) := by rw [wrap_in _ (by omega) (by omega)]; omega
    have hq0 : 0 ≤ n / 2 ^ (w - 1 - i) := Int.ediv_nonneg h0 (Int.le_of_lt (Int.pow_pos (by omega)))
    have hq1 : n / 2 ^ (w - 1 - i) < 18446744073709551616 := Int.lt_of_le_of_lt (Int.ediv_le_self _ h0) hn
    rw [if_pos (by omega), e1, e2, if_pos (by omega), if_pos (by omega), if_pos (by omega), shr_u64 n _ (by omega), and_one _ hq0 hq1, e3, Int.toNat_natCast]
    have e4 : (48 + n / 2 ^ (w - 1 - i) % 2 % 256) % 256 = 48 + n / 2 ^ (w - 1 - i) % 2 := by omega
    rw [e4]
    exact written_loop n h0 hn w hw d (i + 1) _ (by simpa using hl) (by omega) (set_step ht (by omega) (bl_get n w i (by omega))) k (by omega)

theorem written_ok (n : Int) (h0 : 0 ≤ n) (hn : n < 18446744073709551616) (w : Nat) (hw : w ≤ 60) : Ev (fun k => bits_written.f k n w) (strOfNums (bl n w)) := by
  refine ⟨w + 1, fun k hk => ?_⟩
  show bits_written.f k n w = _
  unfold bits_written.f
  rw [if_pos (by omega), if_pos (by simp only [Int.toNat_natCast]; omega)]
  simp only [Option.bind_some, Int.toNat_natCast, List.length_replicate]
  exact written_loop n h0 hn w hw w 0 (List.replicate w 0) (by simp) (by omega) rfl k (by omega)

theorem shr_zero (n : Int) (w : Nat) (h0 : 0 ≤ n) (hw : w ≤ 60) : shr .i64 n w = 0 ↔ n < 2 ^ w := by
  unfold shr
  simp only [Int.toNat_natCast, IntKind.bits]
  rw [Nat.min_eq_left (by omega)]
  have hp : (0 : Int) < 2 ^ w := Int.pow_pos (by omega)
  constructor
  · intro h
    rcases Int.lt_or_le n (2 ^ w) with h1 | h1
    · exact h1
    · have := (Int.le_ediv_iff_mul_le hp).2 (show 1 * 2 ^ w ≤ n by omega); omega
  · intro h
    exact Int.ediv_eq_zero_of_lt h0 h

theorem put_ok (n : Int) (w : Nat) (h0 : 0 ≤ n) (hn : n ≤ 9223372036854775807) (hw : w ≤ 60) (h : n < 2 ^ w) : Ev (fun k => bits_Put.f k n w) (strOfNums (bl n w), 0) := by
  have hwr := written_ok n h0 (by omega) w hw
  have hu := u64_in n h0 (by omega)
  have hs := (shr_zero n w h0 hw).2 h
  refine Ev.congr (f := fun k => bits_Put.j0 k n w false) (fun k => ?_) (Ev.step (f := fun k => (bits_written.f k n w).bind fun t => some (t, 0)) (fun k => ?_) (Ev.bind hwr (Ev.now _)))
  · unfold bits_Put.f
    rw [if_neg (by omega), if_neg (by omega)]
    congr 1
    exact decide_eq_false (by omega)
  · simp only [bits_Put.j0, Bool.false_eq_true, if_false]
    rw [if_pos (by omega), if_pos hs, hu]

theorem put_no (n : Int) (w : Nat) (h0 : 0 ≤ n) (hw : w ≤ 60) (h : ¬ n < 2 ^ w) : Ev (fun k => bits_Put.f k n w) ((⟨#[]⟩ : ByteArray), 5) := by
  have hs := mt (shr_zero n w h0 hw).1 h
  refine Ev.congr (f := fun k => bits_Put.j0 k n w false) (fun k => ?_) (Ev.step (f := fun _ => some ((⟨#[]⟩ : ByteArray), 5)) (fun k => ?_) (Ev.now _))
  · unfold bits_Put.f
    rw [if_neg (by omega), if_neg (by omega)]
    congr 1
    exact decide_eq_false (by omega)
  · simp only [bits_Put.j0, Bool.false_eq_true, if_false]
    rw [if_pos (by omega), if_neg hs]

theorem sane_ok : Ev (fun k => heptadlaw01_sane.f k) true := Ev.of (g := fun k => heptadlaw01_sane.f k) heptadlaw01_sane.mono (k := 30) (by kernel_rfl)

/-! ### the reference's numbers -/
theorem power_loop (n : Nat) (hn : n ≤ 62) : ∀ (d i : Nat), i + d = n → ∀ k, d < k → heptadref01_Power.l0 k n (2 ^ i) i = some (2 ^ n)
  | 0, i, hd, k, hk => by
    obtain ⟨k, rfl⟩ : ∃ m, k = m + 1 := ⟨k - 1, by omega⟩
    obtain rfl : i = n := by omega
    simp only [heptadref01_Power.l0]
    rw [if_neg (by omega)]
  | d + 1, i, hd, k, hk => by
    obtain ⟨k, rfl⟩ : ∃ m, k = m + 1 := ⟨k - 1, by omega⟩
    simp only [heptadref01_Power.l0]
    have h1 : (2 : Int) ^ i * 2 = 2 ^ (i + 1) := by rw [Int.pow_succ]
    have h2 := pow_le_pow (show i + 1 ≤ 62 by omega)
    have h3 : (0 : Int) < 2 ^ (i + 1) := Int.pow_pos (by omega)
    rw [if_pos (by omega), h1, wrap_in _ (by omega) (by omega), show wrap64 ((i : Int) + 1) = ((i + 1 : Nat) : Int) by rw [wrap_in _ (by omega) (by omega)]; omega]
    exact power_loop n hn d (i + 1) (by omega) k (by omega)
theorem power_ok (n : Nat) (hn : n ≤ 62) : Ev (fun k => heptadref01_Power.f k n) (2 ^ n) :=
  ⟨n + 1, fun k hk => by
    show heptadref01_Power.f k n = _
    unfold heptadref01_Power.f
    exact power_loop n hn n 0 (by omega) k (by omega)⟩

theorem rwidth_loop (n : Int) (L : Nat) (h : IsLen n L) (hL : L ≤ 60) : ∀ (d w : Nat), w + d = L → Ev (fun k => heptadref01_width.l0 k n w) (L : Int)
  | d, w, hd => by
    refine Ev.step (f := fun k => (heptadref01_Power.f k (w : Int)).bind fun t126 => (if (wrap64 (t126 - 1)) < n then (heptadref01_width.l0 k n (wrap64 ((w : Int) + 1))) else (some (w : Int)))) (fun k => by simp only [heptadref01_width.l0]) ?_
    refine Ev.bind (power_ok w (by omega)) ?_
    have h2 := pow_le_pow (show w ≤ 60 by omega)
    have h3 : (0 : Int) < 2 ^ w := Int.pow_pos (by omega)
    rw [show wrap64 ((2 : Int) ^ w - 1) = 2 ^ w - 1 from wrap_in _ (by omega) (by omega), show wrap64 ((w : Int) + 1) = ((w + 1 : Nat) : Int) by rw [wrap_in _ (by omega) (by omega)]; omega]
    cases d with
    | zero =>
      obtain rfl : w = L := by omega
      have := h.1
      exact ⟨0, fun k _ => if_neg (by omega)⟩
    | succ d =>
      have h4 := h.2.2 (by omega)
      have h5 := pow_le_pow (show w ≤ L - 1 by omega)
      exact Ev.congr (fun k => if_pos (by omega)) (rwidth_loop n L h hL d (w + 1) (by omega))

theorem width_all (n : Int) : ∃ r, Ev (fun k => bits_Width.f k n) r ∧ Ev (fun k => heptadref01_Width.f k n) r := by
  by_cases c1 : n < 0
  · exact ⟨(0, 1), ⟨0, fun k _ => by simp only [bits_Width.f, c1, if_true]⟩, ⟨0, fun k _ => by simp only [heptadref01_Width.f, c1, if_true]⟩⟩
  by_cases c2 : n > 1000000000000000
  · exact ⟨(0, 1), ⟨0, fun k _ => by simp only [bits_Width.f, c1, if_false, c2, if_true]⟩, ⟨0, fun k _ => by simp only [heptadref01_Width.f, c1, if_false, c2, if_true]⟩⟩
  obtain ⟨w, hw, hl, h64⟩ := width_ok n (by omega) (by omega)
  have h60 : w ≤ 60 := by
    rcases Nat.lt_or_ge 60 w with h | h
    · have h1 := hl.2.2 (by omega); have h2 := pow_le_pow (show 60 ≤ w - 1 by omega); omega
    · exact h
  refine ⟨_, hw, Ev.congr (f := fun k => (heptadref01_width.f k n).bind fun t127 => some (t127, 0)) (fun k => by simp only [heptadref01_Width.f, c1, if_false, c2]) ?_⟩
  refine Ev.bind (a := (w : Int)) ?_ (Ev.now _)
  exact rwidth_loop n w hl h60 w 0 (by omega)

/-! ### digits -/
theorem str_cons (a : Int) (l : List Int) : strOfNums (a :: l) = (⟨#[UInt8.ofNat a.toNat]⟩ : ByteArray) ++ strOfNums l := by
  apply ByteArray.ext
  simp [strOfNums, ByteArray.data_append]
theorem str_size (l : List Int) : (strOfNums l).size = l.length := by
  show (strOfNums l).data.size = _
  simp [strOfNums]

theorem half_pow (n : Int) (i : Nat) : n / 2 ^ i / 2 = n / 2 ^ (i + 1) := by
  rw [Int.ediv_ediv_of_nonneg (Int.le_of_lt (Int.pow_pos (by omega))), Int.pow_succ]

theorem digits_loop (n : Int) (h0 : 0 ≤ n) (hn : n ≤ 9223372036854775807) (w : Nat) (hw : w ≤ 60) : ∀ (d i : Nat), i + d = w → ∀ k, d < k →
    heptadref01_digits.l0 k (n / 2 ^ i) w (strOfNums (bl n i)) i = some (strOfNums (bl n w))
  | 0, i, hd, k, hk => by
    obtain ⟨k, rfl⟩ : ∃ m, k = m + 1 := ⟨k - 1, by omega⟩
    obtain rfl : i = w := by omega
    simp only [heptadref01_digits.l0]
    rw [if_neg (by omega)]
  | d + 1, i, hd, k, hk => by
    obtain ⟨k, rfl⟩ : ∃ m, k = m + 1 := ⟨k - 1, by omega⟩
    have hp : (0 : Int) < 2 ^ i := Int.pow_pos (by omega)
    have hq0 : 0 ≤ n / 2 ^ i := Int.ediv_nonneg h0 (Int.le_of_lt hp)
    have hq1 : n / 2 ^ i ≤ n := Int.ediv_le_self _ h0
    have hs := str_size (bl n i)
    rw [bl_length] at hs
    have e1 : Int.tmod (n / 2 ^ i) 2 = n / 2 ^ i % 2 := Int.tmod_eq_emod_of_nonneg hq0
    have e2 : Int.tdiv (n / 2 ^ i) 2 = n / 2 ^ (i + 1) := by rw [Int.tdiv_eq_ediv_of_nonneg hq0, half_pow]
    have hr0 : 0 ≤ n / 2 ^ (i + 1) := Int.ediv_nonneg h0 (Int.le_of_lt (Int.pow_pos (by omega)))
    have hr1 : n / 2 ^ (i + 1) ≤ n := Int.ediv_le_self _ h0
    have ih := digits_loop n h0 hn w hw d (i + 1) (by omega) k (by omega)
    simp only [heptadref01_digits.l0]
    rw [if_pos (by omega), e1, e2, wrap_in _ (by omega) (by omega), show wrap64 ((i : Int) + 1) = ((i + 1 : Nat) : Int) by rw [wrap_in _ (by omega) (by omega)]; omega]
    simp only [bl, str_cons] at ih
    by_cases c : n / 2 ^ i % 2 = 1
    · rw [if_pos c, if_pos (by omega)]
      rw [c] at ih
      exact ih
    · have c0 : n / 2 ^ i % 2 = 0 := by omega
      rw [if_neg c, if_pos (by omega)]
      rw [c0] at ih
      exact ih
theorem digits_ok (n : Int) (h0 : 0 ≤ n) (hn : n ≤ 9223372036854775807) (w : Nat) (hw : w ≤ 60) : Ev (fun k => heptadref01_digits.f k n w) (strOfNums (bl n w)) :=
  ⟨w + 1, fun k hk => by
    show heptadref01_digits.f k n w = _
    unfold heptadref01_digits.f
    have := digits_loop n h0 hn w hw w 0 (by omega) k (by omega)
    simpa [bl, strOfNums] using this⟩

theorem put_all (n v : Int) (hn : n ≤ 9223372036854775807) : ∃ r, Ev (fun k => bits_Put.f k n v) r ∧ Ev (fun k => heptadref01_Put.f k n v) r := by
  have no1 : Ev (fun k => bits_Put.j0 k n v true) ((⟨#[]⟩ : ByteArray), 1) := Ev.step (f := fun _ => some ((⟨#[]⟩ : ByteArray), 1)) (fun k => by simp only [bits_Put.j0, if_true]) (Ev.now _)
  have no2 : Ev (fun k => heptadref01_Put.j0 k n v true) ((⟨#[]⟩ : ByteArray), 1) := Ev.step (f := fun _ => some ((⟨#[]⟩ : ByteArray), 1)) (fun k => by simp only [heptadref01_Put.j0, if_true]) (Ev.now _)
  by_cases c1 : n < 0
  · exact ⟨_, Ev.congr (fun k => by simp only [bits_Put.f, c1, if_true]) no1, Ev.congr (fun k => by simp only [heptadref01_Put.f, c1, if_true]) no2⟩
  by_cases c2 : v < 0
  · exact ⟨_, Ev.congr (fun k => by simp only [bits_Put.f, c1, if_false, c2, if_true]) no1, Ev.congr (fun k => by simp only [heptadref01_Put.f, c1, if_false, c2, if_true]) no2⟩
  by_cases c3 : v > 60
  · exact ⟨_, Ev.congr (fun k => by simp only [bits_Put.f, c1, if_false, c2, c3, decide_true]) no1, Ev.congr (fun k => by simp only [heptadref01_Put.f, c1, if_false, c2, c3, decide_true]) no2⟩
  obtain ⟨w, rfl⟩ := Int.eq_ofNat_of_zero_le (show 0 ≤ v by omega)
  have hp := power_ok w (by omega)
  have st : ∀ k, heptadref01_Put.f k n w = heptadref01_Put.j0 k n w false := fun k => by simp only [heptadref01_Put.f, c1, if_false, c2, c3, decide_false]
  have st2 : ∀ k, heptadref01_Put.j0 (k + 1) n w false = ((heptadref01_Power.f k w).bind fun t128 => (if n ≥ t128 then (some ((⟨#[]⟩ : ByteArray), 5)) else ((heptadref01_digits.f k n w).bind fun t129 => (some (t129, 0))))) := fun k => by simp only [heptadref01_Put.j0, Bool.false_eq_true, if_false]
  by_cases c4 : n < 2 ^ w
  · refine ⟨_, put_ok n w (by omega) hn (by omega) c4, Ev.congr st (Ev.step st2 (Ev.bind hp ?_))⟩
    exact Ev.congr (fun k => if_neg (by omega)) (Ev.bind (digits_ok n (by omega) hn w (by omega)) (Ev.now _))
  · refine ⟨_, put_no n w (by omega) (by omega) c4, Ev.congr st (Ev.step st2 (Ev.bind hp ?_))⟩
    exact ⟨0, fun k _ => if_pos (by omega)⟩

/-! ### two's complement -/
theorem bl_add (n : Int) (m : Nat) : ∀ w, w ≤ m → bl (n + 2 ^ m) w = bl n w
  | 0, _ => rfl
  | w + 1, h => by
    simp only [bl]
    rw [bl_add n m w (by omega)]
    have hp : (2 : Int) ^ w ≠ 0 := Int.ne_of_gt (Int.pow_pos (by omega))
    have e : (2 : Int) ^ m = 2 * 2 ^ (m - w - 1) * 2 ^ w := by
      rw [show m = (m - w - 1) + w + 1 by omega, Int.pow_succ, Int.pow_add, show m - w - 1 + w + 1 - w - 1 = m - w - 1 by omega]
      rw [Int.mul_comm, Int.mul_assoc]
    rw [e, Int.add_mul_ediv_right _ _ hp]
    congr 2
    omega

theorem u64_neg (n : Int) (h : n < 0) (h' : -9223372036854775808 ≤ n) : IntKind.u64.wrap n = n + 2 ^ 64 := by
  show (let m := n % (2 ^ 64 : Int); if (false && decide (m ≥ (2 ^ 63 : Int))) = true then m - (2 ^ 64 : Int) else m) = n + 2 ^ 64
  simp only [Bool.false_and, Bool.false_eq_true, if_false]
  omega

theorem shl_one (j : Nat) (hj : j ≤ 60) : shl .i64 1 (j : Int) = 2 ^ j := by
  unfold shl
  simp only [Int.toNat_natCast, IntKind.bits]
  rw [Nat.min_eq_left (by omega), Int.one_mul, IntWalk.i64_left]
  have h2 := pow_le_pow hj
  have h3 : (0 : Int) < 2 ^ j := Int.pow_pos (by omega)
  exact wrap_in _ (by omega) (by omega)

theorem signed_yes (n : Int) (w : Nat) (h1 : 1 ≤ w) (hw : w ≤ 60) (hlo : -(2 ^ (w - 1)) ≤ n) (hhi : n < 2 ^ (w - 1)) : Ev (fun k => heptadref01_Signed.f k n w) (strOfNums (bl n w), 0) := by
  have e1 : wrap64 ((w : Int) - 1) = ((w - 1 : Nat) : Int) := by rw [wrap_in _ (by omega) (by omega)]; omega
  have h2 := pow_le_pow (show w - 1 ≤ 59 by omega)
  have h3 : (0 : Int) < 2 ^ (w - 1) := Int.pow_pos (by omega)
  have e2 : wrap64 (-(2 ^ (w - 1))) = -(2 ^ (w - 1)) := wrap_in _ (by omega) (by omega)
  have e3 : (2 : Int) ^ w = 2 * 2 ^ (w - 1) := by
    rw [show w = w - 1 + 1 by omega, Int.pow_succ, Nat.add_sub_cancel, Int.mul_comm]
  have st : ∀ k, heptadref01_Signed.f k n w = heptadref01_Signed.j0 k n w false := fun k => by
    unfold heptadref01_Signed.f
    rw [if_neg (by omega)]
    congr 1
    exact decide_eq_false (by omega)
  refine Ev.congr st (Ev.step (f := fun k => (heptadref01_Power.f k (wrap64 ((w : Int) - 1))).bind fun t131 => (if n < (wrap64 (-t131)) then (heptadref01_Signed.j1 k n w t131 true) else (heptadref01_Signed.j1 k n w t131 (decide (n ≥ t131))))) (fun k => by simp only [heptadref01_Signed.j0, Bool.false_eq_true, if_false]) ?_)
  rw [e1]
  refine Ev.bind (power_ok (w - 1) (by omega)) ?_
  rw [e2, show decide (n ≥ 2 ^ (w - 1)) = false from decide_eq_false (by omega)]
  refine Ev.congr (fun k => if_neg (by omega)) (Ev.step (f := fun k => if n < 0 then ((heptadref01_digits.f k (wrap64 (n + (wrap64 (2 * 2 ^ (w - 1))))) w).bind fun t132 => (some (t132, 0))) else ((heptadref01_digits.f k n w).bind fun t133 => (some (t133, 0)))) (fun k => by simp only [heptadref01_Signed.j1, Bool.false_eq_true, if_false]) ?_)
  by_cases c : n < 0
  · have e4 : wrap64 (n + wrap64 (2 * 2 ^ (w - 1))) = n + 2 ^ w := by rw [wrap_in (2 * 2 ^ (w - 1)) (by omega) (by omega), wrap_in _ (by omega) (by omega), e3]
    rw [e4]
    refine Ev.congr (fun k => if_pos c) ?_
    have := digits_ok (n + 2 ^ w) (by omega) (by omega) w hw
    rw [bl_add n w w (Nat.le_refl _)] at this
    exact Ev.bind this (Ev.now _)
  · refine Ev.congr (fun k => if_neg c) ?_
    exact Ev.bind (digits_ok n (by omega) (by omega) w hw) (Ev.now _)

theorem signed_all (n v : Int) (hn0 : -9223372036854775808 ≤ n) (hn : n ≤ 9223372036854775807) : ∃ r, Ev (fun k => bits_Signed.f k n v) r ∧ Ev (fun k => heptadref01_Signed.f k n v) r := by
  have no1 : Ev (fun k => bits_Signed.j0 k n v true) ((⟨#[]⟩ : ByteArray), 1) := Ev.step (f := fun _ => some ((⟨#[]⟩ : ByteArray), 1)) (fun k => by simp only [bits_Signed.j0, if_true]) (Ev.now _)
  have no2 : Ev (fun k => heptadref01_Signed.j0 k n v true) ((⟨#[]⟩ : ByteArray), 1) := Ev.step (f := fun _ => some ((⟨#[]⟩ : ByteArray), 1)) (fun k => by simp only [heptadref01_Signed.j0, if_true]) (Ev.now _)
  by_cases c2 : v < 1
  · exact ⟨_, Ev.congr (fun k => by simp only [bits_Signed.f, c2, if_true]) no1, Ev.congr (fun k => by simp only [heptadref01_Signed.f, c2, if_true]) no2⟩
  by_cases c3 : v > 60
  · exact ⟨_, Ev.congr (fun k => by simp only [bits_Signed.f, if_false, c2, c3, decide_true]) no1, Ev.congr (fun k => by simp only [heptadref01_Signed.f, if_false, c2, c3, decide_true]) no2⟩
  obtain ⟨w, rfl⟩ := Int.eq_ofNat_of_zero_le (show 0 ≤ v by omega)
  have e1 : wrap64 ((w : Int) - 1) = ((w - 1 : Nat) : Int) := by rw [wrap_in _ (by omega) (by omega)]; omega
  have h2 := pow_le_pow (show w - 1 ≤ 59 by omega)
  have h3 : (0 : Int) < 2 ^ (w - 1) := Int.pow_pos (by omega)
  have e2 : wrap64 (-(2 ^ (w - 1))) = -(2 ^ (w - 1)) := wrap_in _ (by omega) (by omega)
  have st : ∀ k, bits_Signed.f k n w = bits_Signed.j0 k n w false := fun k => by simp only [bits_Signed.f, if_false, c2, c3, decide_false]
  have st2 : ∀ k, bits_Signed.j0 (k + 1) n w false = (if 0 ≤ (((w - 1 : Nat) : Int)) then (if n < -(2 ^ (w - 1)) then (some ((⟨#[]⟩ : ByteArray), 5)) else (if n ≥ 2 ^ (w - 1) then (some ((⟨#[]⟩ : ByteArray), 5)) else ((bits_written.f k (IntKind.u64.wrap (n)) w).bind fun t130 => (some (t130, 0))))) else (none)) := fun k => by
    simp only [bits_Signed.j0, Bool.false_eq_true, if_false, e1, shl_one (w - 1) (by omega), e2]
  have sr : ∀ k, heptadref01_Signed.f k n w = heptadref01_Signed.j0 k n w false := fun k => by simp only [heptadref01_Signed.f, if_false, c2, c3, decide_false]
  have sr2 : ∀ k, heptadref01_Signed.j0 (k + 1) n w false = ((heptadref01_Power.f k ((w - 1 : Nat) : Int)).bind fun t131 => (if n < (wrap64 (-t131)) then (heptadref01_Signed.j1 k n w t131 true) else (heptadref01_Signed.j1 k n w t131 (decide (n ≥ t131))))) := fun k => by simp only [heptadref01_Signed.j0, Bool.false_eq_true, if_false, e1]
  have no3 : Ev (fun k => heptadref01_Signed.j1 k n w (2 ^ (w - 1)) true) ((⟨#[]⟩ : ByteArray), 5) := Ev.step (f := fun _ => some ((⟨#[]⟩ : ByteArray), 5)) (fun k => by simp only [heptadref01_Signed.j1, if_true]) (Ev.now _)
  by_cases c4 : n < -(2 ^ (w - 1))
  · refine ⟨((⟨#[]⟩ : ByteArray), 5), Ev.congr st (Ev.step st2 ⟨0, fun k _ => ?_⟩), Ev.congr sr (Ev.step sr2 (Ev.bind (power_ok (w - 1) (by omega)) ?_))⟩
    · show (if _ then _ else _) = _
      rw [if_pos (by omega), if_pos c4]
    · rw [e2]
      exact Ev.congr (fun k => if_pos c4) no3
  by_cases c5 : n ≥ 2 ^ (w - 1)
  · refine ⟨((⟨#[]⟩ : ByteArray), 5), Ev.congr st (Ev.step st2 ⟨0, fun k _ => ?_⟩), Ev.congr sr (Ev.step sr2 (Ev.bind (power_ok (w - 1) (by omega)) ?_))⟩
    · show (if _ then _ else _) = _
      rw [if_pos (by omega), if_neg c4, if_pos c5]
    · rw [e2, show decide (n ≥ 2 ^ (w - 1)) = true from decide_eq_true c5]
      exact Ev.congr (fun k => if_neg c4) no3
  refine ⟨_, Ev.congr st (Ev.step st2 ?_), signed_yes n w (by omega) (by omega) (by omega) (by omega)⟩
  refine Ev.congr (f := fun k => (bits_written.f k (IntKind.u64.wrap (n)) w).bind fun t130 => (some (t130, 0))) (fun k => by rw [if_pos (by omega), if_neg c4, if_neg c5]) (Ev.bind (a := strOfNums (bl n w)) ?_ (Ev.now _))
  by_cases c : n < 0
  · rw [u64_neg n c hn0]
    have := written_ok (n + 2 ^ 64) (by omega) (by omega) w (by omega)
    rwa [bl_add n 64 w (by omega)] at this
  · rw [u64_in n (by omega) (by omega)]
    exact written_ok n (by omega) (by omega) w (by omega)

/-! ### octets -/
/-- Bytes, the lowest first; the highest first. -/
def le (n : Int) : Nat → List Int
  | 0 => []
  | k + 1 => le n k ++ [(n / 2 ^ (8 * k)) % 256]
def be (n : Int) : Nat → List Int
  | 0 => []
  | k + 1 => ((n / 2 ^ (8 * k)) % 256) :: be n k
theorem le_rev (n : Int) : ∀ k, (le n k).reverse = be n k
  | 0 => rfl
  | k + 1 => by simp [le, be, le_rev n k]
theorem le_length (n : Int) (k : Nat) : (le n k).length = k := by induction k <;> simp [le, *]
theorem be_length (n : Int) (k : Nat) : (be n k).length = k := by rw [← le_rev, List.length_reverse, le_length]
theorem be_get (n : Int) : ∀ (K m : Nat), m < K → (be n K)[m]? = some ((n / 2 ^ (8 * (K - 1 - m))) % 256)
  | 0, _, h => by omega
  | K + 1, 0, _ => by simp [be]
  | K + 1, m + 1, h => by
    simp only [be, List.getElem?_cons_succ]
    rw [be_get n K m (by omega), show K + 1 - 1 - (m + 1) = K - 1 - m by omega]

/-- Two fingers turn a list round. -/
def turned (l : List Int) (i j : Nat) (z : List Int) : Prop := z.length = l.length ∧ ∀ t, t < l.length → z[t]? = if t < i ∨ j < t then l[l.length - 1 - t]? else l[t]?
theorem turn_loop (l : List Int) (hl : l.length ≤ 100) : ∀ (d i j : Nat) (z : List Int), i + j + 1 = l.length → j ≤ i + d → turned l i j z → ∀ k, d < k →
    bits_Octets.l1 k z i j = some (strOfNums l.reverse, 0)
  | d, i, j, z, hs, hd, hz, k, hk => by
    obtain ⟨k, rfl⟩ : ∃ m, k = m + 1 := ⟨k - 1, by omega⟩
    simp only [bits_Octets.l1]
    by_cases c : i < j
    · obtain ⟨zl, zg⟩ := hz
      have gi : rd z (i : Int) = l.getD i 0 := by
        have := zg i (by omega)
        rw [if_neg (by omega)] at this
        simp [rd, List.getD, this]
      have gj : rd z (j : Int) = l.getD j 0 := by
        have := zg j (by omega)
        rw [if_neg (by omega)] at this
        simp [rd, List.getD, this]
      rw [if_pos (by omega), if_pos (by omega), if_pos (by omega), if_pos (by omega), if_pos (by omega), gi, gj, show wrap64 ((i : Int) + 1) = ((i + 1 : Nat) : Int) by rw [wrap_in _ (by omega) (by omega)]; omega, show wrap64 ((j : Int) - 1) = ((j - 1 : Nat) : Int) by rw [wrap_in _ (by omega) (by omega)]; omega]
      cases d with
      | zero => omega
      | succ d =>
        refine turn_loop l hl d (i + 1) (j - 1) _ (by omega) (by omega) ⟨by simp [zl], fun t ht => ?_⟩ k (by omega)
        simp only [Int.toNat_natCast]
        by_cases e1 : t = j
        · subst e1
          rw [List.getElem?_set_self (by simp; omega), if_pos (by omega), show l.length - 1 - t = i by omega]
          simp [List.getD, List.getElem?_eq_getElem (show i < l.length by omega)]
        · rw [List.getElem?_set_ne (by omega)]
          by_cases e2 : t = i
          · subst e2
            rw [List.getElem?_set_self (by omega), if_pos (by omega), show l.length - 1 - t = j by omega]
            simp [List.getD, List.getElem?_eq_getElem (show j < l.length by omega)]
          · rw [List.getElem?_set_ne (by omega), zg t ht]
            by_cases e3 : t < i ∨ j < t
            · rw [if_pos e3, if_pos (by omega)]
            · rw [if_neg e3, if_neg (by omega)]
    · rw [if_neg (by omega)]
      obtain ⟨zl, zg⟩ := hz
      have : z = l.reverse := by
        apply List.ext_getElem?
        intro t
        by_cases ht : t < l.length
        · rw [List.getElem?_reverse ht, zg t ht]
          split
          · rfl
          · congr 1; omega
        · rw [List.getElem?_eq_none (by omega), List.getElem?_eq_none (by simp; omega)]
      rw [this]

theorem turn_ok (l : List Int) (h1 : 1 ≤ l.length) (hl : l.length ≤ 100) : Ev (fun k => bits_Octets.j2 k l) (strOfNums l.reverse, 0) := by
  refine Ev.step (f := fun k => bits_Octets.l1 k l 0 (wrap64 ((l.length : Int) - 1))) (fun k => by simp only [bits_Octets.j2]) ⟨l.length + 1, fun k hk => ?_⟩
  show bits_Octets.l1 k l 0 (wrap64 ((l.length : Int) - 1)) = _
  rw [show wrap64 ((l.length : Int) - 1) = ((l.length - 1 : Nat) : Int) by rw [wrap_in _ (by omega) (by omega)]; omega]
  exact turn_loop l hl l.length 0 (l.length - 1) l (by omega) (by omega) ⟨rfl, fun t ht => by rw [if_neg (by omega)]⟩ k (by omega)

/-- It fits into k bytes, and into no fewer. -/
def Fits (n : Int) (k : Nat) : Prop := -(2 ^ (8 * k - 1)) ≤ n ∧ n < 2 ^ (8 * k - 1)
def Least (n : Int) (k : Nat) : Prop := 1 ≤ k ∧ Fits n k ∧ ∀ j, 1 ≤ j → j < k → ¬ Fits n j

theorem fits_iff (n : Int) (k : Nat) (_ : 1 ≤ k) : Fits n k ↔ (n / 2 ^ (8 * k - 1) = 0 ∨ n / 2 ^ (8 * k - 1) = -1) := by
  have hp : (0 : Int) < 2 ^ (8 * k - 1) := Int.pow_pos (by omega)
  unfold Fits
  generalize (2 : Int) ^ (8 * k - 1) = M at *
  constructor
  · intro ⟨h1, h2⟩
    have a1 : -1 ≤ n / M := (Int.le_ediv_iff_mul_le hp).2 (by omega)
    have a2 : n / M < 1 := (Int.ediv_lt_iff_lt_mul hp).2 (by omega)
    omega
  · intro h
    have a1 : -1 * M ≤ n := (Int.le_ediv_iff_mul_le hp).1 (by omega)
    have a2 : n < 1 * M := (Int.ediv_lt_iff_lt_mul hp).1 (by omega)
    omega

theorem oct_loop (n : Int) (K : Nat) (hK : Least n K) (h7 : K ≤ 7) : ∀ (d j : Nat), 1 ≤ j → j + d = K → Ev (fun k => bits_Octets.l0 k (le n j) (n / 2 ^ (8 * j - 1))) (strOfNums (be n K), 0)
  | d, j, h1, hd => by
    have hlen := le_length n j
    refine Ev.step (f := fun k => if (n / 2 ^ (8 * j - 1)) = 0 then (bits_Octets.j2 k (le n j)) else (if (n / 2 ^ (8 * j - 1)) = (-1) then (bits_Octets.j2 k (le n j)) else (if (le n j).length < 140737488355328 then (bits_Octets.l0 k (le n j ++ [((n / 2 ^ (8 * j - 1)) / 2) % 256]) ((n / 2 ^ (8 * j - 1)) / 256)) else (none)))) (fun k => by simp only [bits_Octets.l0]) ?_
    cases d with
    | zero =>
      obtain rfl : j = K := by omega
      have ht := turn_ok (le n j) (by omega) (by omega)
      rw [le_rev] at ht
      rcases (fits_iff n j h1).1 hK.2.1 with h | h
      · exact Ev.congr (fun k => if_pos h) ht
      · exact Ev.congr (fun k => by rw [if_neg (by omega), if_pos h]) ht
    | succ d =>
      have hno := mt (fits_iff n j h1).2 (hK.2.2 j h1 (by omega))
      have e1 : n / 2 ^ (8 * j - 1) / 2 = n / 2 ^ (8 * j) := by rw [half_pow, show 8 * j - 1 + 1 = 8 * j by omega]
      have e2 : n / 2 ^ (8 * j - 1) / 256 = n / 2 ^ (8 * (j + 1) - 1) := by
        rw [show (256 : Int) = 2 ^ 8 by decide, Int.ediv_ediv_of_nonneg (Int.le_of_lt (Int.pow_pos (by omega))), ← Int.pow_add, show 8 * j - 1 + 8 = 8 * (j + 1) - 1 by omega]
      refine Ev.congr (fun k => by rw [if_neg (fun e => hno (.inl e)), if_neg (fun e => hno (.inr e)), if_pos (by omega), e1, e2]; rfl) (oct_loop n K hK h7 d (j + 1) (by omega) (by omega))

theorem least_ex (n : Int) (h0 : -1000000000000000 ≤ n) (h : n ≤ 1000000000000000) : ∃ K, Least n K ∧ K ≤ 7 := by
  have hf : ∀ k, Fits n k ↔ (-(2 ^ (8 * k - 1)) ≤ n ∧ n < 2 ^ (8 * k - 1)) := fun k => Iff.rfl
  have up : ∀ k, (∀ j, 1 ≤ j → j < k → ¬ Fits n j) → Fits n k → 1 ≤ k → k ≤ 7 → ∃ K, Least n K ∧ K ≤ 7 := fun k a b c d => ⟨k, ⟨c, b, a⟩, d⟩
  have f7 : Fits n 7 := by rw [hf]; constructor <;> (simp only [show 8 * 7 - 1 = 55 from rfl]; omega)
  have ex : ∀ (m : Nat), 1 ≤ m → m ≤ 7 → (∀ j, 1 ≤ j → j < m → ¬ Fits n j) → ∃ K, Least n K ∧ K ≤ 7 := by
    intro m h1 hm
    induction hd : 7 - m generalizing m with
    | zero =>
      intro hno
      obtain rfl : m = 7 := by omega
      exact up 7 hno f7 (by omega) (by omega)
    | succ d ih =>
      intro hno
      by_cases c : Fits n m
      · exact up m hno c h1 hm
      · exact ih (m + 1) (by omega) (by omega) (by omega) (fun j a b => by
          rcases Nat.lt_or_ge j m with hj | hj
          · exact hno j a hj
          · obtain rfl : j = m := by omega
            exact c)
  exact ex 1 (by omega) (by omega) (fun j a b => by omega)

/-! ### pack -/
theorem bit_fold (y : Int) (t : Nat) (ht : t < 8) : 2 * ((y / 2) % 2 ^ t) + y % 2 = y % 2 ^ (t + 1) := by
  rcases t with _ | _ | _ | _ | _ | _ | _ | _ | t
  all_goals first | (simp only [Int.reducePow, Nat.reduceAdd]; omega) | omega

theorem bt_str (l : List Int) (i : Nat) (h : i < l.length) (hb : 0 ≤ l.getD i 0 ∧ l.getD i 0 < 256) : bt (strOfNums l) (i : Int) = l.getD i 0 := by
  unfold bt
  have hs := str_size l
  rw [dif_pos (by simp only [Int.toNat_natCast]; omega)]
  have e : (strOfNums l)[(i : Int).toNat]'(by simp only [Int.toNat_natCast]; omega) = UInt8.ofNat (l.getD i 0).toNat := by
    simp only [Int.toNat_natCast]
    show (strOfNums l).data[i]'_ = _
    simp [strOfNums, List.getD, List.getElem?_eq_getElem h]
  rw [e]
  simp only [UInt8.toNat_ofNat']
  omega

theorem pack_in (n : Int) (K : Nat) (hK : K ≤ 7) (m : Nat) (hm : m < K) (xs : List Int) (hxs : xs.length ≤ 100) : ∀ (d t : Nat), t + d = 8 → ∀ (r : ByteArray),
    Ev (fun k => heptadref01_pack.l0 k (strOfNums (bl n (8 * K))) (xs ++ [(n / 2 ^ (8 * (K - 1 - m))) % 256]) ((8 * (m + 1) : Nat) : Int)) r →
    Ev (fun k => heptadref01_pack.l1 k (strOfNums (bl n (8 * K))) xs ((8 * m : Nat) : Int) ((n / 2 ^ (8 * K - 8 * m - t)) % 2 ^ t) ((8 * m + t : Nat) : Int)) r
  | 0, t, hd, r, hr => by
    obtain rfl : t = 8 := by omega
    refine Ev.step (f := fun k => heptadref01_pack.l0 k (strOfNums (bl n (8 * K))) (xs ++ [(n / 2 ^ (8 * (K - 1 - m))) % 256]) ((8 * (m + 1) : Nat) : Int)) (fun k => ?_) hr
    simp only [heptadref01_pack.l1]
    rw [show wrap64 (((8 * m : Nat) : Int) + 8) = ((8 * (m + 1) : Nat) : Int) by rw [wrap_in _ (by omega) (by omega)]; omega, if_neg (by omega), if_pos (by omega), show 8 * K - 8 * m - 8 = 8 * (K - 1 - m) by omega]
    congr 3
    simp only [Int.reducePow]
    omega
  | d + 1, t, hd, r, hr => by
    have ih := pack_in n K hK m hm xs hxs d (t + 1) (by omega) r hr
    have hl := bl_length n (8 * K)
    have hs := str_size (bl n (8 * K))
    have g := bl_get n (8 * K) (8 * m + t) (by omega)
    have gd : (bl n (8 * K)).getD (8 * m + t) 0 = 48 + n / 2 ^ (8 * K - 8 * m - (t + 1)) % 2 := by
      rw [List.getD_eq_getElem?_getD, g, Option.getD_some, show 8 * K - 1 - (8 * m + t) = 8 * K - 8 * m - (t + 1) by omega]
    have hbt := bt_str (bl n (8 * K)) (8 * m + t) (by omega) (by rw [gd]; omega)
    rw [gd] at hbt
    have hy : n / 2 ^ (8 * K - 8 * m - t) = n / 2 ^ (8 * K - 8 * m - (t + 1)) / 2 := by rw [half_pow, show 8 * K - 8 * m - (t + 1) + 1 = 8 * K - 8 * m - t by omega]
    have hf := bit_fold (n / 2 ^ (8 * K - 8 * m - (t + 1))) t (by omega)
    rw [← hy] at hf
    have hp : (0 : Int) < 2 ^ t := Int.pow_pos (by omega)
    have hp2 := pow_le_pow (show t ≤ 8 by omega)
    have b0 := Int.emod_nonneg (n / 2 ^ (8 * K - 8 * m - t)) (Int.ne_of_gt hp)
    have b1 := Int.emod_lt_of_pos (n / 2 ^ (8 * K - 8 * m - t)) hp
    refine Ev.step (f := fun k => heptadref01_pack.l1 k (strOfNums (bl n (8 * K))) xs ((8 * m : Nat) : Int) ((n / 2 ^ (8 * K - 8 * m - (t + 1))) % 2 ^ (t + 1)) ((8 * m + (t + 1) : Nat) : Int)) (fun k => ?_) ih
    simp only [heptadref01_pack.l1]
    rw [show wrap64 (((8 * m : Nat) : Int) + 8) = ((8 * (m + 1) : Nat) : Int) by rw [wrap_in _ (by omega) (by omega)]; omega, if_pos (by omega), if_pos (by omega), if_pos (by omega), hbt,
      show wrap64 (((8 * m + t : Nat) : Int) + 1) = ((8 * m + (t + 1) : Nat) : Int) by rw [wrap_in _ (by omega) (by omega)]; omega, wrap_in (2 * (n / 2 ^ (8 * K - 8 * m - t) % 2 ^ t)) (by omega) (by omega), wrap_in (2 * (n / 2 ^ (8 * K - 8 * m - t) % 2 ^ t) + 1) (by omega) (by omega)]
    by_cases c : 48 + n / 2 ^ (8 * K - 8 * m - (t + 1)) % 2 = 49
    · rw [if_pos c]
      congr 1
      omega
    · rw [if_neg c]
      congr 1
      omega

theorem pack_out (n : Int) (K : Nat) (hK : K ≤ 7) : ∀ (d m : Nat), m + d = K → Ev (fun k => heptadref01_pack.l0 k (strOfNums (bl n (8 * K))) ((be n K).take m) ((8 * m : Nat) : Int)) (strOfNums (be n K))
  | d, m, hd => by
    have hl := bl_length n (8 * K)
    have hs := str_size (bl n (8 * K))
    have hb := be_length n K
    refine Ev.step (f := fun k => if ((8 * m : Nat) : Int) < ((strOfNums (bl n (8 * K))).size : Int) then (heptadref01_pack.l1 k (strOfNums (bl n (8 * K))) ((be n K).take m) ((8 * m : Nat) : Int) 0 ((8 * m : Nat) : Int)) else (some (strOfNums ((be n K).take m)))) (fun k => by simp only [heptadref01_pack.l0]) ?_
    cases d with
    | zero =>
      obtain rfl : m = K := by omega
      refine ⟨0, fun k _ => ?_⟩
      show (if _ then _ else _) = _
      rw [if_neg (by omega), List.take_of_length_le (by omega)]
    | succ d =>
      have ih := pack_out n K hK d (m + 1) (by omega)
      rw [List.take_add_one, be_get n K m (by omega)] at ih
      have h2 := pack_in n K hK m (by omega) ((be n K).take m) (by simp; omega) 8 0 (by omega) _ ih
      simp only [Int.pow_zero, Int.emod_one, Nat.add_zero] at h2
      exact Ev.congr (fun k => if_pos (by omega)) h2

theorem pack_ok (n : Int) (K : Nat) (hK : K ≤ 7) : Ev (fun k => heptadref01_pack.f k (strOfNums (bl n (8 * K)))) (strOfNums (be n K)) := by
  have := pack_out n K hK K 0 (by omega)
  simp only [List.take_zero, Nat.mul_zero] at this
  exact Ev.congr (fun k => by unfold heptadref01_pack.f; rfl) this

theorem roct_loop (n : Int) (K : Nat) (hK : Least n K) (h7 : K ≤ 7) : ∀ (d j : Nat), 1 ≤ j → j + d = K → Ev (fun k => heptadref01_Octets.l0 k n j) (strOfNums (be n K), 0)
  | d, j, h1, hd => by
    have e8 : wrap64 (8 * (j : Int)) = ((8 * j : Nat) : Int) := by rw [wrap_in _ (by omega) (by omega)]; omega
    have e9 : wrap64 (wrap64 (8 * (j : Int)) - 1) = ((8 * j - 1 : Nat) : Int) := by rw [e8, wrap_in _ (by omega) (by omega)]; omega
    have hpk : j = K → Ev (fun k => (heptadref01_Signed.f k n (wrap64 (8 * (j : Int)))).bind fun bt138 => ((heptadref01_pack.f k bt138.1).bind fun t140 => (some (t140, 0)))) (strOfNums (be n K), (0 : Int)) := by
      intro e
      subst e
      rw [e8]
      refine Ev.bind (signed_yes n (8 * j) (by omega) (by omega) hK.2.1.1 hK.2.1.2) ?_
      exact Ev.bind (pack_ok n j h7) (Ev.now _)
    refine Ev.step (f := fun k => if (j : Int) < 7 then ((heptadref01_Power.f k ((8 * j - 1 : Nat) : Int)).bind fun t137 => (if n < (wrap64 (-t137)) then (heptadref01_Octets.l0 k n ((j + 1 : Nat) : Int)) else (if n ≥ t137 then (heptadref01_Octets.l0 k n ((j + 1 : Nat) : Int)) else ((heptadref01_Signed.f k n (wrap64 (8 * (j : Int)))).bind fun bt138 => ((heptadref01_pack.f k bt138.1).bind fun t140 => (some (t140, 0))))))) else ((heptadref01_Signed.f k n (wrap64 (8 * (j : Int)))).bind fun bt141 => ((heptadref01_pack.f k bt141.1).bind fun t143 => (some (t143, 0))))) (fun k => by
      simp only [heptadref01_Octets.l0]
      rw [e9, show wrap64 ((j : Int) + 1) = ((j + 1 : Nat) : Int) by rw [wrap_in _ (by omega) (by omega)]; omega]) ?_
    by_cases c : j < 7
    · refine Ev.congr (fun k => if_pos (by omega)) (Ev.bind (power_ok (8 * j - 1) (by omega)) ?_)
      have hp : (0 : Int) < 2 ^ (8 * j - 1) := Int.pow_pos (by omega)
      have hp2 := pow_le_pow (show 8 * j - 1 ≤ 60 by omega)
      rw [show wrap64 (-(2 ^ (8 * j - 1))) = -(2 ^ (8 * j - 1)) from wrap_in _ (by omega) (by omega)]
      cases d with
      | zero =>
        obtain rfl : j = K := by omega
        have hf := hK.2.1
        unfold Fits at hf
        exact Ev.congr (fun k => by rw [if_neg (by omega), if_neg (by omega)]) (hpk rfl)
      | succ d =>
        have hno := hK.2.2 j h1 (by omega)
        unfold Fits at hno
        have ih := roct_loop n K hK h7 d (j + 1) (by omega) (by omega)
        by_cases c1 : n < -(2 ^ (8 * j - 1))
        · exact Ev.congr (fun k => if_pos c1) ih
        · exact Ev.congr (fun k => by rw [if_neg c1, if_pos (by omega)]) ih
    · exact Ev.congr (fun k => if_neg (by omega)) (hpk (by omega))

theorem octets_all (n : Int) : ∃ r, Ev (fun k => bits_Octets.f k n) r ∧ Ev (fun k => heptadref01_Octets.f k n) r := by
  have no1 : Ev (fun k => bits_Octets.j0 k n true) ((⟨#[]⟩ : ByteArray), 1) := Ev.step (f := fun _ => some ((⟨#[]⟩ : ByteArray), 1)) (fun k => by simp only [bits_Octets.j0, if_true]) (Ev.now _)
  have no2 : Ev (fun k => heptadref01_Octets.j0 k n true) ((⟨#[]⟩ : ByteArray), 1) := Ev.step (f := fun _ => some ((⟨#[]⟩ : ByteArray), 1)) (fun k => by simp only [heptadref01_Octets.j0, if_true]) (Ev.now _)
  by_cases c2 : n < -1000000000000000
  · exact ⟨_, Ev.congr (fun k => by simp only [bits_Octets.f, c2, if_true]) no1, Ev.congr (fun k => by simp only [heptadref01_Octets.f, c2, if_true]) no2⟩
  by_cases c3 : n > 1000000000000000
  · exact ⟨_, Ev.congr (fun k => by simp only [bits_Octets.f, if_false, c2, c3, decide_true]) no1, Ev.congr (fun k => by simp only [heptadref01_Octets.f, if_false, c2, c3, decide_true]) no2⟩
  obtain ⟨K, hK, h7⟩ := least_ex n (by omega) (by omega)
  have h1 := hK.1
  have a := oct_loop n K hK h7 (K - 1) 1 (by omega) (by omega)
  have b := roct_loop n K hK h7 (K - 1) 1 (by omega) (by omega)
  refine ⟨_, Ev.congr (f := fun k => bits_Octets.j0 k n false) (fun k => by simp only [bits_Octets.f, if_false, c2, c3, decide_false]) (Ev.step (fun k => ?_) a), Ev.congr (f := fun k => heptadref01_Octets.j0 k n false) (fun k => by simp only [heptadref01_Octets.f, if_false, c2, c3, decide_false]) (Ev.step (fun k => ?_) b)⟩
  · simp only [bits_Octets.j0, Bool.false_eq_true, if_false]
    simp [le]
  · simp only [heptadref01_Octets.j0, Bool.false_eq_true, if_false]
    rfl

theorem BitsPuts : heptadlaw01_BitsPuts.Pure := by
  intro n v hn hv
  obtain ⟨n0, n1⟩ : -9223372036854775808 ≤ n ∧ n ≤ 9223372036854775807 := by simpa [Lit.wf, IntKind.min, IntKind.max, IntKind.signed, IntKind.bits] using hn
  refine Ev.rounds (g := fun k => heptadlaw01_BitsPuts.f k n v) ?_
  obtain ⟨r1, a1, b1⟩ := width_all n
  obtain ⟨r2, a2, b2⟩ := put_all n v n1
  obtain ⟨r3, a3, b3⟩ := signed_all n v n0 n1
  obtain ⟨r4, a4, b4⟩ := octets_all n
  refine Ev.congr (fun k => by unfold heptadlaw01_BitsPuts.f; rfl) (Ev.bind a1 (Ev.bind b1 ?_))
  simp only [if_true, bne_self_eq_false]
  refine Ev.step (f := fun k => ((bits_Put.f k n v).bind fun bt148 => ((heptadref01_Put.f k n v).bind fun bt150 => (if bt148.1.toList = bt150.1.toList then (heptadlaw01_BitsPuts.j1 k n v (bt148.2 != bt150.2)) else (heptadlaw01_BitsPuts.j1 k n v true))))) (fun k => by simp only [heptadlaw01_BitsPuts.j0, Bool.false_eq_true, if_false]) (Ev.bind a2 (Ev.bind b2 ?_))
  simp only [if_true, bne_self_eq_false]
  refine Ev.step (f := fun k => ((bits_Signed.f k n v).bind fun bt152 => ((heptadref01_Signed.f k n v).bind fun bt154 => (if bt152.1.toList = bt154.1.toList then (heptadlaw01_BitsPuts.j2 k n (bt152.2 != bt154.2)) else (heptadlaw01_BitsPuts.j2 k n true))))) (fun k => by simp only [heptadlaw01_BitsPuts.j1, Bool.false_eq_true, if_false]) (Ev.bind a3 (Ev.bind b3 ?_))
  simp only [if_true, bne_self_eq_false]
  refine Ev.step (f := fun k => ((bits_Octets.f k n).bind fun bt156 => ((heptadref01_Octets.f k n).bind fun bt158 => (if bt156.1.toList = bt158.1.toList then (if bt156.2 = bt158.2 then ((heptadlaw01_sane.f k).bind fun t160 => (some t160)) else (some false)) else (some false))))) (fun k => by simp only [heptadlaw01_BitsPuts.j2, Bool.false_eq_true, if_false]) (Ev.bind a4 (Ev.bind b4 ?_))
  simp only [if_true]
  exact Ev.bind sane_ok (Ev.now _)

end Go.Proofs.Ythhlfddpacmhfaa.Pure
