/- slices.SortStableFunc, of trips by their times. -/
import Derived.Test.YtdkmdpklojeepaaFwLem
import Derived.Test.YtdkmdpklojeepaaFwCons
import Derived.Test.YtdkmdpklojeepaaS09f
namespace Go.Proofs.Ytdkmdpklojeepaa.D
open Go.Fw Go.RowKit

/-- Sorted pieces of one length. -/
inductive Ch (b : Nat) : List Tr → Prop
  | nil : Ch b []
  | cons {C D : List Tr} (h1 : Srt C) (h2 : C.length = b) (h3 : Ch b D) : Ch b (C ++ D)
theorem Ch.snoc {b : Nat} {D C : List Tr} (h : Ch b D) (h1 : Srt C) (h2 : C.length = b) : Ch b (D ++ C) := by
  induction h with
  | nil =>
    have := Ch.cons h1 h2 (Ch.nil (b := b))
    rwa [List.append_nil] at this
  | cons a1 a2 _ ih =>
    rw [List.append_assoc]
    exact .cons a1 a2 ih
theorem Ch.len {b : Nat} {D : List Tr} (h : Ch b D) : ∃ k, D.length = k * b := by
  induction h with
  | nil => exact ⟨0, by simp⟩
  | cons _ a2 _ ih =>
    obtain ⟨k, hk⟩ := ih
    exact ⟨k + 1, by rw [List.length_append, a2, hk, Nat.succ_mul]; omega⟩
theorem Ch.one {b : Nat} {D : List Tr} (h : Ch b D) (hl : D.length < 2 * b) : D = [] ∨ (Srt D ∧ D.length = b) := by
  cases h with
  | nil => exact .inl rfl
  | @cons C D a1 a2 a3 =>
    obtain ⟨k, hk⟩ := a3.len
    rw [List.length_append, a2, hk] at hl
    have : k = 0 := by
      rcases Nat.eq_zero_or_pos k with h | h
      · exact h
      · have := Nat.mul_le_mul_right b h
        omega
    subst this
    rw [Nat.zero_mul] at hk
    rw [List.eq_nil_of_length_eq_zero hk, List.append_nil]
    exact .inr ⟨a1, a2⟩
theorem Ch.two {b : Nat} {D : List Tr} (h : Ch b D) (hl : b < D.length) : ∃ C1 C2 D2, D = C1 ++ (C2 ++ D2) ∧ Srt C1 ∧ C1.length = b ∧ Srt C2 ∧ C2.length = b ∧ Ch b D2 := by
  cases h with
  | nil => exact absurd hl (Nat.not_lt_zero _)
  | @cons C D a1 a2 a3 =>
    cases a3 with
    | nil =>
      rw [List.append_nil] at hl
      omega
    | cons b1 b2 b3 => exact ⟨_, _, _, rfl, a1, a2, b1, b2, b3⟩
theorem InT.of {X L : List Tr} (h : InT X) (hf : Flt X L) : InT L := fun z hz => h z (hf.mem hz)
theorem InT.left {a b : List Tr} (h : InT (a ++ b)) : InT a := fun z hz => h z (List.mem_append_left _ hz)
theorem InT.right {a b : List Tr} (h : InT (a ++ b)) : InT b := fun z hz => h z (List.mem_append_right _ hz)
theorem f60 : E.funcs 60 = some Try.f60 := by kernel_rfl
set_option maxHeartbeats 16000000 in
theorem stable60 (n c : Nat) (p X q : List Tr) (hX : X.length = n) (hin : InT X) (hn2 : n ≤ 1000000) (hcc : n ≤ c) : Lent E 60 [.slice (some ⟨0, p.length * 2, none⟩) n c, .int .i64 n, .func (.func 43) #[] #[]] [rowB (p ++ X ++ q)] (.tuple #[]) [rowB (p ++ ssort X ++ q)] := by
  refine Lent.of f60 rfl (of_decide_eq_true (by kernel_rfl)) rfl rfl (Nat.le_refl _) (by kernel_rfl) ?_ rfl ?_
  · simp only [rowB, List.all_cons, List.all_nil, okCs_flat (tcs_flat _), Bool.and_true]
  refine Wp.seq (Wp.text ?_)
  refine kp 6 (.int IntKind.i64 20) ?_
  refine WpOps.nil (thenK_at (Wp.seq (Wp.text ?_)))
  refine kp 10 (.int IntKind.i64 20) ?_
  refine kp 7 (.int IntKind.i64 0) ?_
  refine kp 8 (.int IntKind.i64 20) ?_
  refine WpOps.nil (thenK_at (Wp.seq (Wp.block ?_)))
  refine Wp.loop (G := List Tr × List Tr) (fun g => layj [(0, .slice (some ⟨0, p.length * 2, none⟩) n c), (1, .int .i64 n), (2, .func (.func 43) #[] #[]), (6, .int .i64 (20 : Nat)), (7, .int .i64 (g.1.length : Nat)), (8, .int .i64 (g.1.length + 20 : Nat))]) (fun g => heapOf [rowB (p ++ g.1 ++ g.2 ++ q)]) (fun g => g.2.length) (fun g => Ch 20 g.1 ∧ Flt X (g.1 ++ g.2)) ([], X)
    (View.of [0] [rowB (p ++ [] ++ X ++ q)] _ (by decide) rfl ⟨⟨tcs (p ++ X ++ q), by kernel_rfl, CellsOk.eq (by simp [rowB]) (tcs_flat _)⟩, trivial⟩ ⟨⟨by kernel_rfl, rfl⟩, ⟨by kernel_rfl, rfl⟩, ⟨by kernel_rfl, rfl⟩, ⟨by kernel_rfl, rfl⟩, ⟨by kernel_rfl, rfl⟩, ⟨by kernel_rfl, rfl⟩, trivial⟩) ⟨Ch.nil, Flt.refl _⟩ ?_
  rintro ⟨D, R⟩ ⟨hD, hF⟩
  dsimp only at hD hF ⊢
  have hl : D.length + R.length = n := by
    have := hF.len
    rw [List.length_append] at this
    omega
  have hinR := (hin.of hF).right
  have lD : (p ++ D).length - p.length = D.length := by rw [List.length_append]; omega
  by_cases hb : D.length + 20 ≤ n
  · have d1 : decide (((D.length + 20 : Nat) : Int) ≤ (n : Int)) = true := decide_eq_true (by omega)
    have hR : R.take 20 ++ R.drop 20 = R := List.take_append_drop _ _
    have l1 : (R.take 20).length = 20 := by rw [List.length_take]; omega
    have l2 : (R.drop 20).length = R.length - 20 := List.length_drop
    have i1 : InT (R.take 20) := fun z hz => hinR z (List.mem_of_mem_take hz)
    generalize R.take 20 = C at hR l1 i1
    generalize R.drop 20 = R2 at hR l2
    subst hR
    have cs := (ins62 n c p.length (p ++ D) C (R2 ++ q) (by omega) i1 (by rw [List.length_append]; omega) (by rw [List.length_append, l1]; omega) hn2).call
    rw [lD, show (p ++ D).length + C.length - p.length = D.length + 20 by rw [List.length_append, l1]; omega, show p ++ D ++ C ++ (R2 ++ q) = p ++ D ++ (C ++ R2) ++ q by simp] at cs
    have hs : (ssort C).length = 20 := by rw [(ssort_flt C).len, l1]
    have w1 : IntKind.i64.wrap (((D.length + 20 : Nat) : Int) + ((20 : Nat) : Int)) = ((D.length + 20 + 20 : Nat) : Int) := by rw [wr _ (by omega) (by omega)]; omega
    have hld : (D ++ ssort C).length = D.length + 20 := by rw [List.length_append, hs]
    refine Wp.seq (Wp.seq (Wp.text ?_))
    refine kp 11 (.int IntKind.i64 (↑(List.length D + 20) : Int)) ?_
    refine kp 12 (.int IntKind.i64 (↑n : Int)) ?_
    refine kp 13 (.bool true) ?_ (hop := fun _ => by_fact d1)
    refine WpOps.nil (thenK_at (on' (Wp.skip (thenK_at (Wp.block (Wp.seq (Wp.text ?_)))))))
    refine kp 14 (.slice (some (Addr.mk 0 (List.length p * 2) none)) n c) ?_
    refine kp 15 (.int IntKind.i64 (↑(List.length D) : Int)) ?_
    refine kp 16 (.int IntKind.i64 (↑(List.length D + 20) : Int)) ?_
    refine kp 17 (.func (Fn.func 43) #[] #[]) ?_
    refine cl 18 62 [Value.slice (some (Addr.mk 0 (List.length p * 2) none)) n c, Value.int .i64 (↑(List.length D) : Int), Value.int .i64 (↑(List.length D + 20) : Int), Value.func (Fn.func 43) #[] #[]] ?_
    refine WpCall.enterL cs rfl ?_
    refine WpOps.nil (thenK_at (Wp.seq (Wp.text ?_)))
    refine kp 19 (.int IntKind.i64 (↑(List.length D + 20) : Int)) ?_
    refine kp 7 (.int IntKind.i64 (↑(List.length D + 20) : Int)) ?_
    refine WpOps.nil (thenK_at (Wp.text ?_))
    refine kp 20 (.int IntKind.i64 (↑(List.length D + 20) : Int)) ?_
    refine kp 21 (.int IntKind.i64 (↑20 : Int)) ?_
    refine kp 22 (.int IntKind.i64 (IntKind.wrap .i64 ((↑(List.length D + 20) : Int) + (↑20 : Int)))) ?_
    refine kp 8 (.int IntKind.i64 (IntKind.wrap .i64 ((↑(List.length D + 20) : Int) + (↑20 : Int)))) ?_
    refine WpOps.nil (blockK_norm (thenK_at ?_))
    refine ⟨(D ++ ssort C, R2), by dsimp only; rw [l2]; omega, ⟨hD.snoc (ssort_srt C) hs, hF.trans ?_⟩, ?_⟩
    · have := (Flt.refl D).app ((ssort_flt C).app (Flt.refl R2))
      dsimp only
      rw [List.append_assoc D]
      exact this
    · exact View.of [0] [rowB (p ++ (D ++ ssort C) ++ R2 ++ q)] _ (by decide) rfl ⟨⟨tcs (p ++ D ++ ssort C ++ (R2 ++ q)), by kernel_rfl, CellsOk.eq (by simp [rowB]) (tcs_flat _)⟩, trivial⟩ ⟨⟨by kernel_rfl, rfl⟩, ⟨by kernel_rfl, rfl⟩, ⟨by kernel_rfl, rfl⟩, ⟨by kernel_rfl, rfl⟩, ⟨congrArg (fun z : Nat => Value.int .i64 z) hld.symm, rfl⟩, ⟨congrArg (Value.int .i64) (w1.trans (by dsimp only; rw [hld])), rfl⟩, trivial⟩
  · have d1 : decide (((D.length + 20 : Nat) : Int) ≤ (n : Int)) = false := decide_eq_false (by omega)
    have cs : SCall E 62 [.slice (some ⟨0, p.length * 2, none⟩) n c, .int .i64 (D.length : Nat), .int .i64 n, .func (.func 43) #[] #[]] (heapOf [rowB (p ++ D ++ R ++ q)]) (.tuple #[]) (heapOf [rowB (p ++ D ++ ssort R ++ q)]) := by
      rcases Nat.eq_zero_or_pos R.length with h0 | h0
      · obtain rfl := List.eq_nil_of_length_eq_zero h0
        have := (ins62_nil n c p.length (p ++ D) q (by rw [List.length_append]; omega) (by rw [List.length_append]; omega) hn2).call
        rw [lD, show D.length = n by simpa using hl] at this
        rw [show D.length = n by simpa using hl]
        simpa [ssort] using this
      · have := (ins62 n c p.length (p ++ D) R q h0 hinR (by rw [List.length_append]; omega) (by rw [List.length_append]; omega) hn2).call
        rw [lD, show (p ++ D).length + R.length - p.length = n by rw [List.length_append]; omega] at this
        exact this
    have hs : (ssort R).length = R.length := (ssort_flt R).len
    have hF2 : Flt X (D ++ ssort R) := hF.trans ((Flt.refl D).app (ssort_flt R))
    have hT := ssort_srt R
    generalize ssort R = T at cs hs hF2 hT
    refine Wp.seq (Wp.seq (Wp.text ?_))
    refine kp 11 (.int IntKind.i64 (↑(List.length D + 20) : Int)) ?_
    refine kp 12 (.int IntKind.i64 (↑n : Int)) ?_
    refine kp 13 (.bool false) ?_ (hop := fun _ => by_fact d1)
    refine WpOps.nil (thenK_at (off' (Wp.exit (thenK_exit (thenK_exit (blockK_hit (thenK_at (Wp.seq (Wp.text ?_)))))))))
    refine kp 23 (.slice (some (Addr.mk 0 (List.length p * 2) none)) n c) ?_
    refine kp 24 (.int IntKind.i64 (↑(List.length D) : Int)) ?_
    refine kp 25 (.int IntKind.i64 (↑n : Int)) ?_
    refine kp 26 (.func (Fn.func 43) #[] #[]) ?_
    refine cl 27 62 [Value.slice (some (Addr.mk 0 (List.length p * 2) none)) n c, Value.int .i64 (↑(List.length D) : Int), Value.int .i64 (↑n : Int), Value.func (Fn.func 43) #[] #[]] ?_
    refine WpCall.enterL cs rfl ?_
    refine WpOps.nil (thenK_at (Wp.block ?_))
    refine Wp.loop (G := Nat × List Tr × List Tr) (fun g => layj [(0, .slice (some ⟨0, p.length * 2, none⟩) n c), (1, .int .i64 n), (2, .func (.func 43) #[] #[]), (6, .int .i64 (g.1 : Nat))]) (fun g => heapOf [rowB (p ++ g.2.1 ++ g.2.2 ++ q)]) (fun g => n - g.1) (fun g => Ch g.1 g.2.1 ∧ Srt g.2.2 ∧ g.2.2.length < g.1 ∧ Flt X (g.2.1 ++ g.2.2) ∧ 20 ≤ g.1 ∧ g.1 ≤ 2000020) (20, D, T)
      (View.of [0] [rowB (p ++ D ++ T ++ q)] _ (by decide) rfl ⟨⟨tcs (p ++ D ++ T ++ q), by kernel_rfl, CellsOk.eq (by simp [rowB]) (tcs_flat _)⟩, trivial⟩ ⟨⟨by kernel_rfl, rfl⟩, ⟨by kernel_rfl, rfl⟩, ⟨by kernel_rfl, rfl⟩, ⟨by kernel_rfl, rfl⟩, trivial⟩) ⟨hD, hT, by dsimp only; omega, hF2, by dsimp only; omega, by dsimp only; omega⟩ ?_
    clear hD hT hF2 hs cs hF hl hinR lD hb d1 D R T
    rintro ⟨b, D, T⟩ ⟨hD, hT, hTb, hF, hb1, hb2⟩
    dsimp only at hD hT hTb hF hb1 hb2 ⊢
    by_cases hb : b < n
    · have d1 : decide (((b : Nat) : Int) < (n : Int)) = true := decide_eq_true (by omega)
      have w2 : IntKind.i64.wrap (2 * ((b : Nat) : Int)) = ((2 * b : Nat) : Int) := by rw [wr _ (by omega) (by omega)]; omega
      have w3 : IntKind.i64.wrap (((b : Nat) : Int) * 2) = ((2 * b : Nat) : Int) := by rw [wr _ (by omega) (by omega)]; omega
      refine Wp.seq (Wp.seq (Wp.text ?_))
      refine kp 28 (.int IntKind.i64 (↑b : Int)) ?_
      refine kp 29 (.int IntKind.i64 (↑n : Int)) ?_
      refine kp 30 (.bool true) ?_ (hop := fun _ => by_fact d1)
      refine WpOps.nil (thenK_at (on' (Wp.skip (thenK_at (Wp.block (Wp.seq (Wp.text ?_)))))))
      refine kp 31 (.int IntKind.i64 (↑b : Int)) ?_
      refine kp 32 (.int IntKind.i64 (IntKind.wrap .i64 (2 * (↑b : Int)))) ?_
      refine kp 7 (.int IntKind.i64 0) ?_
      refine kp 8 (.int IntKind.i64 (IntKind.wrap .i64 (2 * (↑b : Int)))) ?_
      refine WpOps.nil (thenK_at (Wp.seq (Wp.block ?_)))
      refine Wp.loop (G := List Tr × List Tr) (fun g => layj [(0, .slice (some ⟨0, p.length * 2, none⟩) n c), (1, .int .i64 n), (2, .func (.func 43) #[] #[]), (6, .int .i64 (b : Nat)), (7, .int .i64 (g.1.length : Nat)), (8, .int .i64 (g.1.length + 2 * b : Nat))]) (fun g => heapOf [rowB (p ++ g.1 ++ g.2 ++ T ++ q)]) (fun g => g.2.length) (fun g => Ch (2 * b) g.1 ∧ Ch b g.2 ∧ Flt X (g.1 ++ g.2 ++ T)) ([], D)
        (View.of [0] [rowB (p ++ [] ++ D ++ T ++ q)] _ (by decide) rfl ⟨⟨tcs (p ++ D ++ T ++ q), by kernel_rfl, CellsOk.eq (by simp [rowB]) (tcs_flat _)⟩, trivial⟩ ⟨⟨by kernel_rfl, rfl⟩, ⟨by kernel_rfl, rfl⟩, ⟨by kernel_rfl, rfl⟩, ⟨by kernel_rfl, rfl⟩, ⟨by kernel_rfl, rfl⟩, ⟨congrArg (Value.int .i64) (w2.trans (by simp)), rfl⟩, trivial⟩) ⟨Ch.nil, hD, by simpa using hF⟩ ?_
      clear hD hF D
      rintro ⟨M, D⟩ ⟨hM, hD, hF⟩
      dsimp only at hM hD hF ⊢
      have hl : M.length + D.length + T.length = n := by
        have := hF.len
        rw [List.length_append, List.length_append] at this
        omega
      have hinX := hin.of hF
      have lM : (p ++ M).length - p.length = M.length := by rw [List.length_append]; omega
      by_cases hc : M.length + 2 * b ≤ n
      · have d2 : decide (((M.length + 2 * b : Nat) : Int) ≤ (n : Int)) = true := decide_eq_true (by omega)
        obtain ⟨C1, C2, D2, rfl, s1, l1, s2, l2, hD2⟩ := hD.two (by omega)
        have hl3 : M.length + (b + (b + D2.length)) + T.length = n := by
          rw [List.length_append, List.length_append, l1, l2] at hl
          exact hl
        have i1 : InT (C1 ++ C2) := fun z hz => hinX z (by simp only [List.mem_append] at hz ⊢; rcases hz with h | h <;> simp [h])
        have cs := (sym63 n c p.length hn2 hcc (C1.length + C2.length + 1) (p ++ M) C1 C2 (D2 ++ T ++ q) (Nat.lt_succ_self _) (by omega) (by omega) s1 s2 i1 (by rw [List.length_append]; omega) (by rw [List.length_append]; omega)).call
        have hs : (ssort (C1 ++ C2)).length = 2 * b := by rw [(ssort_flt _).len, List.length_append, l1, l2]; omega
        have w4 : IntKind.i64.wrap (((M.length : Nat) : Int) + ((b : Nat) : Int)) = ((M.length + b : Nat) : Int) := by rw [wr _ (by omega) (by omega)]; omega
        rw [lM, show (p ++ M).length + C1.length - p.length = M.length + b by rw [List.length_append, l1]; omega, show (p ++ M).length + C1.length + C2.length - p.length = M.length + 2 * b by rw [List.length_append, l1, l2]; omega, show p ++ M ++ C1 ++ C2 ++ (D2 ++ T ++ q) = p ++ M ++ (C1 ++ (C2 ++ D2)) ++ T ++ q by simp, ← w4] at cs
        have w5 : IntKind.i64.wrap (((M.length + 2 * b : Nat) : Int) + IntKind.i64.wrap (2 * ((b : Nat) : Int))) = ((M.length + 2 * b + 2 * b : Nat) : Int) := by rw [w2, wr _ (by omega) (by omega)]; omega
        have hld : (M ++ ssort (C1 ++ C2)).length = M.length + 2 * b := by rw [List.length_append, hs]
        refine Wp.seq (Wp.seq (Wp.text ?_))
        refine kp 33 (.int IntKind.i64 (↑(List.length M + 2 * b) : Int)) ?_
        refine kp 34 (.int IntKind.i64 (↑n : Int)) ?_
        refine kp 35 (.bool true) ?_ (hop := fun _ => by_fact d2)
        refine WpOps.nil (thenK_at (on' (Wp.skip (thenK_at (Wp.block (Wp.seq (Wp.text ?_)))))))
        refine kp 36 (.slice (some (Addr.mk 0 (List.length p * 2) none)) n c) ?_
        refine kp 37 (.int IntKind.i64 (↑(List.length M) : Int)) ?_
        refine kp 38 (.int IntKind.i64 (↑(List.length M) : Int)) ?_
        refine kp 39 (.int IntKind.i64 (↑b : Int)) ?_
        refine kp 40 (.int IntKind.i64 (IntKind.wrap .i64 ((↑(List.length M) : Int) + (↑b : Int)))) ?_
        refine kp 41 (.int IntKind.i64 (↑(List.length M + 2 * b) : Int)) ?_
        refine kp 42 (.func (Fn.func 43) #[] #[]) ?_
        refine cl 43 63 [Value.slice (some (Addr.mk 0 (List.length p * 2) none)) n c, Value.int .i64 (↑(List.length M) : Int), Value.int .i64 (IntKind.wrap .i64 ((↑(List.length M) : Int) + (↑b : Int))), Value.int .i64 (↑(List.length M + 2 * b) : Int), Value.func (Fn.func 43) #[] #[]] ?_
        refine WpCall.enterL cs rfl ?_
        refine WpOps.nil (thenK_at (Wp.seq (Wp.text ?_)))
        refine kp 44 (.int IntKind.i64 (↑(List.length M + 2 * b) : Int)) ?_
        refine kp 7 (.int IntKind.i64 (↑(List.length M + 2 * b) : Int)) ?_
        refine WpOps.nil (thenK_at (Wp.text ?_))
        refine kp 45 (.int IntKind.i64 (↑(List.length M + 2 * b) : Int)) ?_
        refine kp 46 (.int IntKind.i64 (↑b : Int)) ?_
        refine kp 47 (.int IntKind.i64 (IntKind.wrap .i64 (2 * (↑b : Int)))) ?_
        refine kp 48 (.int IntKind.i64 (IntKind.wrap .i64 ((↑(List.length M + 2 * b) : Int) + IntKind.wrap .i64 (2 * (↑b : Int))))) ?_
        refine kp 8 (.int IntKind.i64 (IntKind.wrap .i64 ((↑(List.length M + 2 * b) : Int) + IntKind.wrap .i64 (2 * (↑b : Int))))) ?_
        refine WpOps.nil (blockK_norm (thenK_at ?_))
        refine ⟨(M ++ ssort (C1 ++ C2), D2), by dsimp only; rw [List.length_append, List.length_append, l1, l2]; omega, ⟨hM.snoc (ssort_srt _) hs, hD2, ?_⟩, ?_⟩
        · have := ((Flt.refl M).app ((ssort_flt (C1 ++ C2)).app (Flt.refl (D2 ++ T))))
          dsimp only
          refine hF.trans ?_
          simpa using this
        · exact View.of [0] [rowB (p ++ (M ++ ssort (C1 ++ C2)) ++ D2 ++ T ++ q)] _ (by decide) rfl ⟨⟨tcs (p ++ M ++ ssort (C1 ++ C2) ++ (D2 ++ T ++ q)), by kernel_rfl, CellsOk.eq (by simp [rowB]) (tcs_flat _)⟩, trivial⟩ ⟨⟨by kernel_rfl, rfl⟩, ⟨by kernel_rfl, rfl⟩, ⟨by kernel_rfl, rfl⟩, ⟨by kernel_rfl, rfl⟩, ⟨congrArg (fun z : Nat => Value.int .i64 z) hld.symm, rfl⟩, ⟨congrArg (Value.int .i64) (w5.trans (by dsimp only; rw [hld])), rfl⟩, trivial⟩
      · have d2 : decide (((M.length + 2 * b : Nat) : Int) ≤ (n : Int)) = false := decide_eq_false (by omega)
        have hone := hD.one (by omega)
        have w4 : IntKind.i64.wrap (((M.length : Nat) : Int) + ((b : Nat) : Int)) = ((M.length + b : Nat) : Int) := by rw [wr _ (by omega) (by omega)]; omega
        refine Wp.seq (Wp.seq (Wp.text ?_))
        refine kp 33 (.int IntKind.i64 (↑(List.length M + 2 * b) : Int)) ?_
        refine kp 34 (.int IntKind.i64 (↑n : Int)) ?_
        refine kp 35 (.bool false) ?_ (hop := fun _ => by_fact d2)
        refine WpOps.nil (thenK_at (off' (Wp.exit (thenK_exit (thenK_exit (blockK_hit (thenK_at (Wp.seq (Wp.seq (Wp.text ?_))))))))))
        refine kp 49 (.int IntKind.i64 (↑(List.length M) : Int)) ?_
        refine kp 50 (.int IntKind.i64 (↑b : Int)) ?_
        refine kp 51 (.int IntKind.i64 (IntKind.wrap .i64 ((↑(List.length M) : Int) + (↑b : Int)))) ?_
        refine kp 9 (.int IntKind.i64 (IntKind.wrap .i64 ((↑(List.length M) : Int) + (↑b : Int)))) ?_
        refine WpOps.nil (thenK_at (Wp.seq (Wp.text ?_)))
        refine kp 52 (.int IntKind.i64 (IntKind.wrap .i64 ((↑(List.length M) : Int) + (↑b : Int)))) ?_
        refine kp 53 (.int IntKind.i64 (↑n : Int)) ?_
        refine kp 54 (.bool (decide (IntKind.wrap .i64 ((↑(List.length M) : Int) + (↑b : Int)) < (↑n : Int)))) ?_
        refine WpOps.nil (thenK_at ?_)
        refine Wp.merge [(0, .slice (some ⟨0, p.length * 2, none⟩) n c), (1, .int .i64 n), (2, .func (.func 43) #[] #[]), (6, .int .i64 (b : Nat))] [rowB (p ++ M ++ ssort (D ++ T) ++ q)] ?_ ?_
        · by_cases he : M.length + b < n
          · have d3 : decide (IntKind.i64.wrap (((M.length : Nat) : Int) + ((b : Nat) : Int)) < (n : Int)) = true := by rw [w4]; exact decide_eq_true (by omega)
            have hD1 : Srt D ∧ D.length = b := by
              rcases hone with rfl | h
              · rw [List.length_nil] at hl
                omega
              · exact h
            have i1 : InT (D ++ T) := fun z hz => hinX z (by simp only [List.mem_append] at hz ⊢; rcases hz with h | h <;> simp [h])
            have cs := (sym63 n c p.length hn2 hcc (D.length + T.length + 1) (p ++ M) D T q (Nat.lt_succ_self _) (by omega) (by omega) hD1.1 hT i1 (by rw [List.length_append]; omega) (by rw [List.length_append]; omega)).call
            rw [lM, show (p ++ M).length + D.length - p.length = M.length + b by rw [List.length_append, hD1.2]; omega, show (p ++ M).length + D.length + T.length - p.length = n by rw [List.length_append]; omega, ← w4] at cs
            refine on' ?_ (hc := ev_fact d3)
            refine Wp.text ?_
            refine kp 55 (.slice (some (Addr.mk 0 (List.length p * 2) none)) n c) ?_
            refine kp 56 (.int IntKind.i64 (↑(List.length M) : Int)) ?_
            refine kp 57 (.int IntKind.i64 (IntKind.wrap .i64 ((↑(List.length M) : Int) + (↑b : Int)))) ?_
            refine kp 58 (.int IntKind.i64 (↑n : Int)) ?_
            refine kp 59 (.func (Fn.func 43) #[] #[]) ?_
            refine cl 60 63 [Value.slice (some (Addr.mk 0 (List.length p * 2) none)) n c, Value.int .i64 (↑(List.length M) : Int), Value.int .i64 (IntKind.wrap .i64 ((↑(List.length M) : Int) + (↑b : Int))), Value.int .i64 (↑n : Int), Value.func (Fn.func 43) #[] #[]] ?_
            refine WpCall.enterL cs rfl ?_
            refine WpOps.nil ?_
            exact ⟨rfl, View.of [0] [rowB (p ++ M ++ ssort (D ++ T) ++ q)] _ (by decide) rfl ⟨⟨_, by kernel_rfl, CellsOk.eq rfl (tcs_flat _)⟩, trivial⟩ ⟨⟨by kernel_rfl, rfl⟩, ⟨by kernel_rfl, rfl⟩, ⟨by kernel_rfl, rfl⟩, ⟨by kernel_rfl, rfl⟩, trivial⟩⟩
          · have d3 : decide (IntKind.i64.wrap (((M.length : Nat) : Int) + ((b : Nat) : Int)) < (n : Int)) = false := by rw [w4]; exact decide_eq_false (by omega)
            have hsame : D ++ T = ssort (D ++ T) := by
              rcases hone with rfl | h
              · exact (ssort_id hT).symm
              · have : T = [] := List.eq_nil_of_length_eq_zero (by omega)
                subst this
                rw [List.append_nil]
                exact (ssort_id h.1).symm
            have hrw : p ++ M ++ D ++ T ++ q = p ++ M ++ ssort (D ++ T) ++ q := by rw [← hsame]; simp
            refine off' ?_ (hc := ev_fact d3)
            refine Wp.skip ?_
            exact ⟨rfl, View.of [0] [rowB (p ++ M ++ ssort (D ++ T) ++ q)] _ (by decide) rfl ⟨⟨tcs (p ++ M ++ D ++ T ++ q), by kernel_rfl, CellsOk.eq (congrArg tcs hrw) (tcs_flat _)⟩, trivial⟩ ⟨⟨by kernel_rfl, rfl⟩, ⟨by kernel_rfl, rfl⟩, ⟨by kernel_rfl, rfl⟩, ⟨by kernel_rfl, rfl⟩, trivial⟩⟩
        have hs : (ssort (D ++ T)).length < 2 * b := by rw [(ssort_flt _).len, List.length_append]; omega
        have hF3 : Flt X (M ++ ssort (D ++ T)) := hF.trans (by rw [List.append_assoc]; exact (Flt.refl M).app (ssort_flt _))
        have hS := ssort_srt (D ++ T)
        refine Wp.text ?_
        refine kp 61 (.int IntKind.i64 (↑b : Int)) ?_
        refine kp 62 (.int IntKind.i64 (IntKind.wrap .i64 ((↑b : Int) * 2))) ?_
        refine kp 6 (.int IntKind.i64 (IntKind.wrap .i64 ((↑b : Int) * 2))) ?_
        refine WpOps.nil (blockK_norm (thenK_at ?_))
        refine ⟨(2 * b, M, ssort (D ++ T)), by dsimp only; omega, ⟨hM, hS, hs, hF3, by dsimp only; omega, by dsimp only; omega⟩, ?_⟩
        exact View.of [0] [rowB (p ++ M ++ ssort (D ++ T) ++ q)] _ (by decide) rfl ⟨⟨_, by kernel_rfl, CellsOk.eq rfl (tcs_flat _)⟩, trivial⟩ ⟨⟨by kernel_rfl, rfl⟩, ⟨by kernel_rfl, rfl⟩, ⟨by kernel_rfl, rfl⟩, ⟨congrArg (Value.int .i64) w3, rfl⟩, trivial⟩
    · have d1 : decide (((b : Nat) : Int) < (n : Int)) = false := decide_eq_false (by omega)
      have hl : D.length + T.length = n := by
        have := hF.len
        rw [List.length_append] at this
        omega
      have hsame : D ++ T = ssort X := by
        refine ssort_is ?_ hF
        rcases hD.one (by omega) with rfl | h
        · exact hT
        · have : T = [] := List.eq_nil_of_length_eq_zero (by omega)
          subst this
          rw [List.append_nil]
          exact h.1
      have hrw : p ++ D ++ T ++ q = p ++ ssort X ++ q := by rw [← hsame]; simp
      have hlast : rowB (p ++ ssort X ++ q) = rowB (p ++ D ++ T ++ q) := congrArg rowB hrw.symm
      rw [hlast]
      refine Wp.seq (Wp.seq (Wp.text ?_))
      refine kp 28 (.int IntKind.i64 (↑b : Int)) ?_
      refine kp 29 (.int IntKind.i64 (↑n : Int)) ?_
      refine kp 30 (.bool false) ?_ (hop := fun _ => by_fact d1)
      refine WpOps.nil (thenK_at (off' (Wp.exit (thenK_exit (thenK_exit (blockK_hit ?_))))))
      refine endK_norm [] (Value.tuple #[]) (by kernel_rfl) (by kernel_rfl) ?_
      exact lentRow (n := 0) rfl
theorem f42 : E.funcs 42 = some Try.f42 := by kernel_rfl
/-- slices.SortStableFunc of a row. -/
theorem sort42 (n c : Nat) (p X q : List Tr) (hX : X.length = n) (hin : InT X) (hn2 : n ≤ 1000000) (hcc : n ≤ c) : Lent E 42 [.slice (some ⟨0, p.length * 2, none⟩) n c, .func (.func 43) #[] #[]] [rowB (p ++ X ++ q)] (.tuple #[]) [rowB (p ++ ssort X ++ q)] := by
  have cs := (stable60 n c p X q hX hin hn2 hcc).call
  refine Lent.of f42 rfl (of_decide_eq_true (by kernel_rfl)) rfl rfl (Nat.le_refl _) (by kernel_rfl) ?_ rfl ?_
  · simp only [rowB, List.all_cons, List.all_nil, okCs_flat (tcs_flat _), Bool.and_true]
  refine Wp.text ?_
  refine kp 4 (.slice (some (Addr.mk 0 (List.length p * 2) none)) n c) ?_
  refine kp 5 (.slice (some (Addr.mk 0 (List.length p * 2) none)) n c) ?_
  refine kp 6 (.int IntKind.i64 (↑n : Int)) ?_
  refine kp 7 (.func (Fn.func 43) #[] #[]) ?_
  refine cl 8 60 [Value.slice (some (Addr.mk 0 (List.length p * 2) none)) n c, Value.int .i64 (↑n : Int), Value.func (Fn.func 43) #[] #[]] ?_
  refine WpCall.enterL cs rfl ?_
  refine WpOps.nil ?_
  refine endK_norm [] (Value.tuple #[]) (by kernel_rfl) (by kernel_rfl) ?_
  exact lentRow (n := 0) rfl
end Go.Proofs.Ytdkmdpklojeepaa.D
