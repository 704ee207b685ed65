/- symMerge: many trips and many. -/
import Derived.Test.YtdkmdpklojeepaaFwLem
import Derived.Test.YtdkmdpklojeepaaFwCons
import Derived.Test.YtdkmdpklojeepaaS09e
namespace Go.Proofs.Ytdkmdpklojeepaa.D
open Go.Fw Go.RowKit

/-- What comes behind a part that may come to its end in several ways, told once. -/
theorem Wp.merge {L : Nat} {E : Env} {n : Nat} {c b : Code} {s : Slots} {h : Heap} {K : AExit → Slots → Heap → Prop} (l : List (Nat × Value)) (bs : List Blk) (h1 : Wp L E n c s h (fun x s h => x = .normal ∧ View L E n s h (layj l) (heapOf bs))) (h2 : Wp L E n b (layj l) (heapOf bs) K) : Wp L E n c s h (thenK (fun s h => Wp L E n b s h K) K) :=
  Wp.mono h1 fun x s h hx => by
    obtain ⟨rfl, v⟩ := hx
    exact Wp.view v h2
theorem merge_split {X1 X2 Y1 Y2 : List Tr} (hX : Srt (X1 ++ X2)) (hY : Srt (Y1 ++ Y2)) (c1 : ∀ x ∈ X1, ∀ y ∈ Y2, x.1 ≤ y.1) (c2 : ∀ x ∈ X2, ∀ y ∈ Y1, y.1 < x.1) : ssort (X1 ++ X2 ++ (Y1 ++ Y2)) = ssort (X1 ++ Y1) ++ ssort (X2 ++ Y2) := by
  obtain ⟨_, _, x3⟩ := srt_app.1 hX
  obtain ⟨_, _, y3⟩ := srt_app.1 hY
  refine (ssort_is (srt_app.2 ⟨ssort_srt _, ssort_srt _, fun a ha b hb => ?_⟩) ?_).symm
  · have ha := (ssort_flt _).mem ha
    have hb := (ssort_flt _).mem hb
    rcases List.mem_append.1 ha with ha | ha
    · rcases List.mem_append.1 hb with hb | hb
      · exact x3 a ha b hb
      · exact c1 a ha b hb
    · rcases List.mem_append.1 hb with hb | hb
      · exact Int.le_of_lt (c2 b hb a ha)
      · exact y3 a ha b hb
  · have h1 : Flt (X1 ++ X2 ++ (Y1 ++ Y2)) (X1 ++ Y1 ++ (X2 ++ Y2)) := by
      have := ((Flt.refl X1).app (flt_swap (a := X2) (b := Y1) fun x hx y hy => by have := c2 x hx y hy; omega)).app (Flt.refl Y2)
      simpa using this
    exact h1.trans ((ssort_flt _).app (ssort_flt _))
theorem ssort_id {l : List Tr} (h : Srt l) : ssort l = l := (ssort_is h (Flt.refl l)).symm
/-- Where both rows are parted. -/
theorem cross {X Y : List Tr} (hX : Srt X) (hY : Srt Y) {h s : Nat} (h1 : h - Y.length ≤ s) (h2 : s ≤ min h X.length) (h3 : ∀ t x y, X[t]? = some x → Y[h - 1 - t]? = some y → h - Y.length ≤ t → t < s → x.1 ≤ y.1) (h4 : ∀ t x y, X[t]? = some x → Y[h - 1 - t]? = some y → s ≤ t → t < min h X.length → y.1 < x.1) :
    (∀ x ∈ X.take s, ∀ y ∈ Y.drop (h - s), x.1 ≤ y.1) ∧ (∀ x ∈ X.drop s, ∀ y ∈ Y.take (h - s), y.1 < x.1) := by
  constructor
  · intro x hx y hy
    obtain ⟨k, hk, rfl⟩ := List.getElem_of_mem hx
    obtain ⟨l, hl, rfl⟩ := List.getElem_of_mem hy
    rw [List.length_take] at hk
    rw [List.length_drop] at hl
    rw [List.getElem_take, List.getElem_drop]
    have e1 : s - 1 < X.length := by omega
    have e2 : h - 1 - (s - 1) < Y.length := by omega
    have := h3 (s - 1) _ _ (List.getElem?_eq_getElem e1) (List.getElem?_eq_getElem e2) (by omega) (by omega)
    have a1 := srt_get hX (show k < X.length by omega) e1 (by omega)
    have a2 := srt_get hY e2 (show h - s + l < Y.length by omega) (by omega)
    omega
  · intro x hx y hy
    obtain ⟨k, hk, rfl⟩ := List.getElem_of_mem hx
    obtain ⟨l, hl, rfl⟩ := List.getElem_of_mem hy
    rw [List.length_drop] at hk
    rw [List.length_take] at hl
    rw [List.getElem_take, List.getElem_drop]
    have e1 : s < X.length := by omega
    have e2 : h - 1 - s < Y.length := by omega
    have := h4 s _ _ (List.getElem?_eq_getElem e1) (List.getElem?_eq_getElem e2) (by omega) (by omega)
    have a1 := srt_get hX e1 (show s + k < X.length by omega) (by omega)
    have a2 := srt_get hY (show l < Y.length by omega) e2 (by omega)
    omega
set_option maxHeartbeats 16000000 in
theorem sym63_gen (n c o : Nat) (p X Y q : List Tr) (hX : 2 ≤ X.length) (hY : 2 ≤ Y.length) (hSX : Srt X) (hSY : Srt Y) (hin : InT (X ++ Y)) (ho : o ≤ p.length) (hn : p.length + X.length + Y.length ≤ o + n) (hn2 : n ≤ 1000000) (hcc : n ≤ c)
    (IH : ∀ (p' X' Y' q' : List Tr), X'.length + Y'.length < X.length + Y.length → 0 < X'.length → 0 < Y'.length → Srt X' → Srt Y' → InT (X' ++ Y') → o ≤ p'.length → p'.length + X'.length + Y'.length ≤ o + n → Lent E 63 [.slice (some ⟨0, o * 2, none⟩) n c, .int .i64 (p'.length - o : Nat), .int .i64 (p'.length + X'.length - o : Nat), .int .i64 (p'.length + X'.length + Y'.length - o : Nat), .func (.func 43) #[] #[]] [rowB (p' ++ X' ++ Y' ++ q')] (.tuple #[]) [rowB (p' ++ ssort (X' ++ Y') ++ q')]) :
    Lent E 63 [.slice (some ⟨0, o * 2, none⟩) n c, .int .i64 (p.length - o : Nat), .int .i64 (p.length + X.length - o : Nat), .int .i64 (p.length + X.length + Y.length - o : Nat), .func (.func 43) #[] #[]] [rowB (p ++ X ++ Y ++ q)] (.tuple #[]) [rowB (p ++ ssort (X ++ Y) ++ q)] := by
  refine Lent.of f63 rfl (of_decide_eq_true (by kernel_rfl)) rfl rfl (Nat.le_refl _) (by kernel_rfl) ?_ rfl ?_
  · simp only [rowB, List.all_cons, List.all_nil, okCs_flat (tcs_flat _), Bool.and_true]
  have d0 : (IntKind.i64.wrap (((p.length + X.length - o : Nat) : Int) - ((p.length - o : Nat) : Int)) == 1) = false := by
    rw [wr _ (by omega) (by omega)]
    exact beq_eq_false_iff_ne.2 (by omega)
  have d00 : (IntKind.i64.wrap (((p.length + X.length + Y.length - o : Nat) : Int) - ((p.length + X.length - o : Nat) : Int)) == 1) = false := by
    rw [wr _ (by omega) (by omega)]
    exact beq_eq_false_iff_ne.2 (by omega)
  have hh := half_eq (p.length - o) (p.length + X.length + Y.length - o) (by omega)
  rw [show (p.length - o + (p.length + X.length + Y.length - o)) / 2 = p.length + (X.length + Y.length) / 2 - o by omega] at hh
  have hh1 : 2 * ((X.length + Y.length) / 2) ≤ X.length + Y.length := by omega
  have hh2 : X.length + Y.length ≤ 2 * ((X.length + Y.length) / 2) + 1 := by omega
  generalize (X.length + Y.length) / 2 = h at hh hh1 hh2
  have hnn : IntKind.i64.wrap (IntKind.i64.wrap ((IntKind.u64.wrap (IntKind.i64.wrap (((p.length - o : Nat) : Int) + ((p.length + X.length + Y.length - o : Nat) : Int)))).fdiv (2 ^ 1)) + ((p.length + X.length - o : Nat) : Int)) = (((p.length + h - o + (p.length + X.length - o)) : Nat) : Int) := by rw [hh, wr _ (by omega) (by omega)]; omega
  refine Wp.seq (Wp.seq (Wp.text ?_))
  refine kp 25 (.int IntKind.i64 (↑(List.length p + List.length X - o) : Int)) ?_
  refine kp 26 (.int IntKind.i64 (↑(List.length p - o) : Int)) ?_
  refine kp 27 (.int IntKind.i64 (IntKind.wrap .i64 ((↑(List.length p + List.length X - o) : Int) - (↑(List.length p - o) : Int)))) ?_
  refine kp 28 (.bool false) ?_ (hop := fun _ => by_fact d0)
  refine WpOps.nil (thenK_at (off' (Wp.skip (thenK_at (Wp.seq (Wp.seq (Wp.text ?_)))))))
  refine kp 77 (.int IntKind.i64 (↑(List.length p + List.length X + List.length Y - o) : Int)) ?_
  refine kp 78 (.int IntKind.i64 (↑(List.length p + List.length X - o) : Int)) ?_
  refine kp 79 (.int IntKind.i64 (IntKind.wrap .i64 ((↑(List.length p + List.length X + List.length Y - o) : Int) - (↑(List.length p + List.length X - o) : Int)))) ?_
  refine kp 80 (.bool false) ?_ (hop := fun _ => by_fact d00)
  refine WpOps.nil (thenK_at (off' (Wp.skip (thenK_at (Wp.seq (Wp.text ?_))))))
  refine kp 129 (.int IntKind.i64 (↑(List.length p - o) : Int)) ?_
  refine kp 130 (.int IntKind.i64 (↑(List.length p + List.length X + List.length Y - o) : Int)) ?_
  refine kp 131 (.int IntKind.i64 (IntKind.wrap .i64 ((↑(List.length p - o) : Int) + (↑(List.length p + List.length X + List.length Y - o) : Int)))) ?_
  refine kp 132 (.int IntKind.u64 (IntKind.wrap .u64 (IntKind.wrap .i64 ((↑(List.length p - o) : Int) + (↑(List.length p + List.length X + List.length Y - o) : Int))))) ?_
  refine kp 133 (.int IntKind.u64 (Int.fdiv (IntKind.wrap .u64 (IntKind.wrap .i64 ((↑(List.length p - o) : Int) + (↑(List.length p + List.length X + List.length Y - o) : Int)))) (2 ^ 1))) ?_
  refine kp 134 (.int IntKind.i64 (IntKind.wrap .i64 (Int.fdiv (IntKind.wrap .u64 (IntKind.wrap .i64 ((↑(List.length p - o) : Int) + (↑(List.length p + List.length X + List.length Y - o) : Int)))) (2 ^ 1)))) ?_
  refine kp 18 (.int IntKind.i64 (IntKind.wrap .i64 (Int.fdiv (IntKind.wrap .u64 (IntKind.wrap .i64 ((↑(List.length p - o) : Int) + (↑(List.length p + List.length X + List.length Y - o) : Int)))) (2 ^ 1)))) ?_
  refine WpOps.nil (thenK_at (Wp.seq (Wp.text ?_)))
  refine kp 135 (.int IntKind.i64 (IntKind.wrap .i64 (Int.fdiv (IntKind.wrap .u64 (IntKind.wrap .i64 ((↑(List.length p - o) : Int) + (↑(List.length p + List.length X + List.length Y - o) : Int)))) (2 ^ 1)))) ?_
  refine kp 136 (.int IntKind.i64 (↑(List.length p + List.length X - o) : Int)) ?_
  refine kp 137 (.int IntKind.i64 (IntKind.wrap .i64 (IntKind.wrap .i64 (Int.fdiv (IntKind.wrap .u64 (IntKind.wrap .i64 ((↑(List.length p - o) : Int) + (↑(List.length p + List.length X + List.length Y - o) : Int)))) (2 ^ 1)) + (↑(List.length p + List.length X - o) : Int)))) ?_
  refine kp 19 (.int IntKind.i64 (IntKind.wrap .i64 (IntKind.wrap .i64 (Int.fdiv (IntKind.wrap .u64 (IntKind.wrap .i64 ((↑(List.length p - o) : Int) + (↑(List.length p + List.length X + List.length Y - o) : Int)))) (2 ^ 1)) + (↑(List.length p + List.length X - o) : Int)))) ?_
  refine WpOps.nil (thenK_at (Wp.seq (Wp.text ?_)))
  refine kp 20 (.int IntKind.i64 0) ?_
  refine kp 21 (.int IntKind.i64 0) ?_
  refine WpOps.nil (thenK_at (Wp.seq (Wp.seq (Wp.text ?_))))
  refine kp 138 (.int IntKind.i64 (↑(List.length p + List.length X - o) : Int)) ?_
  refine kp 139 (.int IntKind.i64 (IntKind.wrap .i64 (Int.fdiv (IntKind.wrap .u64 (IntKind.wrap .i64 ((↑(List.length p - o) : Int) + (↑(List.length p + List.length X + List.length Y - o) : Int)))) (2 ^ 1)))) ?_
  refine kp 140 (.bool (decide ((↑(List.length p + List.length X - o) : Int) > IntKind.wrap .i64 (Int.fdiv (IntKind.wrap .u64 (IntKind.wrap .i64 ((↑(List.length p - o) : Int) + (↑(List.length p + List.length X + List.length Y - o) : Int)))) (2 ^ 1))))) ?_
  refine WpOps.nil (thenK_at ?_)
  refine Wp.merge [(0, .slice (some ⟨0, o * 2, none⟩) n c), (1, .int .i64 (p.length - o : Nat)), (2, .int .i64 (p.length + X.length - o : Nat)), (3, .int .i64 (p.length + X.length + Y.length - o : Nat)), (4, .func (.func 43) #[] #[]), (18, .int .i64 (p.length + h - o : Nat)), (19, .int .i64 ((p.length + h - o + (p.length + X.length - o)) : Nat)), (20, .int .i64 (p.length + (h - Y.length) - o : Nat)), (21, .int .i64 (p.length + min h X.length - o : Nat))] [rowB (p ++ X ++ Y ++ q)] ?_ ?_
  · refine Wp.split (decide ((↑(List.length p + List.length X - o) : Int) > IntKind.wrap IntKind.i64 (Int.fdiv (IntKind.wrap IntKind.u64 (IntKind.wrap IntKind.i64 ((↑(List.length p - o) : Int) + (↑(List.length p + List.length X + List.length Y - o) : Int)))) (2 ^ 1)))) (by kernel_rfl) (fun hc => ?_) (fun hc => ?_)
    · have hc1 : h < X.length := by
        have := of_decide_eq_true hc
        rw [hh] at this
        omega
      have w1 : IntKind.i64.wrap (IntKind.i64.wrap (IntKind.i64.wrap ((IntKind.u64.wrap (IntKind.i64.wrap (((p.length - o : Nat) : Int) + ((p.length + X.length + Y.length - o : Nat) : Int)))).fdiv (2 ^ 1)) + ((p.length + X.length - o : Nat) : Int)) - ((p.length + X.length + Y.length - o : Nat) : Int)) = ((p.length + (h - Y.length) - o : Nat) : Int) := by rw [hnn, wr _ (by omega) (by omega)]; omega
      refine Wp.seq (Wp.text ?_)
      refine kp 141 (.int IntKind.i64 (IntKind.wrap .i64 (IntKind.wrap .i64 (Int.fdiv (IntKind.wrap .u64 (IntKind.wrap .i64 ((↑(List.length p - o) : Int) + (↑(List.length p + List.length X + List.length Y - o) : Int)))) (2 ^ 1)) + (↑(List.length p + List.length X - o) : Int)))) ?_
      refine kp 142 (.int IntKind.i64 (↑(List.length p + List.length X + List.length Y - o) : Int)) ?_
      refine kp 143 (.int IntKind.i64 (IntKind.wrap .i64 (IntKind.wrap .i64 (IntKind.wrap .i64 (Int.fdiv (IntKind.wrap .u64 (IntKind.wrap .i64 ((↑(List.length p - o) : Int) + (↑(List.length p + List.length X + List.length Y - o) : Int)))) (2 ^ 1)) + (↑(List.length p + List.length X - o) : Int)) - (↑(List.length p + List.length X + List.length Y - o) : Int)))) ?_
      refine kp 20 (.int IntKind.i64 (IntKind.wrap .i64 (IntKind.wrap .i64 (IntKind.wrap .i64 (Int.fdiv (IntKind.wrap .u64 (IntKind.wrap .i64 ((↑(List.length p - o) : Int) + (↑(List.length p + List.length X + List.length Y - o) : Int)))) (2 ^ 1)) + (↑(List.length p + List.length X - o) : Int)) - (↑(List.length p + List.length X + List.length Y - o) : Int)))) ?_
      refine WpOps.nil (thenK_at (Wp.text ?_))
      refine kp 144 (.int IntKind.i64 (IntKind.wrap .i64 (Int.fdiv (IntKind.wrap .u64 (IntKind.wrap .i64 ((↑(List.length p - o) : Int) + (↑(List.length p + List.length X + List.length Y - o) : Int)))) (2 ^ 1)))) ?_
      refine kp 21 (.int IntKind.i64 (IntKind.wrap .i64 (Int.fdiv (IntKind.wrap .u64 (IntKind.wrap .i64 ((↑(List.length p - o) : Int) + (↑(List.length p + List.length X + List.length Y - o) : Int)))) (2 ^ 1)))) ?_
      refine WpOps.nil ?_
      exact ⟨rfl, View.of [0] [rowB (p ++ X ++ Y ++ q)] _ (by decide) rfl ⟨⟨_, by kernel_rfl, CellsOk.eq rfl (tcs_flat _)⟩, trivial⟩ ⟨⟨by kernel_rfl, rfl⟩, ⟨by kernel_rfl, rfl⟩, ⟨by kernel_rfl, rfl⟩, ⟨by kernel_rfl, rfl⟩, ⟨by kernel_rfl, rfl⟩, ⟨congrArg (Value.int .i64) hh, rfl⟩, ⟨congrArg (Value.int .i64) hnn, rfl⟩, ⟨congrArg (Value.int .i64) w1, rfl⟩, ⟨congrArg (Value.int .i64) (hh.trans (by omega)), rfl⟩, trivial⟩⟩
    · have hc1 : X.length ≤ h := by
        have := of_decide_eq_false hc
        rw [hh] at this
        omega
      refine Wp.seq (Wp.text ?_)
      refine kp 145 (.int IntKind.i64 (↑(List.length p - o) : Int)) ?_
      refine kp 20 (.int IntKind.i64 (↑(List.length p - o) : Int)) ?_
      refine WpOps.nil (thenK_at (Wp.text ?_))
      refine kp 146 (.int IntKind.i64 (↑(List.length p + List.length X - o) : Int)) ?_
      refine kp 21 (.int IntKind.i64 (↑(List.length p + List.length X - o) : Int)) ?_
      refine WpOps.nil ?_
      exact ⟨rfl, View.of [0] [rowB (p ++ X ++ Y ++ q)] _ (by decide) rfl ⟨⟨_, by kernel_rfl, CellsOk.eq rfl (tcs_flat _)⟩, trivial⟩ ⟨⟨by kernel_rfl, rfl⟩, ⟨by kernel_rfl, rfl⟩, ⟨by kernel_rfl, rfl⟩, ⟨by kernel_rfl, rfl⟩, ⟨by kernel_rfl, rfl⟩, ⟨congrArg (Value.int .i64) hh, rfl⟩, ⟨congrArg (Value.int .i64) hnn, rfl⟩, ⟨congrArg (fun z : Nat => Value.int .i64 z) (show p.length - o = p.length + (h - Y.length) - o by omega), rfl⟩, ⟨congrArg (fun z : Nat => Value.int .i64 z) (show p.length + X.length - o = p.length + min h X.length - o by omega), rfl⟩, trivial⟩⟩
  have hpp : IntKind.i64.wrap ((((p.length + h - o + (p.length + X.length - o)) : Nat) : Int) - 1) = (((p.length + h - o + (p.length + X.length - o)) - 1 : Nat) : Int) := by rw [wr _ (by omega) (by omega)]; omega
  refine Wp.seq (Wp.text ?_)
  refine kp 147 (.int IntKind.i64 (↑(List.length p + h - o + (List.length p + List.length X - o)) : Int)) ?_
  refine kp 148 (.int IntKind.i64 (IntKind.wrap .i64 ((↑(List.length p + h - o + (List.length p + List.length X - o)) : Int) - 1))) ?_
  refine kp 22 (.int IntKind.i64 (IntKind.wrap .i64 ((↑(List.length p + h - o + (List.length p + List.length X - o)) : Int) - 1))) ?_
  refine WpOps.nil (thenK_at (Wp.seq (Wp.block ?_)))
  refine Wp.loop (G := Nat × Nat) (fun g => layj [(0, .slice (some ⟨0, o * 2, none⟩) n c), (1, .int .i64 (p.length - o : Nat)), (2, .int .i64 (p.length + X.length - o : Nat)), (3, .int .i64 (p.length + X.length + Y.length - o : Nat)), (4, .func (.func 43) #[] #[]), (18, .int .i64 (p.length + h - o : Nat)), (19, .int .i64 ((p.length + h - o + (p.length + X.length - o)) : Nat)), (20, .int .i64 (p.length + g.1 - o : Nat)), (21, .int .i64 (p.length + g.2 - o : Nat)), (22, .int .i64 ((p.length + h - o + (p.length + X.length - o)) - 1 : Nat))]) (fun _ => heapOf [rowB (p ++ X ++ Y ++ q)]) (fun g => g.2 - g.1) (fun g => h - Y.length ≤ g.1 ∧ g.1 ≤ g.2 ∧ g.2 ≤ min h X.length ∧ (∀ t x y, X[t]? = some x → Y[h - 1 - t]? = some y → h - Y.length ≤ t → t < g.1 → x.1 ≤ y.1) ∧ (∀ t x y, X[t]? = some x → Y[h - 1 - t]? = some y → g.2 ≤ t → t < min h X.length → y.1 < x.1)) (h - Y.length, min h X.length)
    (View.of [0] [rowB (p ++ X ++ Y ++ q)] _ (by decide) rfl ⟨⟨_, rfl, CellsOk.eq rfl (tcs_flat _)⟩, trivial⟩ ⟨⟨by kernel_rfl, rfl⟩, ⟨by kernel_rfl, rfl⟩, ⟨by kernel_rfl, rfl⟩, ⟨by kernel_rfl, rfl⟩, ⟨by kernel_rfl, rfl⟩, ⟨by kernel_rfl, rfl⟩, ⟨by kernel_rfl, rfl⟩, ⟨by kernel_rfl, rfl⟩, ⟨by kernel_rfl, rfl⟩, ⟨congrArg (Value.int .i64) hpp, rfl⟩, trivial⟩) ⟨Nat.le_refl _, by dsimp only; omega, Nat.le_refl _, fun t x y _ _ h1 h2 => by dsimp only at h1 h2; omega, fun t x y _ _ h1 h2 => by dsimp only at h1 h2; omega⟩ ?_
  rintro ⟨i, j⟩ ⟨h0, h1, h2, h3, h4⟩
  dsimp only at h0 h1 h2 h3 h4 ⊢
  unfold rowB
  by_cases hlt : i < j
  · have d1 : decide (((p.length + i - o : Nat) : Int) < ((p.length + j - o : Nat) : Int)) = true := decide_eq_true (by omega)
    have hf := half_eq (p.length + i - o) (p.length + j - o) (by omega)
    rw [show (p.length + i - o + (p.length + j - o)) / 2 = p.length + (i + j) / 2 - o by omega] at hf
    have ht1 : i ≤ (i + j) / 2 := by omega
    have ht2 : (i + j) / 2 < j := by omega
    generalize (i + j) / 2 = t at hf ht1 ht2
    have htX : t < X.length := by omega
    have htY : h - 1 - t < Y.length := by omega
    have w2 : IntKind.i64.wrap ((((p.length + h - o + (p.length + X.length - o)) - 1 : Nat) : Int) - IntKind.i64.wrap ((IntKind.u64.wrap (IntKind.i64.wrap (((p.length + i - o : Nat) : Int) + ((p.length + j - o : Nat) : Int)))).fdiv (2 ^ 1))) = ((p.length + (h + X.length - 1 - t) - o : Nat) : Int) := by rw [hf, wr _ (by omega) (by omega)]; omega
    have g1 : 0 ≤ IntKind.i64.wrap ((IntKind.u64.wrap (IntKind.i64.wrap (((p.length + i - o : Nat) : Int) + ((p.length + j - o : Nat) : Int)))).fdiv (2 ^ 1)) ∧ IntKind.i64.wrap ((IntKind.u64.wrap (IntKind.i64.wrap (((p.length + i - o : Nat) : Int) + ((p.length + j - o : Nat) : Int)))).fdiv (2 ^ 1)) < n := by rw [hf]; omega
    have g2 : 0 ≤ IntKind.i64.wrap ((((p.length + h - o + (p.length + X.length - o)) - 1 : Nat) : Int) - IntKind.i64.wrap ((IntKind.u64.wrap (IntKind.i64.wrap (((p.length + i - o : Nat) : Int) + ((p.length + j - o : Nat) : Int)))).fdiv (2 ^ 1))) ∧ IntKind.i64.wrap ((((p.length + h - o + (p.length + X.length - o)) - 1 : Nat) : Int) - IntKind.i64.wrap ((IntKind.u64.wrap (IntKind.i64.wrap (((p.length + i - o : Nat) : Int) + ((p.length + j - o : Nat) : Int)))).fdiv (2 ^ 1))) < n := by rw [w2]; omega
    have c1 := tcs_at (show (p ++ X ++ Y ++ q)[p.length + t]? = some X[t] by rw [List.append_assoc (p ++ X), at_in _ _ _ htX, List.getElem?_eq_getElem htX])
    rw [show (p.length + t) * 2 = o * 2 + (IntKind.i64.wrap ((IntKind.u64.wrap (IntKind.i64.wrap (((p.length + i - o : Nat) : Int) + ((p.length + j - o : Nat) : Int)))).fdiv (2 ^ 1))).toNat * 2 by rw [hf, Int.toNat_natCast]; omega] at c1
    have c2 := tcs_at (show (p ++ X ++ Y ++ q)[p.length + (h + X.length - 1 - t)]? = some Y[h - 1 - t] by rw [show p.length + (h + X.length - 1 - t) = (p ++ X).length + (h - 1 - t) by rw [List.length_append]; omega, at_in _ _ _ htY, List.getElem?_eq_getElem htY])
    rw [show (p.length + (h + X.length - 1 - t)) * 2 = o * 2 + (IntKind.i64.wrap ((((p.length + h - o + (p.length + X.length - o)) - 1 : Nat) : Int) - IntKind.i64.wrap ((IntKind.u64.wrap (IntKind.i64.wrap (((p.length + i - o : Nat) : Int) + ((p.length + j - o : Nat) : Int)))).fdiv (2 ^ 1)))).toNat * 2 by rw [w2, Int.toNat_natCast]; omega] at c2
    have hx := hin X[t] (by simp)
    have hy := hin Y[h - 1 - t] (by simp)
    have cm := cmp43 Y[h - 1 - t] X[t] hy hx
    unfold tc at cm
    by_cases hxy : Y[h - 1 - t].1 < X[t].1
    · have d3 : decide (Y[h - 1 - t].1 - X[t].1 < 0) = true := decide_eq_true (by omega)
      refine Wp.seq (Wp.seq (Wp.text ?_))
      refine kp 149 (.int IntKind.i64 (↑(List.length p + i - o) : Int)) ?_
      refine kp 150 (.int IntKind.i64 (↑(List.length p + j - o) : Int)) ?_
      refine kp 151 (.bool true) ?_ (hop := fun _ => by_fact d1)
      refine WpOps.nil (thenK_at (on' (Wp.skip (thenK_at (Wp.block (Wp.seq (Wp.text ?_)))))))
      refine kp 152 (.int IntKind.i64 (↑(List.length p + i - o) : Int)) ?_
      refine kp 153 (.int IntKind.i64 (↑(List.length p + j - o) : Int)) ?_
      refine kp 154 (.int IntKind.i64 (IntKind.wrap .i64 ((↑(List.length p + i - o) : Int) + (↑(List.length p + j - o) : Int)))) ?_
      refine kp 155 (.int IntKind.u64 (IntKind.wrap .u64 (IntKind.wrap .i64 ((↑(List.length p + i - o) : Int) + (↑(List.length p + j - o) : Int))))) ?_
      refine kp 156 (.int IntKind.u64 (Int.fdiv (IntKind.wrap .u64 (IntKind.wrap .i64 ((↑(List.length p + i - o) : Int) + (↑(List.length p + j - o) : Int)))) (2 ^ 1))) ?_
      refine kp 157 (.int IntKind.i64 (IntKind.wrap .i64 (Int.fdiv (IntKind.wrap .u64 (IntKind.wrap .i64 ((↑(List.length p + i - o) : Int) + (↑(List.length p + j - o) : Int)))) (2 ^ 1)))) ?_
      refine kp 23 (.int IntKind.i64 (IntKind.wrap .i64 (Int.fdiv (IntKind.wrap .u64 (IntKind.wrap .i64 ((↑(List.length p + i - o) : Int) + (↑(List.length p + j - o) : Int)))) (2 ^ 1)))) ?_
      refine WpOps.nil (thenK_at (Wp.seq ?_))
      refine Wp.region (by kernel_rfl) ?_
      refine kp 158 (.func (Fn.func 43) #[] #[]) ?_
      refine kp 159 (.slice (some (Addr.mk 0 (o * 2) none)) n c) ?_
      refine kp 160 (.int IntKind.i64 (↑(List.length p + h - o + (List.length p + List.length X - o) - 1) : Int)) ?_
      refine kp 161 (.int IntKind.i64 (IntKind.wrap .i64 (Int.fdiv (IntKind.wrap .u64 (IntKind.wrap .i64 ((↑(List.length p + i - o) : Int) + (↑(List.length p + j - o) : Int)))) (2 ^ 1)))) ?_
      refine kp 162 (.int IntKind.i64 (IntKind.wrap .i64 ((↑(List.length p + h - o + (List.length p + List.length X - o) - 1) : Int) - IntKind.wrap .i64 (Int.fdiv (IntKind.wrap .u64 (IntKind.wrap .i64 ((↑(List.length p + i - o) : Int) + (↑(List.length p + j - o) : Int)))) (2 ^ 1))))) ?_
      refine kp 163 (.pointer (some (Addr.mk 0 (o * 2 + Int.toNat (IntKind.wrap .i64 ((↑(List.length p + h - o + (List.length p + List.length X - o) - 1) : Int) - IntKind.wrap .i64 (Int.fdiv (IntKind.wrap .u64 (IntKind.wrap .i64 ((↑(List.length p + i - o) : Int) + (↑(List.length p + j - o) : Int)))) (2 ^ 1)))) * 2) none))) ?_ (hop := fun _ => o_indexAddr (a := IntKind.wrap IntKind.i64 ((↑(List.length p + h - o + (List.length p + List.length X - o) - 1) : Int) - IntKind.wrap IntKind.i64 (Int.fdiv (IntKind.wrap IntKind.u64 (IntKind.wrap IntKind.i64 ((↑(List.length p + i - o) : Int) + (↑(List.length p + j - o) : Int)))) (2 ^ 1)))) (bl := 0) (off := o * 2) (size := 2) 73 (n) g2)
      refine kp 164 (.agg #[Value.int .i64 (Prod.fst Y[h - 1 - t]), Value.string (Prod.snd Y[h - 1 - t])]) ?_ (hop := fun _ => o_loadA (0) (o * 2 + Int.toNat (IntKind.wrap IntKind.i64 ((↑(List.length p + h - o + (List.length p + List.length X - o) - 1) : Int) - IntKind.wrap IntKind.i64 (Int.fdiv (IntKind.wrap IntKind.u64 (IntKind.wrap IntKind.i64 ((↑(List.length p + i - o) : Int) + (↑(List.length p + j - o) : Int)))) (2 ^ 1)))) * 2) c2)
      refine kp 165 (.slice (some (Addr.mk 0 (o * 2) none)) n c) ?_
      refine kp 166 (.int IntKind.i64 (IntKind.wrap .i64 (Int.fdiv (IntKind.wrap .u64 (IntKind.wrap .i64 ((↑(List.length p + i - o) : Int) + (↑(List.length p + j - o) : Int)))) (2 ^ 1)))) ?_
      refine kp 167 (.pointer (some (Addr.mk 0 (o * 2 + Int.toNat (IntKind.wrap .i64 (Int.fdiv (IntKind.wrap .u64 (IntKind.wrap .i64 ((↑(List.length p + i - o) : Int) + (↑(List.length p + j - o) : Int)))) (2 ^ 1))) * 2) none))) ?_ (hop := fun _ => o_indexAddr (a := IntKind.wrap IntKind.i64 (Int.fdiv (IntKind.wrap IntKind.u64 (IntKind.wrap IntKind.i64 ((↑(List.length p + i - o) : Int) + (↑(List.length p + j - o) : Int)))) (2 ^ 1))) (bl := 0) (off := o * 2) (size := 2) 73 (n) g1)
      refine kp 168 (.agg #[Value.int .i64 (Prod.fst X[t]), Value.string (Prod.snd X[t])]) ?_ (hop := fun _ => o_loadA (0) (o * 2 + Int.toNat (IntKind.wrap IntKind.i64 (Int.fdiv (IntKind.wrap IntKind.u64 (IntKind.wrap IntKind.i64 ((↑(List.length p + i - o) : Int) + (↑(List.length p + j - o) : Int)))) (2 ^ 1))) * 2) c1)
      refine fr 169 43 [Value.agg #[Value.int .i64 (Prod.fst Y[h - 1 - t]), Value.string (Prod.snd Y[h - 1 - t])], Value.agg #[Value.int .i64 (Prod.fst X[t]), Value.string (Prod.snd X[t])]] ?_
      refine WpFun.of (cm) ?_
      refine kp 170 (.bool true) ?_ (hop := fun _ => by_fact d3)
      refine kp 171 (.bool false) ?_
      refine WpOps.nil (thenK_at (off' (Wp.text ?_)))
      refine kp 174 (.int IntKind.i64 (IntKind.wrap .i64 (Int.fdiv (IntKind.wrap .u64 (IntKind.wrap .i64 ((↑(List.length p + i - o) : Int) + (↑(List.length p + j - o) : Int)))) (2 ^ 1)))) ?_
      refine kp 21 (.int IntKind.i64 (IntKind.wrap .i64 (Int.fdiv (IntKind.wrap .u64 (IntKind.wrap .i64 ((↑(List.length p + i - o) : Int) + (↑(List.length p + j - o) : Int)))) (2 ^ 1)))) ?_
      refine WpOps.nil (blockK_norm (thenK_at ?_))
      refine ⟨(i, t), by dsimp only; omega, ⟨h0, ht1, by dsimp only; omega, h3, fun s x y hx2 hy2 hs hs2 => ?_⟩, View.of [0] [rowB (p ++ X ++ Y ++ q)] _ (by decide) rfl ⟨⟨_, by kernel_rfl, CellsOk.eq rfl (tcs_flat _)⟩, trivial⟩ ⟨⟨by kernel_rfl, rfl⟩, ⟨by kernel_rfl, rfl⟩, ⟨by kernel_rfl, rfl⟩, ⟨by kernel_rfl, rfl⟩, ⟨by kernel_rfl, rfl⟩, ⟨by kernel_rfl, rfl⟩, ⟨by kernel_rfl, rfl⟩, ⟨by kernel_rfl, rfl⟩, ⟨congrArg (Value.int .i64) hf, rfl⟩, ⟨by kernel_rfl, rfl⟩, trivial⟩⟩
      obtain ⟨l1, rfl⟩ := List.getElem?_eq_some_iff.1 hx2
      obtain ⟨l2, rfl⟩ := List.getElem?_eq_some_iff.1 hy2
      dsimp only at hs
      have a1 := srt_get hSX htX l1 hs
      have a2 := srt_get hSY l2 htY (by omega)
      omega
    · have d3 : decide (Y[h - 1 - t].1 - X[t].1 < 0) = false := decide_eq_false (by omega)
      have w : IntKind.i64.wrap (IntKind.i64.wrap ((IntKind.u64.wrap (IntKind.i64.wrap (((p.length + i - o : Nat) : Int) + ((p.length + j - o : Nat) : Int)))).fdiv (2 ^ 1)) + 1) = ((p.length + (t + 1) - o : Nat) : Int) := by rw [hf, wr _ (by omega) (by omega)]; omega
      refine Wp.seq (Wp.seq (Wp.text ?_))
      refine kp 149 (.int IntKind.i64 (↑(List.length p + i - o) : Int)) ?_
      refine kp 150 (.int IntKind.i64 (↑(List.length p + j - o) : Int)) ?_
      refine kp 151 (.bool true) ?_ (hop := fun _ => by_fact d1)
      refine WpOps.nil (thenK_at (on' (Wp.skip (thenK_at (Wp.block (Wp.seq (Wp.text ?_)))))))
      refine kp 152 (.int IntKind.i64 (↑(List.length p + i - o) : Int)) ?_
      refine kp 153 (.int IntKind.i64 (↑(List.length p + j - o) : Int)) ?_
      refine kp 154 (.int IntKind.i64 (IntKind.wrap .i64 ((↑(List.length p + i - o) : Int) + (↑(List.length p + j - o) : Int)))) ?_
      refine kp 155 (.int IntKind.u64 (IntKind.wrap .u64 (IntKind.wrap .i64 ((↑(List.length p + i - o) : Int) + (↑(List.length p + j - o) : Int))))) ?_
      refine kp 156 (.int IntKind.u64 (Int.fdiv (IntKind.wrap .u64 (IntKind.wrap .i64 ((↑(List.length p + i - o) : Int) + (↑(List.length p + j - o) : Int)))) (2 ^ 1))) ?_
      refine kp 157 (.int IntKind.i64 (IntKind.wrap .i64 (Int.fdiv (IntKind.wrap .u64 (IntKind.wrap .i64 ((↑(List.length p + i - o) : Int) + (↑(List.length p + j - o) : Int)))) (2 ^ 1)))) ?_
      refine kp 23 (.int IntKind.i64 (IntKind.wrap .i64 (Int.fdiv (IntKind.wrap .u64 (IntKind.wrap .i64 ((↑(List.length p + i - o) : Int) + (↑(List.length p + j - o) : Int)))) (2 ^ 1)))) ?_
      refine WpOps.nil (thenK_at (Wp.seq ?_))
      refine Wp.region (by kernel_rfl) ?_
      refine kp 158 (.func (Fn.func 43) #[] #[]) ?_
      refine kp 159 (.slice (some (Addr.mk 0 (o * 2) none)) n c) ?_
      refine kp 160 (.int IntKind.i64 (↑(List.length p + h - o + (List.length p + List.length X - o) - 1) : Int)) ?_
      refine kp 161 (.int IntKind.i64 (IntKind.wrap .i64 (Int.fdiv (IntKind.wrap .u64 (IntKind.wrap .i64 ((↑(List.length p + i - o) : Int) + (↑(List.length p + j - o) : Int)))) (2 ^ 1)))) ?_
      refine kp 162 (.int IntKind.i64 (IntKind.wrap .i64 ((↑(List.length p + h - o + (List.length p + List.length X - o) - 1) : Int) - IntKind.wrap .i64 (Int.fdiv (IntKind.wrap .u64 (IntKind.wrap .i64 ((↑(List.length p + i - o) : Int) + (↑(List.length p + j - o) : Int)))) (2 ^ 1))))) ?_
      refine kp 163 (.pointer (some (Addr.mk 0 (o * 2 + Int.toNat (IntKind.wrap .i64 ((↑(List.length p + h - o + (List.length p + List.length X - o) - 1) : Int) - IntKind.wrap .i64 (Int.fdiv (IntKind.wrap .u64 (IntKind.wrap .i64 ((↑(List.length p + i - o) : Int) + (↑(List.length p + j - o) : Int)))) (2 ^ 1)))) * 2) none))) ?_ (hop := fun _ => o_indexAddr (a := IntKind.wrap IntKind.i64 ((↑(List.length p + h - o + (List.length p + List.length X - o) - 1) : Int) - IntKind.wrap IntKind.i64 (Int.fdiv (IntKind.wrap IntKind.u64 (IntKind.wrap IntKind.i64 ((↑(List.length p + i - o) : Int) + (↑(List.length p + j - o) : Int)))) (2 ^ 1)))) (bl := 0) (off := o * 2) (size := 2) 73 (n) g2)
      refine kp 164 (.agg #[Value.int .i64 (Prod.fst Y[h - 1 - t]), Value.string (Prod.snd Y[h - 1 - t])]) ?_ (hop := fun _ => o_loadA (0) (o * 2 + Int.toNat (IntKind.wrap IntKind.i64 ((↑(List.length p + h - o + (List.length p + List.length X - o) - 1) : Int) - IntKind.wrap IntKind.i64 (Int.fdiv (IntKind.wrap IntKind.u64 (IntKind.wrap IntKind.i64 ((↑(List.length p + i - o) : Int) + (↑(List.length p + j - o) : Int)))) (2 ^ 1)))) * 2) c2)
      refine kp 165 (.slice (some (Addr.mk 0 (o * 2) none)) n c) ?_
      refine kp 166 (.int IntKind.i64 (IntKind.wrap .i64 (Int.fdiv (IntKind.wrap .u64 (IntKind.wrap .i64 ((↑(List.length p + i - o) : Int) + (↑(List.length p + j - o) : Int)))) (2 ^ 1)))) ?_
      refine kp 167 (.pointer (some (Addr.mk 0 (o * 2 + Int.toNat (IntKind.wrap .i64 (Int.fdiv (IntKind.wrap .u64 (IntKind.wrap .i64 ((↑(List.length p + i - o) : Int) + (↑(List.length p + j - o) : Int)))) (2 ^ 1))) * 2) none))) ?_ (hop := fun _ => o_indexAddr (a := IntKind.wrap IntKind.i64 (Int.fdiv (IntKind.wrap IntKind.u64 (IntKind.wrap IntKind.i64 ((↑(List.length p + i - o) : Int) + (↑(List.length p + j - o) : Int)))) (2 ^ 1))) (bl := 0) (off := o * 2) (size := 2) 73 (n) g1)
      refine kp 168 (.agg #[Value.int .i64 (Prod.fst X[t]), Value.string (Prod.snd X[t])]) ?_ (hop := fun _ => o_loadA (0) (o * 2 + Int.toNat (IntKind.wrap IntKind.i64 (Int.fdiv (IntKind.wrap IntKind.u64 (IntKind.wrap IntKind.i64 ((↑(List.length p + i - o) : Int) + (↑(List.length p + j - o) : Int)))) (2 ^ 1))) * 2) c1)
      refine fr 169 43 [Value.agg #[Value.int .i64 (Prod.fst Y[h - 1 - t]), Value.string (Prod.snd Y[h - 1 - t])], Value.agg #[Value.int .i64 (Prod.fst X[t]), Value.string (Prod.snd X[t])]] ?_
      refine WpFun.of (cm) ?_
      refine kp 170 (.bool false) ?_ (hop := fun _ => by_fact d3)
      refine kp 171 (.bool true) ?_
      refine WpOps.nil (thenK_at (on' (Wp.text ?_)))
      refine kp 172 (.int IntKind.i64 (IntKind.wrap .i64 (Int.fdiv (IntKind.wrap .u64 (IntKind.wrap .i64 ((↑(List.length p + i - o) : Int) + (↑(List.length p + j - o) : Int)))) (2 ^ 1)))) ?_
      refine kp 173 (.int IntKind.i64 (IntKind.wrap .i64 (IntKind.wrap .i64 (Int.fdiv (IntKind.wrap .u64 (IntKind.wrap .i64 ((↑(List.length p + i - o) : Int) + (↑(List.length p + j - o) : Int)))) (2 ^ 1)) + 1))) ?_
      refine kp 20 (.int IntKind.i64 (IntKind.wrap .i64 (IntKind.wrap .i64 (Int.fdiv (IntKind.wrap .u64 (IntKind.wrap .i64 ((↑(List.length p + i - o) : Int) + (↑(List.length p + j - o) : Int)))) (2 ^ 1)) + 1))) ?_
      refine WpOps.nil (blockK_norm (thenK_at ?_))
      refine ⟨(t + 1, j), by dsimp only; omega, ⟨by dsimp only; omega, by dsimp only; omega, h2, fun s x y hx2 hy2 hs hs2 => ?_, h4⟩, View.of [0] [rowB (p ++ X ++ Y ++ q)] _ (by decide) rfl ⟨⟨_, by kernel_rfl, CellsOk.eq rfl (tcs_flat _)⟩, trivial⟩ ⟨⟨by kernel_rfl, rfl⟩, ⟨by kernel_rfl, rfl⟩, ⟨by kernel_rfl, rfl⟩, ⟨by kernel_rfl, rfl⟩, ⟨by kernel_rfl, rfl⟩, ⟨by kernel_rfl, rfl⟩, ⟨by kernel_rfl, rfl⟩, ⟨congrArg (Value.int .i64) w, rfl⟩, ⟨by kernel_rfl, rfl⟩, ⟨by kernel_rfl, rfl⟩, trivial⟩⟩
      obtain ⟨l1, rfl⟩ := List.getElem?_eq_some_iff.1 hx2
      obtain ⟨l2, rfl⟩ := List.getElem?_eq_some_iff.1 hy2
      dsimp only at hs2
      have a1 := srt_get hSX l1 htX (by omega)
      have a2 := srt_get hSY htY l2 (by omega)
      omega
  · obtain rfl : i = j := by omega
    have d1 : decide (((p.length + i - o : Nat) : Int) < ((p.length + i - o : Nat) : Int)) = false := decide_eq_false (by omega)
    obtain ⟨x1, x2⟩ := cross hSX hSY h0 h2 h3 h4
    have hXs : X.take i ++ X.drop i = X := List.take_append_drop _ _
    have hYs : Y.take (h - i) ++ Y.drop (h - i) = Y := List.take_append_drop _ _
    have hms := merge_split (X1 := X.take i) (X2 := X.drop i) (Y1 := Y.take (h - i)) (Y2 := Y.drop (h - i)) (by rw [hXs]; exact hSX) (by rw [hYs]; exact hSY) x1 x2
    rw [hXs, hYs] at hms
    have sX := hSX
    rw [← hXs] at sX
    have sY := hSY
    rw [← hYs] at sY
    obtain ⟨sX1, sX2, _⟩ := srt_app.1 sX
    obtain ⟨sY1, sY2, _⟩ := srt_app.1 sY
    have m1 : ∀ z ∈ X.take i, z ∈ X := fun z hz => List.mem_of_mem_take hz
    have m2 : ∀ z ∈ X.drop i, z ∈ X := fun z hz => List.mem_of_mem_drop hz
    have m3 : ∀ z ∈ Y.take (h - i), z ∈ Y := fun z hz => List.mem_of_mem_take hz
    have m4 : ∀ z ∈ Y.drop (h - i), z ∈ Y := fun z hz => List.mem_of_mem_drop hz
    have hrow : (p ++ X ++ Y ++ q) = p ++ (X.take i ++ X.drop i) ++ (Y.take (h - i) ++ Y.drop (h - i)) ++ q := by rw [hXs, hYs]
    have l1 : (X.take i).length = i := by rw [List.length_take]; omega
    have l2 : (X.drop i).length = X.length - i := List.length_drop
    have l3 : (Y.take (h - i)).length = h - i := by rw [List.length_take]; omega
    have l4 : (Y.drop (h - i)).length = Y.length - (h - i) := List.length_drop
    generalize X.take i = X1 at x1 x2 hms sX1 hrow l1 m1
    generalize X.drop i = X2 at x1 x2 hms sX2 hrow l2 m2
    generalize Y.take (h - i) = Y1 at x1 x2 hms sY1 hrow l3 m3
    generalize Y.drop (h - i) = Y2 at x1 x2 hms sY2 hrow l4 m4
    have hend : IntKind.i64.wrap ((((p.length + h - o + (p.length + X.length - o)) : Nat) : Int) - ((p.length + i - o : Nat) : Int)) = ((p.length + (h + X.length - i) - o : Nat) : Int) := by rw [wr _ (by omega) (by omega)]; omega
    have hs : ∀ l, (ssort l).length = l.length := fun l => (ssort_flt l).len
    have nil_of : ∀ l : List Tr, l.length = 0 → l = [] := fun l h => List.eq_nil_of_length_eq_zero h
    have hrot : ¬ (i < X.length ∧ i < h) → X2 ++ Y1 = Y1 ++ X2 := fun hn => by
      by_cases e : i < X.length
      · rw [nil_of Y1 (by omega)]
        simp
      · rw [nil_of X2 (by omega)]
        simp
    have hr1 : ¬ (0 < i ∧ i < h) → ssort (X1 ++ Y1) = X1 ++ Y1 := fun hn => by
      by_cases e : 0 < i
      · rw [nil_of Y1 (by omega), List.append_nil, ssort_id sX1]
      · rw [nil_of X1 (by omega), List.nil_append, ssort_id sY1]
    have hr2 : ¬ (i < X.length ∧ h - i < Y.length) → ssort (X2 ++ Y2) = X2 ++ Y2 := fun hn => by
      by_cases e : i < X.length
      · rw [nil_of Y2 (by omega), List.append_nil, ssort_id sX2]
      · rw [nil_of X2 (by omega), List.nil_append, ssort_id sY2]
    have ih1 : 0 < i ∧ i < h → SCall E 63 [.slice (some ⟨0, o * 2, none⟩) n c, .int .i64 (p.length - o : Nat), .int .i64 (p.length + i - o : Nat), .int .i64 (p.length + h - o : Nat), .func (.func 43) #[] #[]] (heapOf [rowB (p ++ X1 ++ Y1 ++ (X2 ++ Y2 ++ q))]) (.tuple #[]) (heapOf [rowB (p ++ ssort (X1 ++ Y1) ++ (X2 ++ Y2 ++ q))]) := fun hc => by
      have := (IH p X1 Y1 (X2 ++ Y2 ++ q) (by omega) (by omega) (by omega) sX1 sY1 (fun z hz => hin z (by
        rcases List.mem_append.1 hz with hz | hz
        · exact List.mem_append_left _ (m1 z hz)
        · exact List.mem_append_right _ (m3 z hz))) ho (by omega)).call
      rw [l1, l3, show p.length + i + (h - i) - o = p.length + h - o by omega] at this
      exact this
    have ih2 : i < X.length ∧ h - i < Y.length → SCall E 63 [.slice (some ⟨0, o * 2, none⟩) n c, .int .i64 (p.length + h - o : Nat), .int .i64 (p.length + (h + X.length - i) - o : Nat), .int .i64 (p.length + X.length + Y.length - o : Nat), .func (.func 43) #[] #[]] (heapOf [rowB (p ++ ssort (X1 ++ Y1) ++ X2 ++ Y2 ++ q)]) (.tuple #[]) (heapOf [rowB (p ++ ssort (X1 ++ Y1) ++ ssort (X2 ++ Y2) ++ q)]) := fun hc => by
      have hl : (p ++ ssort (X1 ++ Y1)).length = p.length + h := by rw [List.length_append, hs, List.length_append, l1, l3]; omega
      have := (IH (p ++ ssort (X1 ++ Y1)) X2 Y2 q (by omega) (by omega) (by omega) sX2 sY2 (fun z hz => hin z (by
        rcases List.mem_append.1 hz with hz | hz
        · exact List.mem_append_left _ (m2 z hz)
        · exact List.mem_append_right _ (m4 z hz))) (by omega) (by omega)).call
      rw [hl, l2, l4, show p.length + h + (X.length - i) - o = p.length + (h + X.length - i) - o by omega, show p.length + h + (X.length - i) + (Y.length - (h - i)) - o = p.length + X.length + Y.length - o by omega] at this
      exact this
    rw [hms]
    refine Wp.seq (Wp.seq (Wp.text ?_))
    refine kp 149 (.int IntKind.i64 (↑(List.length p + i - o) : Int)) ?_
    refine kp 150 (.int IntKind.i64 (↑(List.length p + i - o) : Int)) ?_
    refine kp 151 (.bool false) ?_ (hop := fun _ => by_fact d1)
    refine WpOps.nil (thenK_at (off' (Wp.exit (thenK_exit (thenK_exit (blockK_hit (thenK_at (Wp.seq (Wp.text ?_)))))))))
    refine kp 175 (.int IntKind.i64 (↑(List.length p + h - o + (List.length p + List.length X - o)) : Int)) ?_
    refine kp 176 (.int IntKind.i64 (↑(List.length p + i - o) : Int)) ?_
    refine kp 177 (.int IntKind.i64 (IntKind.wrap .i64 ((↑(List.length p + h - o + (List.length p + List.length X - o)) : Int) - (↑(List.length p + i - o) : Int)))) ?_
    refine kp 24 (.int IntKind.i64 (IntKind.wrap .i64 ((↑(List.length p + h - o + (List.length p + List.length X - o)) : Int) - (↑(List.length p + i - o) : Int)))) ?_
    refine WpOps.nil (thenK_at (Wp.seq (Wp.seq (Wp.text ?_))))
    refine kp 178 (.int IntKind.i64 (↑(List.length p + i - o) : Int)) ?_
    refine kp 179 (.int IntKind.i64 (↑(List.length p + List.length X - o) : Int)) ?_
    refine kp 180 (.bool (decide ((↑(List.length p + i - o) : Int) < (↑(List.length p + List.length X - o) : Int)))) ?_
    refine kp 181 (.bool (decide ((↑(List.length p + i - o) : Int) < (↑(List.length p + List.length X - o) : Int)))) ?_
    refine WpOps.fork 4 (decide ((↑(List.length p + i - o) : Int) < (↑(List.length p + List.length X - o) : Int))) [182, 183, 184, 185] 185 (decide ((↑(List.length p + List.length X - o) : Int) < IntKind.wrap IntKind.i64 ((↑(List.length p + h - o + (List.length p + List.length X - o)) : Int) - (↑(List.length p + i - o) : Int)))) (false) (by kernel_rfl) (fun g185 => ?_) (fun g185 => ?_) (fun f_185 b185 hb185 => ?_)
    · refine kp 182 (.int IntKind.i64 (↑(List.length p + List.length X - o) : Int)) ?_ (hw := wants_tt g185)
      refine kp 183 (.int IntKind.i64 (IntKind.wrap .i64 ((↑(List.length p + h - o + (List.length p + List.length X - o)) : Int) - (↑(List.length p + i - o) : Int)))) ?_ (hw := wants_tt g185)
      refine kp 184 (.bool (decide ((↑(List.length p + List.length X - o) : Int) < IntKind.wrap .i64 ((↑(List.length p + h - o + (List.length p + List.length X - o)) : Int) - (↑(List.length p + i - o) : Int))))) ?_ (hw := wants_tt g185)
      refine kp 185 (.bool (decide ((↑(List.length p + List.length X - o) : Int) < IntKind.wrap .i64 ((↑(List.length p + h - o + (List.length p + List.length X - o)) : Int) - (↑(List.length p + i - o) : Int))))) ?_ (hop := fun _ => o_pickT g185)
      refine WpOps.nil ?_
      exact ⟨rfl, (.upd rfl (.upd rfl (.upd rfl (.upd rfl .refl)))), (by kernel_rfl)⟩
    · refine um 182 ?_ (hw := wants_ft g185)
      refine um 183 ?_ (hw := wants_ft g185)
      refine um 184 ?_ (hw := wants_ft g185)
      refine kp 185 (.bool false) ?_ (hop := fun _ => o_pickF g185)
      refine WpOps.nil ?_
      exact ⟨rfl, (.upd rfl (.upd rfl (.upd rfl (.upd rfl .refl)))), (by kernel_rfl)⟩
    refine WpOps.nil (thenK_at ?_)
    refine Wp.merge [(0, .slice (some ⟨0, o * 2, none⟩) n c), (1, .int .i64 (p.length - o : Nat)), (3, .int .i64 (p.length + X.length + Y.length - o : Nat)), (4, .func (.func 43) #[] #[]), (18, .int .i64 (p.length + h - o : Nat)), (20, .int .i64 (p.length + i - o : Nat)), (24, .int .i64 (p.length + (h + X.length - i) - o : Nat))] [rowB (p ++ X1 ++ Y1 ++ (X2 ++ Y2 ++ q))] ?_ ?_
    · by_cases hc : i < X.length ∧ i < h
      · obtain rfl : b185 = true := by
          rw [hb185, decide_eq_true (show ((p.length + i - o : Nat) : Int) < ((p.length + X.length - o : Nat) : Int) by omega), decide_eq_true (show ((p.length + X.length - o : Nat) : Int) < IntKind.i64.wrap ((((p.length + h - o + (p.length + X.length - o)) : Nat) : Int) - ((p.length + i - o : Nat) : Int)) by rw [hend]; omega)]
          rfl
        have cs := (rot64 n c o (p ++ X1) X2 Y1 (Y2 ++ q) (by omega) (by omega) (by rw [List.length_append]; omega) (by rw [List.length_append]; omega) hn2 hcc).call
        rw [List.length_append, l1, l2, l3, show p.length + i + (X.length - i) - o = p.length + X.length - o by omega, show p.length + i + (X.length - i) + (h - i) - o = p.length + (h + X.length - i) - o by omega, show p ++ X1 ++ X2 ++ Y1 ++ (Y2 ++ q) = (p ++ X ++ Y ++ q) by rw [hrow]; simp, ← hend] at cs
        refine on' (Wp.text ?_)
        refine kp 186 (.slice (some (Addr.mk 0 (o * 2) none)) n c) ?_
        refine kp 187 (.int IntKind.i64 (↑(List.length p + i - o) : Int)) ?_
        refine kp 188 (.int IntKind.i64 (↑(List.length p + List.length X - o) : Int)) ?_
        refine kp 189 (.int IntKind.i64 (IntKind.wrap .i64 ((↑(List.length p + h - o + (List.length p + List.length X - o)) : Int) - (↑(List.length p + i - o) : Int)))) ?_
        refine kp 190 (.func (Fn.func 43) #[] #[]) ?_
        refine cl 191 64 [Value.slice (some (Addr.mk 0 (o * 2) none)) n c, Value.int .i64 (↑(List.length p + i - o) : Int), Value.int .i64 (↑(List.length p + List.length X - o) : Int), Value.int .i64 (IntKind.wrap .i64 ((↑(List.length p + h - o + (List.length p + List.length X - o)) : Int) - (↑(List.length p + i - o) : Int))), Value.func (Fn.func 43) #[] #[]] ?_
        refine WpCall.enterL cs rfl ?_
        refine WpOps.nil ?_
        exact ⟨rfl, View.of [0] [rowB (p ++ X1 ++ Y1 ++ (X2 ++ Y2 ++ q))] _ (by decide) rfl ⟨⟨tcs (p ++ X1 ++ Y1 ++ X2 ++ (Y2 ++ q)), by kernel_rfl, CellsOk.eq (by simp [rowB]) (tcs_flat _)⟩, trivial⟩ ⟨⟨by kernel_rfl, rfl⟩, ⟨by kernel_rfl, rfl⟩, ⟨by kernel_rfl, rfl⟩, ⟨by kernel_rfl, rfl⟩, ⟨by kernel_rfl, rfl⟩, ⟨by kernel_rfl, rfl⟩, ⟨congrArg (Value.int .i64) hend, rfl⟩, trivial⟩⟩
      · obtain rfl : b185 = false := by
          rw [hb185]
          by_cases e : i < X.length
          · rw [decide_eq_true (show ((p.length + i - o : Nat) : Int) < ((p.length + X.length - o : Nat) : Int) by omega), decide_eq_false (show ¬ ((p.length + X.length - o : Nat) : Int) < IntKind.i64.wrap ((((p.length + h - o + (p.length + X.length - o)) : Nat) : Int) - ((p.length + i - o : Nat) : Int)) by rw [hend]; omega)]
            rfl
          · rw [decide_eq_false (show ¬ ((p.length + i - o : Nat) : Int) < ((p.length + X.length - o : Nat) : Int) by omega)]
            rfl
        refine off' (Wp.skip ?_)
        have hrw : (p ++ X ++ Y ++ q) = p ++ X1 ++ Y1 ++ (X2 ++ Y2 ++ q) := by
          have := hrot hc
          rw [hrow]
          calc p ++ (X1 ++ X2) ++ (Y1 ++ Y2) ++ q = p ++ X1 ++ (X2 ++ Y1) ++ Y2 ++ q := by simp
            _ = p ++ X1 ++ Y1 ++ (X2 ++ Y2 ++ q) := by rw [this]; simp
        exact ⟨rfl, View.of [0] [rowB (p ++ X1 ++ Y1 ++ (X2 ++ Y2 ++ q))] _ (by decide) rfl ⟨⟨tcs (p ++ X ++ Y ++ q), by kernel_rfl, CellsOk.eq (congrArg tcs hrw) (tcs_flat _)⟩, trivial⟩ ⟨⟨by kernel_rfl, rfl⟩, ⟨by kernel_rfl, rfl⟩, ⟨by kernel_rfl, rfl⟩, ⟨by kernel_rfl, rfl⟩, ⟨by kernel_rfl, rfl⟩, ⟨by kernel_rfl, rfl⟩, ⟨congrArg (Value.int .i64) hend, rfl⟩, trivial⟩⟩
    refine Wp.seq (Wp.seq (Wp.text ?_))
    refine kp 192 (.int IntKind.i64 (↑(List.length p - o) : Int)) ?_
    refine kp 193 (.int IntKind.i64 (↑(List.length p + i - o) : Int)) ?_
    refine kp 194 (.bool (decide ((↑(List.length p - o) : Int) < (↑(List.length p + i - o) : Int)))) ?_
    refine kp 195 (.bool (decide ((↑(List.length p - o) : Int) < (↑(List.length p + i - o) : Int)))) ?_
    refine WpOps.fork 4 (decide ((↑(List.length p - o) : Int) < (↑(List.length p + i - o) : Int))) [196, 197, 198, 199] 199 (decide ((↑(List.length p + i - o) : Int) < (↑(List.length p + h - o) : Int))) (false) (by kernel_rfl) (fun g199 => ?_) (fun g199 => ?_) (fun f_199 b199 hb199 => ?_)
    · refine kp 196 (.int IntKind.i64 (↑(List.length p + i - o) : Int)) ?_ (hw := wants_tt g199)
      refine kp 197 (.int IntKind.i64 (↑(List.length p + h - o) : Int)) ?_ (hw := wants_tt g199)
      refine kp 198 (.bool (decide ((↑(List.length p + i - o) : Int) < (↑(List.length p + h - o) : Int)))) ?_ (hw := wants_tt g199)
      refine kp 199 (.bool (decide ((↑(List.length p + i - o) : Int) < (↑(List.length p + h - o) : Int)))) ?_ (hop := fun _ => o_pickT g199)
      refine WpOps.nil ?_
      exact ⟨rfl, (.upd rfl (.upd rfl (.upd rfl (.upd rfl .refl)))), (by kernel_rfl)⟩
    · refine um 196 ?_ (hw := wants_ft g199)
      refine um 197 ?_ (hw := wants_ft g199)
      refine um 198 ?_ (hw := wants_ft g199)
      refine kp 199 (.bool false) ?_ (hop := fun _ => o_pickF g199)
      refine WpOps.nil ?_
      exact ⟨rfl, (.upd rfl (.upd rfl (.upd rfl (.upd rfl .refl)))), (by kernel_rfl)⟩
    refine WpOps.nil (thenK_at ?_)
    refine Wp.merge [(0, .slice (some ⟨0, o * 2, none⟩) n c), (3, .int .i64 (p.length + X.length + Y.length - o : Nat)), (4, .func (.func 43) #[] #[]), (18, .int .i64 (p.length + h - o : Nat)), (24, .int .i64 (p.length + (h + X.length - i) - o : Nat))] [rowB (p ++ ssort (X1 ++ Y1) ++ X2 ++ Y2 ++ q)] ?_ ?_
    · by_cases hc : 0 < i ∧ i < h
      · obtain rfl : b199 = true := by
          rw [hb199, decide_eq_true (show ((p.length - o : Nat) : Int) < ((p.length + i - o : Nat) : Int) by omega), decide_eq_true (show ((p.length + i - o : Nat) : Int) < ((p.length + h - o : Nat) : Int) by omega)]
          rfl
        have cs := ih1 hc
        refine on' (Wp.text ?_)
        refine kp 200 (.slice (some (Addr.mk 0 (o * 2) none)) n c) ?_
        refine kp 201 (.int IntKind.i64 (↑(List.length p - o) : Int)) ?_
        refine kp 202 (.int IntKind.i64 (↑(List.length p + i - o) : Int)) ?_
        refine kp 203 (.int IntKind.i64 (↑(List.length p + h - o) : Int)) ?_
        refine kp 204 (.func (Fn.func 43) #[] #[]) ?_
        refine cl 205 63 [Value.slice (some (Addr.mk 0 (o * 2) none)) n c, Value.int .i64 (↑(List.length p - o) : Int), Value.int .i64 (↑(List.length p + i - o) : Int), Value.int .i64 (↑(List.length p + h - o) : Int), Value.func (Fn.func 43) #[] #[]] ?_
        refine WpCall.enterL cs rfl ?_
        refine WpOps.nil ?_
        exact ⟨rfl, View.of [0] [rowB (p ++ ssort (X1 ++ Y1) ++ X2 ++ Y2 ++ q)] _ (by decide) rfl ⟨⟨tcs (p ++ ssort (X1 ++ Y1) ++ (X2 ++ Y2 ++ q)), by kernel_rfl, CellsOk.eq (by simp [rowB]) (tcs_flat _)⟩, trivial⟩ ⟨⟨by kernel_rfl, rfl⟩, ⟨by kernel_rfl, rfl⟩, ⟨by kernel_rfl, rfl⟩, ⟨by kernel_rfl, rfl⟩, ⟨by kernel_rfl, rfl⟩, trivial⟩⟩
      · obtain rfl : b199 = false := by
          rw [hb199]
          by_cases e : 0 < i
          · rw [decide_eq_true (show ((p.length - o : Nat) : Int) < ((p.length + i - o : Nat) : Int) by omega), decide_eq_false (show ¬ ((p.length + i - o : Nat) : Int) < ((p.length + h - o : Nat) : Int) by omega)]
            rfl
          · rw [decide_eq_false (show ¬ ((p.length - o : Nat) : Int) < ((p.length + i - o : Nat) : Int) by omega)]
            rfl
        refine off' (Wp.skip ?_)
        rw [hr1 hc]
        exact ⟨rfl, View.of [0] [rowB (p ++ (X1 ++ Y1) ++ X2 ++ Y2 ++ q)] _ (by decide) rfl ⟨⟨tcs (p ++ X1 ++ Y1 ++ (X2 ++ Y2 ++ q)), by kernel_rfl, CellsOk.eq (by simp [rowB]) (tcs_flat _)⟩, trivial⟩ ⟨⟨by kernel_rfl, rfl⟩, ⟨by kernel_rfl, rfl⟩, ⟨by kernel_rfl, rfl⟩, ⟨by kernel_rfl, rfl⟩, ⟨by kernel_rfl, rfl⟩, trivial⟩⟩
    refine Wp.seq (Wp.text ?_)
    refine kp 206 (.int IntKind.i64 (↑(List.length p + h - o) : Int)) ?_
    refine kp 207 (.int IntKind.i64 (↑(List.length p + (h + List.length X - i) - o) : Int)) ?_
    refine kp 208 (.bool (decide ((↑(List.length p + h - o) : Int) < (↑(List.length p + (h + List.length X - i) - o) : Int)))) ?_
    refine kp 209 (.bool (decide ((↑(List.length p + h - o) : Int) < (↑(List.length p + (h + List.length X - i) - o) : Int)))) ?_
    refine WpOps.fork 4 (decide ((↑(List.length p + h - o) : Int) < (↑(List.length p + (h + List.length X - i) - o) : Int))) [210, 211, 212, 213] 213 (decide ((↑(List.length p + (h + List.length X - i) - o) : Int) < (↑(List.length p + List.length X + List.length Y - o) : Int))) (false) (by kernel_rfl) (fun g213 => ?_) (fun g213 => ?_) (fun f_213 b213 hb213 => ?_)
    · refine kp 210 (.int IntKind.i64 (↑(List.length p + (h + List.length X - i) - o) : Int)) ?_ (hw := wants_tt g213)
      refine kp 211 (.int IntKind.i64 (↑(List.length p + List.length X + List.length Y - o) : Int)) ?_ (hw := wants_tt g213)
      refine kp 212 (.bool (decide ((↑(List.length p + (h + List.length X - i) - o) : Int) < (↑(List.length p + List.length X + List.length Y - o) : Int)))) ?_ (hw := wants_tt g213)
      refine kp 213 (.bool (decide ((↑(List.length p + (h + List.length X - i) - o) : Int) < (↑(List.length p + List.length X + List.length Y - o) : Int)))) ?_ (hop := fun _ => o_pickT g213)
      refine WpOps.nil ?_
      exact ⟨rfl, (.upd rfl (.upd rfl (.upd rfl (.upd rfl .refl)))), (by kernel_rfl)⟩
    · refine um 210 ?_ (hw := wants_ft g213)
      refine um 211 ?_ (hw := wants_ft g213)
      refine um 212 ?_ (hw := wants_ft g213)
      refine kp 213 (.bool false) ?_ (hop := fun _ => o_pickF g213)
      refine WpOps.nil ?_
      exact ⟨rfl, (.upd rfl (.upd rfl (.upd rfl (.upd rfl .refl)))), (by kernel_rfl)⟩
    refine WpOps.nil (thenK_at ?_)
    by_cases hc : i < X.length ∧ h - i < Y.length
    · obtain rfl : b213 = true := by
        rw [hb213, decide_eq_true (show ((p.length + h - o : Nat) : Int) < ((p.length + (h + X.length - i) - o : Nat) : Int) by omega), decide_eq_true (show ((p.length + (h + X.length - i) - o : Nat) : Int) < ((p.length + X.length + Y.length - o : Nat) : Int) by omega)]
        rfl
      have cs := ih2 hc
      refine on' (Wp.text ?_)
      refine kp 214 (.slice (some (Addr.mk 0 (o * 2) none)) n c) ?_
      refine kp 215 (.int IntKind.i64 (↑(List.length p + h - o) : Int)) ?_
      refine kp 216 (.int IntKind.i64 (↑(List.length p + (h + List.length X - i) - o) : Int)) ?_
      refine kp 217 (.int IntKind.i64 (↑(List.length p + List.length X + List.length Y - o) : Int)) ?_
      refine kp 218 (.func (Fn.func 43) #[] #[]) ?_
      refine cl 219 63 [Value.slice (some (Addr.mk 0 (o * 2) none)) n c, Value.int .i64 (↑(List.length p + h - o) : Int), Value.int .i64 (↑(List.length p + (h + List.length X - i) - o) : Int), Value.int .i64 (↑(List.length p + List.length X + List.length Y - o) : Int), Value.func (Fn.func 43) #[] #[]] ?_
      refine WpCall.enterL cs rfl ?_
      refine WpOps.nil ?_
      refine endK_norm [] (Value.tuple #[]) (by kernel_rfl) (by kernel_rfl) ?_
      exact lentSame [rowB (p ++ (ssort (X1 ++ Y1) ++ ssort (X2 ++ Y2)) ++ q)] (pre1 ⟨(by kernel_rfl : _ = some (rowB (p ++ ssort (X1 ++ Y1) ++ ssort (X2 ++ Y2) ++ q))).trans (by simp), okCs_flat (tcs_flat _)⟩) (.w (.un rfl rfl))
    · obtain rfl : b213 = false := by
        rw [hb213]
        by_cases e : i < X.length
        · rw [decide_eq_true (show ((p.length + h - o : Nat) : Int) < ((p.length + (h + X.length - i) - o : Nat) : Int) by omega), decide_eq_false (show ¬ ((p.length + (h + X.length - i) - o : Nat) : Int) < ((p.length + X.length + Y.length - o : Nat) : Int) by omega)]
          rfl
        · rw [decide_eq_false (show ¬ ((p.length + h - o : Nat) : Int) < ((p.length + (h + X.length - i) - o : Nat) : Int) by omega)]
          rfl
      refine off' (Wp.skip ?_)
      refine endK_norm [] (Value.tuple #[]) (by kernel_rfl) (by kernel_rfl) ?_
      rw [hr2 hc]
      exact lentSame [rowB (p ++ (ssort (X1 ++ Y1) ++ (X2 ++ Y2)) ++ q)] (pre1 ⟨(by kernel_rfl : _ = some (rowB (p ++ ssort (X1 ++ Y1) ++ X2 ++ Y2 ++ q))).trans (by simp), okCs_flat (tcs_flat _)⟩) (.w (.un rfl rfl))
/-- symMerge. -/
theorem sym63 (n c o : Nat) (hn2 : n ≤ 1000000) (hcc : n ≤ c) : ∀ (N : Nat) (p X Y q : List Tr), X.length + Y.length < N → 0 < X.length → 0 < Y.length → Srt X → Srt Y → InT (X ++ Y) → o ≤ p.length → p.length + X.length + Y.length ≤ o + n →
    Lent E 63 [.slice (some ⟨0, o * 2, none⟩) n c, .int .i64 (p.length - o : Nat), .int .i64 (p.length + X.length - o : Nat), .int .i64 (p.length + X.length + Y.length - o : Nat), .func (.func 43) #[] #[]] [rowB (p ++ X ++ Y ++ q)] (.tuple #[]) [rowB (p ++ ssort (X ++ Y) ++ q)]
  | 0, _, _, _, _, h, _, _, _, _, _, _, _ => absurd h (Nat.not_lt_zero _)
  | N + 1, p, X, Y, q, h, hX, hY, hSX, hSY, hin, ho, hn => by
    by_cases e1 : X.length = 1
    · obtain ⟨x, rfl⟩ := List.length_eq_one_iff.1 e1
      exact sym63_one n c o p x Y q hY hSY hin ho hn hn2
    · by_cases e2 : Y.length = 1
      · obtain ⟨y, rfl⟩ := List.length_eq_one_iff.1 e2
        exact sym63_last n c o p X y q (by omega) hSX hin ho hn hn2
      · exact sym63_gen n c o p X Y q (by omega) (by omega) hSX hSY hin ho hn hn2 hcc fun p' X' Y' q' hl h1 h2 h3 h4 h5 h6 h7 => sym63 n c o hn2 hcc N p' X' Y' q' (by omega) h1 h2 h3 h4 h5 h6 h7
end Go.Proofs.Ytdkmdpklojeepaa.D
