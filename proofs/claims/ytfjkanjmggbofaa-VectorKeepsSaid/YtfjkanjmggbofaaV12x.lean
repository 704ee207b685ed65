/- vector.Valid, as a contract. -/
import Derived.Test.YtfjkanjmggbofaaV12w
namespace Go.Proofs.Ytfjkanjmggbofaa.D
open Go.Fw Go.RowKit Go.Maps Go.WideMaps

set_option maxHeartbeats 4000000 in
set_option maxRecDepth 1000000 in
theorem valid_none (N : Int) (cap : Nat) (av : Option Addr) (w : World) (hN : 1 ≤ N ∧ N ≤ 20) :
    Calls Try.prog 25 #[.agg #[.int .i64 N, .slice av 0 cap]] w fun e w' => e = .returned (.bool true) ∧ Below w.heap.size w w' := by
  have hmm := @run_makeMap Try.prog
  have d1 : decide (N < 1) = false := decide_eq_false (by omega)
  have d2 : decide (N > 20) = false := decide_eq_false (by omega)
  go_enter Try.func25, Try.ntmps25
  go_wp2
  refine wp_loop_rounds 1 ?_
  rw [rounds_succ]
  go_wp2
  go_ret
  exact ⟨rfl, ((Below.refl _ w).alloc (Nat.le_refl _) _).alloc (by simp) _⟩
set_option maxHeartbeats 4000000 in
set_option maxRecDepth 1000000 in
theorem valid_out (N : Int) (n cap : Nat) (av : Option Addr) (w : World) (hN : ¬ (1 ≤ N ∧ N ≤ 20)) :
    Calls Try.prog 25 #[.agg #[.int .i64 N, .slice av n cap]] w fun e w' => e = .returned (.bool false) ∧ Below w.heap.size w w' := by
  go_enter Try.func25, Try.ntmps25
  go_wp2
  all_goals (go_ret; exact ⟨rfl, (Below.refl _ w).alloc (Nat.le_refl _) _⟩)
theorem f25 : E.funcs 25 = some Try.f25 := by kernel_rfl
/-- What is asked of a call that changes nothing that was there, and gives a bool. -/
theorem fun_bool {f : FuncId} {fn : Func} {c : Code} {args : List Value} {b : Bool} (hf : E.funcs f = some fn) (hb : fn.body = some c)
    (h : ∀ (μ : Fw.Place) (w : World) (args' : Array Value), (∀ k, μ.Y k → k < w.heap.size) → All2 (VRel E Heap.none μ w.heap) args args'.toList → Calls E.prog f args' w fun e w' => e = .returned (.bool b) ∧ Below w.heap.size w w') : Fun E f args (.bool b) := by
  intro ok
  refine ⟨⟨fn, hf, by rw [hb]; rfl⟩, rfl, fun base μ w args' R hbase hargs => ?_⟩
  have hy : ∀ k, μ.Y k → k < w.heap.size := R.ice
  refine Calls.mono (h μ w args' hy hargs) fun e w' he => ?_
  obtain ⟨rfl, bl⟩ := he
  refine ⟨.bool b, μ, rfl, Rel.none μ base fun k hk => Nat.lt_of_lt_of_le (hy k hk) bl.size, ⟨bl.mono hbase, Nat.zero_le _, fun b _ => rfl, fun b x' hb => absurd hb (Nat.not_lt_zero _), fun k cs T fr hk => ?_, fun k hk => hk, fun k hk => bl.block k (hy k hk), fun k hk => .inl hk, fun k hk => hk, fun k hk => .inl hk⟩, VRel.bool b⟩
  have hlt : k < w.heap.size := by
    rcases Nat.lt_or_ge k w.heap.size with h | h
    · exact h
    · rw [Array.getElem?_eq_none h] at hk
      cases hk
  exact ⟨cs, fr, by rw [bl.block k hlt]; exact hk, rfl⟩
theorem cell_int {h : Heap} {μ : Fw.Place} {H : Mem} {k : IntKind} {n : Int} {v' : Value} (r : CRel E h μ H (.int k n) v') : v' = .int k n := by
  cases r with
  | s r => cases r; rfl
theorem cell_links {μ : Fw.Place} {w : World} (hy : ∀ k, μ.Y k → k < w.heap.size) {x : Nat} {ls : List Lk} {v' : Value} (r : CRel E Heap.none μ w.heap (lks x ls) v') : ∃ a c, v' = .slice a ls.length c ∧ (¬ ls.length = 0 → ∃ bl off, a = some ⟨bl, off, none⟩ ∧ bl < w.heap.size ∧ ∀ j, j < ls.length → w.cell? ⟨bl, off + j * 3, none⟩ = some (.int .i64 (lk ls j).1) ∧ w.cell? ⟨bl, off + j * 3 + 1, none⟩ = some (.int .i64 (lk ls j).2.1) ∧ w.cell? ⟨bl, off + j * 3 + 2, none⟩ = some (.int .i64 (lk ls j).2.2)) := by
  have r2 : IRel E μ.Z w.heap (lks x ls) v' := by
    cases r with
    | s r => cases r with
      | ice r => exact r
  obtain ⟨ys, a', c', ti, rfl, _, _, _, _, hat, hall⟩ := IRel.inv_fs r2
  refine ⟨a', c', rfl, fun h0 => ?_⟩
  rcases hat with hat | ⟨k, o, rfl, hZ, _, cs, T, fr, hH, _, hv⟩
  · exact absurd hat h0
  refine ⟨k, o, rfl, hy k (μ.zy k hZ), fun j hj => ?_⟩
  have key : ∀ r v, r < 3 → (lc (ls.getD j (0, 0, 0)))[r]? = some (.int .i64 v) → w.cell? ⟨k, o + (j * 3 + r), none⟩ = some (.int .i64 v) := fun r v hr h => by
    have h1 : (lcs ls).toArray.toList[j * 3 + r]? = some (.int .i64 v) := by
      rw [List.toList_toArray, ← h, ← lcs_slice ls j (0, 0, 0) hj, List.getElem?_take, if_pos hr, List.getElem?_drop]
    obtain ⟨b, g1, g2⟩ := hall.get h1
    have e : b = .int .i64 v := by cases g2; rfl
    subst e
    have g3 := hv _ _ g1
    unfold World.cell?
    simp only [hH]
    exact g3
  exact ⟨key 0 _ (by decide) rfl, key 1 _ (by decide) rfl, key 2 _ (by decide) rfl⟩
theorem valid25 (N : Int) (x : Nat) (ls : List Lk) (hz : ls.length ≤ 17592186044416) : Fun E 25 [netV N x ls] (.bool (valid N ls)) := by
  refine fun_bool f25 rfl fun μ w args' hy hargs => ?_
  obtain ⟨l⟩ := args'
  change All2 _ _ l at hargs
  cases hargs with
  | cons r rs =>
    cases rs
    obtain ⟨a', rfl, h1⟩ := r.inv_agg
    obtain ⟨l2⟩ := a'
    change All2 _ [Value.int .i64 N, lks x ls] l2 at h1
    cases h1 with
    | cons r1 rs1 =>
      cases rs1 with
      | cons r2 rs2 =>
        cases rs2
        obtain ⟨v1, rfl⟩ : ∃ v1, v1 = Value.int .i64 N := ⟨_, rfl⟩
        have e1 := cell_int r1
        subst e1
        obtain ⟨a2, c2, rfl, hc⟩ := cell_links hy r2
        by_cases hN : 1 ≤ N ∧ N ≤ 20
        · by_cases h0 : ls.length = 0
          · have hl := List.eq_nil_of_length_eq_zero h0
            subst hl
            have hv : valid N [] = true := by
              unfold valid
              simp [hN, allR]
            rw [hv]
            exact valid_none N c2 a2 w hN
          · obtain ⟨bl, off, rfl, hbl, hcell⟩ := hc h0
            exact valid_calls N ls.length c2 bl off ls w rfl hz hbl hN hcell
        · have hv : valid N ls = false := valid_no (by
            cases h : (decide (1 ≤ N) && decide (N ≤ 20)) with
            | false => rfl
            | true =>
              simp at h
              exact absurd h hN)
          rw [hv]
          exact valid_out N ls.length c2 a2 w hN
end Go.Proofs.Ytfjkanjmggbofaa.D
