/- vector.Valid: the walk. -/
import Derived.Test.YtfjkanjmggbofaaV12v
namespace Go.Proofs.Ytfjkanjmggbofaa.D
open Go.Fw Go.RowKit Go.Maps Go.WideMaps

theorem linkB_wf {N : Int} {ls : List Lk} {j : Nat} (hN : 1 ≤ N ∧ N ≤ 20) (h : linkB N ls j = true) : wf64 (lk ls j).1 ∧ wf64 (lk ls j).2.1 := by
  unfold linkB okB at h
  simp at h
  exact ⟨wf64_of (by omega), wf64_of (by omega)⟩
set_option maxHeartbeats 4000000 in
set_option maxRecDepth 1000000 in
theorem valid_calls (N : Int) (n cap bl off : Nat) (ls : List Lk) (w : World) (hlen : ls.length = n) (hreach : n ≤ 17592186044416) (hbl : bl < w.heap.size) (hN : 1 ≤ N ∧ N ≤ 20)
    (hc : ∀ j, j < n → w.cell? ⟨bl, off + j * 3, none⟩ = some (.int .i64 (lk ls j).1) ∧ w.cell? ⟨bl, off + j * 3 + 1, none⟩ = some (.int .i64 (lk ls j).2.1) ∧ w.cell? ⟨bl, off + j * 3 + 2, none⟩ = some (.int .i64 (lk ls j).2.2)) :
    Calls Try.prog 25 #[.agg #[.int .i64 N, .slice (some ⟨bl, off, none⟩) n cap]] w fun e w' => e = .returned (.bool (valid N ls)) ∧ Below w.heap.size w w' := by
  have hmm := @run_makeMap Try.prog
  have d1 : decide (N < 1) = false := decide_eq_false (by omega)
  have d2 : decide (N > 20) = false := decide_eq_false (by omega)
  go_enter Try.func25, Try.ntmps25
  go_wp2
  go_loopw [19] (fun vi wr => ∃ k : Nat, vi = .int .i64 k ∧ k ≤ n ∧ (∀ j, j < k → linkB N ls j = true) ∧ wr.ownsMap Try.prog 100 (plainElem Try.prog 4) (w.heap.size + 1) k (Ms ls k) ∧ Below w.heap.size w wr ∧ wr.cell? ⟨w.heap.size, 0, none⟩ = some (.int .i64 N) ∧ w.heap.size + 2 ≤ wr.heap.size) (fun vi wr => n - (match vi with | .int _ m => m.toNat | _ => 0))
  case atStart =>
    refine ⟨0, rfl, Nat.zero_le _, fun j hj => absurd hj (Nat.not_lt_zero _), ?_, ?_, ?_, ?_⟩
    · have := World.ownsMap_made (w.alloc (Obj.cells #[Value.int IntKind.i64 N, Value.slice (some { block := bl, off := off }) n cap] 24)) Try.prog 100 (plainElem (H := Unit) Try.prog 4)
      have e : (w.alloc (Obj.cells #[Value.int IntKind.i64 N, Value.slice (some { block := bl, off := off }) n cap] 24)).heap.size = w.heap.size + 1 := by simp
      rw [e] at this
      exact this
    · exact ((Below.refl _ w).alloc (Nat.le_refl _) _).alloc (by simp) _
    · refine (((Below.refl (w.heap.size + 1) (w.alloc (Obj.cells #[Value.int IntKind.i64 N, Value.slice (some { block := bl, off := off }) n cap] 24))).alloc (by simp) _).cell (by simp)).trans ?_
      exact (World.cell?_alloc_at _ _ _ 0 rfl).trans rfl
    · simp
  case round =>
    obtain ⟨k, rfl, hk, hp, hown, hbw, hN0, hsz⟩ := hrel
    by_cases hkl : k < n
    · have d3 : decide ((k : Int) < n) = true := decide_eq_true (by omega)
      obtain ⟨e0, e1, e2⟩ := hc k hkl
      generalize hlk : lk ls k = l at e0 e1 e2
      obtain ⟨a, b, c⟩ := l
      dsimp only at e0 e1 e2
      have f0 : wr.cell? ⟨bl, off + k * 3, none⟩ = some (.int .i64 a) := (hbw.cell (by exact hbl)).trans e0
      have f1 : wr.cell? ⟨bl, off + k * 3 + 1, none⟩ = some (.int .i64 b) := (hbw.cell (by exact hbl)).trans e1
      have f2 : wr.cell? ⟨bl, off + k * 3 + 2, none⟩ = some (.int .i64 c) := (hbw.cell (by exact hbl)).trans e2
      clear hc e0 e1 e2
      have hlt : w.heap.size < wr.heap.size := by omega
      have hN1 : ((wr.alloc (Obj.cells #[Value.int IntKind.i64 a, Value.int IntKind.i64 b, Value.int IntKind.i64 c] 48)).alloc (Obj.cells #[Value.int IntKind.i64 a, Value.int IntKind.i64 b] 100)).cell? ⟨w.heap.size, 0, none⟩ = some (.int .i64 N) :=
        ((((Below.refl wr.heap.size wr).alloc (Nat.le_refl _) _).alloc (by simp) _).cell hlt).trans hN0
      have hbA := (hbw.alloc (by omega) (Obj.cells #[Value.int IntKind.i64 a, Value.int IntKind.i64 b, Value.int IntKind.i64 c] 48)).alloc (by simp; omega) (Obj.cells #[Value.int IntKind.i64 a, Value.int IntKind.i64 b] 100)
      have hwf : ∀ j, j < k → wf64 (lk ls j).1 ∧ wf64 (lk ls j).2.1 := fun j hj => linkB_wf hN (hp j hj)
      by_cases hok : 0 ≤ a ∧ a < b ∧ b < N ∧ 1 ≤ c ∧ c ≤ 15
      · obtain ⟨o1, o2, o3, o4, o5⟩ := hok
        have hkey := key100 (wf64_of (a := a) (by omega)) (wf64_of (a := b) (by omega))
        have hownA := (hown.alloc (Obj.cells #[Value.int IntKind.i64 a, Value.int IntKind.i64 b, Value.int IntKind.i64 c] 48)).alloc (Obj.cells #[Value.int IntKind.i64 a, Value.int IntKind.i64 b] 100)
        obtain ⟨q, hrun, hat⟩ := lookup_bool hownA hkey
        obtain ⟨w1, hupd, hown1, hgrow1⟩ := hownA.update law100 Try.underlying99 (by unfold maxLen; omega) hkey (plainElem_bool Try.underlying4 true)
        have hm := Ms_at ls (wf64_of (a := a) (by omega)) (wf64_of (a := b) (by omega)) k hwf
        rw [hat] at hm
        have hob : okB N (lk ls k) = true := by
          rw [hlk]
          unfold okB
          simp [o1, o2, o3, o4, o5]
        have hsm : ∀ j, sameE (lk ls j) (a, b, 0) = sameE (lk ls j) (lk ls k) := fun j => by rw [hlk]; rfl
        cases q with
        | false =>
          have hall : linkB N ls k = true := by
            unfold linkB
            rw [hob]
            have hm2 : false = !allR k fun j => !sameE (lk ls j) (a, b, 0) := by simpa using hm
            simp only [hsm] at hm2
            rw [bnot hm2]
            rfl
          go_wp2
          refine ⟨⟨k + 1, rfl, hkl, upto hp hall, ?_, hbA.grown hgrow1 hbA.size (fun j hj => by cases hj; omega), hgrow1.cell hN1 (by simp), ?_⟩, ?_⟩
          · show w1.ownsMap _ _ _ _ _ ((Ms ls k).put _ _)
            rw [hlk]
            exact hown1
          · have := hgrow1.size
            simp at this
            omega
          · show n - ((k : Int) + 1).toNat < n - (k : Int).toNat
            omega
        | true =>
          have hall : linkB N ls k = false := by
            unfold linkB
            rw [hob]
            have hm2 : true = !allR k fun j => !sameE (lk ls j) (a, b, 0) := by simpa using hm
            simp only [hsm] at hm2
            rw [bnot hm2]
            rfl
          go_wp2
          go_ret
          refine ⟨?_, hbA⟩
          rw [valid_bad (by rw [hlen]; exact hkl) hall]
          rfl
      · have hall : linkB N ls k = false := by
          unfold linkB
          have : okB N (lk ls k) = false := by
            rw [hlk]
            cases h : okB N (a, b, c) with
            | false => rfl
            | true =>
              unfold okB at h
              simp at h
              exact absurd ⟨h.1.1.1.1, h.1.1.1.2, h.1.1.2, h.1.2, h.2⟩ hok
          rw [this]
          rfl
        go_wp2
        all_goals (go_ret; exact ⟨by rw [valid_bad (by rw [hlen]; exact hkl) hall]; rfl, hbA⟩)
    · obtain rfl : k = n := by omega
      have d3 : decide ((k : Int) < k) = false := decide_eq_false (by omega)
      go_wp2
      go_ret
      refine ⟨?_, hbw⟩
      have : valid N ls = true := by
        unfold valid
        rw [hlen, allR_true hp]
        simp [hN]
      rw [this]
      rfl
end Go.Proofs.Ytfjkanjmggbofaa.D
