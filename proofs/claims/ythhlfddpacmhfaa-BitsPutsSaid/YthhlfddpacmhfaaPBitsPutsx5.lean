-- printed by wip/printx.py (this session's program, over the kit's print): Lean checks it
import Derived.Test.YthhlfddpacmhfaaPBitsPutsx0
import Derived.Test.YthhlfddpacmhfaaPBitsPutsx1
import Derived.Test.YthhlfddpacmhfaaPBitsPutsx2
import Derived.Test.YthhlfddpacmhfaaPBitsPutsx3
import Derived.Test.YthhlfddpacmhfaaPBitsPutsx4
namespace Go.Proofs.Ythhlfddpacmhfaa.PBitsPuts
open Go.RowKit Go.Proofs.YthhlfddpacmhfaaW.PrintWords Go.Proofs.YthhlfddpacmhfaaW.PrintLast Go.Proofs.YthhlfddpacmhfaaW.PrintMore
attribute [local go_sem] max2_int min2_int max_two min_two max_three min_three max_four min_four   -- for this text's walks alone
set_option linter.unusedVariables false
set_option linter.unusedSimpArgs false

/-! ### heptadlaw01_BitsPuts: function 5 -/
mutual
def heptadlaw01_BitsPuts.j0 : Nat → Int → Int → Bool → Option (Bool)
  | 0, _, _, _ => none
  | k + 1, x0, x1, x28 => if x28 = true then (some false) else ((bits_Put.f k x0 x1).bind fun bt148 => ((heptadref01_Put.f k x0 x1).bind fun bt150 => (if bt148.1.toList = bt150.1.toList then (heptadlaw01_BitsPuts.j1 k x0 x1 (bt148.2 != bt150.2)) else (heptadlaw01_BitsPuts.j1 k x0 x1 true))))
def heptadlaw01_BitsPuts.j1 : Nat → Int → Int → Bool → Option (Bool)
  | 0, _, _, _ => none
  | k + 1, x0, x1, x48 => if x48 = true then (some false) else ((bits_Signed.f k x0 x1).bind fun bt152 => ((heptadref01_Signed.f k x0 x1).bind fun bt154 => (if bt152.1.toList = bt154.1.toList then (heptadlaw01_BitsPuts.j2 k x0 (bt152.2 != bt154.2)) else (heptadlaw01_BitsPuts.j2 k x0 true))))
def heptadlaw01_BitsPuts.j2 : Nat → Int → Bool → Option (Bool)
  | 0, _, _ => none
  | k + 1, x0, x68 => if x68 = true then (some false) else ((bits_Octets.f k x0).bind fun bt156 => ((heptadref01_Octets.f k x0).bind fun bt158 => (if bt156.1.toList = bt158.1.toList then (if bt156.2 = bt158.2 then ((heptadlaw01_sane.f k).bind fun t160 => (some t160)) else (some false)) else (some false))))
end
def heptadlaw01_BitsPuts.f (k : Nat) (a0 : Int) (a1 : Int) : Option (Bool) := (bits_Width.f k a0).bind fun bt144 => ((heptadref01_Width.f k a0).bind fun bt146 => (if bt144.1 = bt146.1 then (heptadlaw01_BitsPuts.j0 k a0 a1 (bt144.2 != bt146.2)) else (heptadlaw01_BitsPuts.j0 k a0 a1 true)))
theorem heptadlaw01_BitsPuts.mono_l : ∀ k, (∀ y0 y1 y2, LeO (heptadlaw01_BitsPuts.j0 k y0 y1 y2) (heptadlaw01_BitsPuts.j0 (k + 1) y0 y1 y2)) ∧ (∀ y0 y1 y2, LeO (heptadlaw01_BitsPuts.j1 k y0 y1 y2) (heptadlaw01_BitsPuts.j1 (k + 1) y0 y1 y2)) ∧ (∀ y0 y1, LeO (heptadlaw01_BitsPuts.j2 k y0 y1) (heptadlaw01_BitsPuts.j2 (k + 1) y0 y1))
  | 0 => ⟨fun _ _ _ r h => by simp [heptadlaw01_BitsPuts.j0] at h, fun _ _ _ r h => by simp [heptadlaw01_BitsPuts.j1] at h, fun _ _ r h => by simp [heptadlaw01_BitsPuts.j2] at h⟩
  | k + 1 => by
    obtain ⟨ih0, ih1, ih2⟩ := heptadlaw01_BitsPuts.mono_l k
    refine ⟨?_, ?_, ?_⟩
    · intro y0 y1 y2
      unfold heptadlaw01_BitsPuts.j0
      repeat' first
      | (with_reducible exact ih0 _ _ _)
      | (with_reducible exact ih1 _ _ _)
      | (with_reducible exact ih2 _ _)
      | (with_reducible exact bits_Octets.mono _ _)
      | (with_reducible exact bits_Put.mono _ _ _)
      | (with_reducible exact bits_Signed.mono _ _ _)
      | (with_reducible exact bits_Width.mono _ _)
      | (with_reducible exact heptadlaw01_sane.mono _)
      | (with_reducible exact heptadref01_Octets.mono _ _)
      | (with_reducible exact heptadref01_Put.mono _ _ _)
      | (with_reducible exact heptadref01_Signed.mono _ _ _)
      | (with_reducible exact heptadref01_Width.mono _ _)
      | (with_reducible exact LeO.refl _)
      | (with_reducible exact LeO.none _)
      | (with_reducible refine LeO.ite ?_ ?_)
      | (with_reducible refine LeO.bind ?_ (fun _ => ?_))
      | exact ih0 _ _ _
      | exact ih1 _ _ _
      | exact ih2 _ _
      | exact bits_Octets.mono _ _
      | exact bits_Put.mono _ _ _
      | exact bits_Signed.mono _ _ _
      | exact bits_Width.mono _ _
      | exact heptadlaw01_sane.mono _
      | exact heptadref01_Octets.mono _ _
      | exact heptadref01_Put.mono _ _ _
      | exact heptadref01_Signed.mono _ _ _
      | exact heptadref01_Width.mono _ _
      | exact LeO.none _
      | refine LeO.ite ?_ ?_
      | refine LeO.bind ?_ (fun _ => ?_)
    · intro y0 y1 y2
      unfold heptadlaw01_BitsPuts.j1
      repeat' first
      | (with_reducible exact ih0 _ _ _)
      | (with_reducible exact ih1 _ _ _)
      | (with_reducible exact ih2 _ _)
      | (with_reducible exact bits_Octets.mono _ _)
      | (with_reducible exact bits_Put.mono _ _ _)
      | (with_reducible exact bits_Signed.mono _ _ _)
      | (with_reducible exact bits_Width.mono _ _)
      | (with_reducible exact heptadlaw01_sane.mono _)
      | (with_reducible exact heptadref01_Octets.mono _ _)
      | (with_reducible exact heptadref01_Put.mono _ _ _)
      | (with_reducible exact heptadref01_Signed.mono _ _ _)
      | (with_reducible exact heptadref01_Width.mono _ _)
      | (with_reducible exact LeO.refl _)
      | (with_reducible exact LeO.none _)
      | (with_reducible refine LeO.ite ?_ ?_)
      | (with_reducible refine LeO.bind ?_ (fun _ => ?_))
      | exact ih0 _ _ _
      | exact ih1 _ _ _
      | exact ih2 _ _
      | exact bits_Octets.mono _ _
      | exact bits_Put.mono _ _ _
      | exact bits_Signed.mono _ _ _
      | exact bits_Width.mono _ _
      | exact heptadlaw01_sane.mono _
      | exact heptadref01_Octets.mono _ _
      | exact heptadref01_Put.mono _ _ _
      | exact heptadref01_Signed.mono _ _ _
      | exact heptadref01_Width.mono _ _
      | exact LeO.none _
      | refine LeO.ite ?_ ?_
      | refine LeO.bind ?_ (fun _ => ?_)
    · intro y0 y1
      unfold heptadlaw01_BitsPuts.j2
      repeat' first
      | (with_reducible exact ih0 _ _ _)
      | (with_reducible exact ih1 _ _ _)
      | (with_reducible exact ih2 _ _)
      | (with_reducible exact bits_Octets.mono _ _)
      | (with_reducible exact bits_Put.mono _ _ _)
      | (with_reducible exact bits_Signed.mono _ _ _)
      | (with_reducible exact bits_Width.mono _ _)
      | (with_reducible exact heptadlaw01_sane.mono _)
      | (with_reducible exact heptadref01_Octets.mono _ _)
      | (with_reducible exact heptadref01_Put.mono _ _ _)
      | (with_reducible exact heptadref01_Signed.mono _ _ _)
      | (with_reducible exact heptadref01_Width.mono _ _)
      | (with_reducible exact LeO.refl _)
      | (with_reducible exact LeO.none _)
      | (with_reducible refine LeO.ite ?_ ?_)
      | (with_reducible refine LeO.bind ?_ (fun _ => ?_))
      | exact ih0 _ _ _
      | exact ih1 _ _ _
      | exact ih2 _ _
      | exact bits_Octets.mono _ _
      | exact bits_Put.mono _ _ _
      | exact bits_Signed.mono _ _ _
      | exact bits_Width.mono _ _
      | exact heptadlaw01_sane.mono _
      | exact heptadref01_Octets.mono _ _
      | exact heptadref01_Put.mono _ _ _
      | exact heptadref01_Signed.mono _ _ _
      | exact heptadref01_Width.mono _ _
      | exact LeO.none _
      | refine LeO.ite ?_ ?_
      | refine LeO.bind ?_ (fun _ => ?_)
theorem heptadlaw01_BitsPuts.mono : ∀ a0 a1 k, LeO (heptadlaw01_BitsPuts.f k a0 a1) (heptadlaw01_BitsPuts.f (k + 1) a0 a1) := by
  intro a0 a1 k
  obtain ⟨ih0, ih1, ih2⟩ := heptadlaw01_BitsPuts.mono_l k
  unfold heptadlaw01_BitsPuts.f
  repeat' first
      | (with_reducible exact ih0 _ _ _)
      | (with_reducible exact ih1 _ _ _)
      | (with_reducible exact ih2 _ _)
      | (with_reducible exact bits_Octets.mono _ _)
      | (with_reducible exact bits_Put.mono _ _ _)
      | (with_reducible exact bits_Signed.mono _ _ _)
      | (with_reducible exact bits_Width.mono _ _)
      | (with_reducible exact heptadlaw01_sane.mono _)
      | (with_reducible exact heptadref01_Octets.mono _ _)
      | (with_reducible exact heptadref01_Put.mono _ _ _)
      | (with_reducible exact heptadref01_Signed.mono _ _ _)
      | (with_reducible exact heptadref01_Width.mono _ _)
      | (with_reducible exact LeO.refl _)
      | (with_reducible exact LeO.none _)
      | (with_reducible refine LeO.ite ?_ ?_)
      | (with_reducible refine LeO.bind ?_ (fun _ => ?_))
      | exact ih0 _ _ _
      | exact ih1 _ _ _
      | exact ih2 _ _
      | exact bits_Octets.mono _ _
      | exact bits_Put.mono _ _ _
      | exact bits_Signed.mono _ _ _
      | exact bits_Width.mono _ _
      | exact heptadlaw01_sane.mono _
      | exact heptadref01_Octets.mono _ _
      | exact heptadref01_Put.mono _ _ _
      | exact heptadref01_Signed.mono _ _ _
      | exact heptadref01_Width.mono _ _
      | exact LeO.none _
      | refine LeO.ite ?_ ?_
      | refine LeO.bind ?_ (fun _ => ?_)
set_option maxHeartbeats 8000000 in
set_option maxRecDepth 100000 in
theorem heptadlaw01_BitsPuts.calls (k : Nat) (a0 : Int) (a1 : Int) (r : Bool) (w : World) (h : heptadlaw01_BitsPuts.f k a0 a1 = some r) :
    Calls Try.prog 5 #[.int .i64 a0, .int .i64 a1] w fun e w' => e = .returned (.bool r) ∧ Below w.heap.size w w' := by
  have HB := Aside0.mk (Below.refl w.heap.size w)
  have H : ((bits_Width.f k a0).bind fun bt144 => ((heptadref01_Width.f k a0).bind fun bt146 => (if bt144.1 = bt146.1 then (heptadlaw01_BitsPuts.j0 k a0 a1 (bt144.2 != bt146.2)) else (heptadlaw01_BitsPuts.j0 k a0 a1 true)))) = some r := h
  clear h
  replace H := Option.bind_eq_some_iff.mp H
  obtain ⟨⟨t144, t145⟩, A30, H⟩ := H
  replace H : ((heptadref01_Width.f k a0).bind fun bt146 => (if t144 = bt146.1 then (heptadlaw01_BitsPuts.j0 k a0 a1 (t145 != bt146.2)) else (heptadlaw01_BitsPuts.j0 k a0 a1 true))) = some r := H
  have A3 := Aside0.mk A30
  clear A30
  replace H := Option.bind_eq_some_iff.mp H
  obtain ⟨⟨t146, t147⟩, A40, H⟩ := H
  replace H : (if t144 = t146 then (heptadlaw01_BitsPuts.j0 k a0 a1 (t145 != t147)) else (heptadlaw01_BitsPuts.j0 k a0 a1 true)) = some r := H
  have A4 := Aside0.mk A40
  clear A40
  have HC5 := Aside0.mk H
  clear H
  go_enter Try.func5, Try.ntmps5
  go_upto_region 3 with (first | ((with_reducible refine gate_callee (f := 8) rfl ?_); refine goesL_ (some 13) rfl rfl Try.func8 (by kernel_rfl) rfl #[.int .i64 a0] rfl (by (try simp only [List.map_toArray, List.map_cons, List.map_nil]); first | done | rfl | (simp only [List.length_drop, List.length_take]; rfl)) ?_; (with_reducible refine (bits_Width.calls k a0 t144 t145 _ A3.out).mono ?_); rintro e w' ⟨rfl, ⟨nd, rfl⟩⟩; refine ⟨_, rfl, ?_⟩) | ((with_reducible refine gate_callee (f := 12) rfl ?_); refine goesL_ (some 18) rfl rfl Try.func12 (by kernel_rfl) rfl #[.int .i64 a0] rfl (by (try simp only [List.map_toArray, List.map_cons, List.map_nil]); first | done | rfl | (simp only [List.length_drop, List.length_take]; rfl)) ?_; (with_reducible refine (heptadref01_Width.calls k a0 t146 t147 _ A4.out).mono ?_); rintro e w' ⟨rfl, ⟨nd, rfl⟩⟩; refine ⟨_, rfl, ?_⟩))
  (try simp only [Act.put, List.setIfInBounds_toArray, List.set_cons_zero, List.set_cons_succ])
  go_cut [28] (fun v28 wc => ∃ (kq : Nat) (x28_4 : Bool), v28 = .bool x28_4 ∧ Aside0 (heptadlaw01_BitsPuts.j0 kq a0 a1 x28_4 = some r) ∧ Aside0 (kq ≤ k) ∧ Aside0 (Below w.heap.size w wc))
  case first =>
    have H := HC5.out
    clear HC5
    by_cases c6 : t144 = t146
    · rw [if_pos c6] at H
      have c6b0 : (t144 == t146) = true := beq_iff_eq.mpr c6
      have c6b1 : (t144 != t146) = false := bne_eq_false_iff_eq.mpr c6
      clear c6
      (first | rw [c6b0] | (simp only [i64_w, i32_w]; rw [c6b0]) | skip)
      have H' := Aside0.mk H
      clear H
      go_wp2
      go_meet
      case rel => exact ⟨_, ((t145 != t147)), (by first | rfl | (simp; done) | (simp [*]; done)), H', ⟨by first | omega | exact Nat.le_refl _⟩, ⟨by repeat (first | (with_reducible first | exact HB.out | apply below_alloc | apply pw_below_drewN | apply below_drew1) | exact HB.out)⟩⟩
    · rw [if_neg c6] at H
      have c6b0 : (t144 == t146) = false := beq_eq_false_iff_ne.mpr c6
      have c6b1 : (t144 != t146) = true := bne_iff_ne.mpr c6
      (first | rw [c6b0] | (simp only [i64_w, i32_w]; rw [c6b0]) | skip)
      have H' := Aside0.mk H
      clear H
      go_wp2
      go_meet
      case rel => exact ⟨_, (true), (by first | rfl | (simp; done) | (simp [*]; done)), H', ⟨by first | omega | exact Nat.le_refl _⟩, ⟨by repeat (first | (with_reducible first | exact HB.out | apply below_alloc | apply pw_below_drewN | apply below_drew1) | exact HB.out)⟩⟩
  case rest =>
    clear HC5
    try clear c1
    try clear p2
    try clear c5
    try clear c6
    try clear c6b0
    try clear c6b1
    obtain ⟨kq, x28_4, rfl, HA, HJ4, HB⟩ := hcut
    cases kq with
    | zero => exact absurd HA.out (by simp [heptadlaw01_BitsPuts.j0])
    | succ kj4 =>
      have H := HA.out
      clear HA
      simp only [heptadlaw01_BitsPuts.j0] at H
      by_cases c7 : x28_4 = true
      · subst c7
        have H1 : (some false) = some r := by rw [if_pos rfl] at H; exact H
        clear H
        have H := H1
        clear H1
        obtain rfl := Option.some.inj H
        go_wp2
        go_ret
        exact ⟨by first | rfl | (simp [errW_none, errW_some] <;> rfl) | (simp [*, errW_none, errW_some] <;> rfl), by repeat (first | (with_reducible first | exact HB.out | apply below_alloc | apply pw_below_drewN | apply below_drew1) | exact HB.out)⟩
      · replace c7 := Bool.eq_false_iff.mpr c7
        subst c7
        have H1 : ((bits_Put.f kj4 a0 a1).bind fun bt148 => ((heptadref01_Put.f kj4 a0 a1).bind fun bt150 => (if bt148.1.toList = bt150.1.toList then (heptadlaw01_BitsPuts.j1 kj4 a0 a1 (bt148.2 != bt150.2)) else (heptadlaw01_BitsPuts.j1 kj4 a0 a1 true)))) = some r := by rw [if_neg (show ¬ (false = true) by decide)] at H; exact H
        clear H
        have H := H1
        clear H1
        replace H := Option.bind_eq_some_iff.mp H
        obtain ⟨⟨t148, t149⟩, A80, H⟩ := H
        replace H : ((heptadref01_Put.f kj4 a0 a1).bind fun bt150 => (if t148.toList = bt150.1.toList then (heptadlaw01_BitsPuts.j1 kj4 a0 a1 (t149 != bt150.2)) else (heptadlaw01_BitsPuts.j1 kj4 a0 a1 true))) = some r := H
        have A8 := Aside0.mk A80
        clear A80
        replace H := Option.bind_eq_some_iff.mp H
        obtain ⟨⟨t150, t151⟩, A90, H⟩ := H
        replace H : (if t148.toList = t150.toList then (heptadlaw01_BitsPuts.j1 kj4 a0 a1 (t149 != t151)) else (heptadlaw01_BitsPuts.j1 kj4 a0 a1 true)) = some r := H
        have A9 := Aside0.mk A90
        clear A90
        have HC10 := Aside0.mk H
        clear H
        go_upto_region 7 with (first | ((with_reducible refine gate_callee (f := 9) rfl ?_); refine goesL_ (some 32) rfl rfl Try.func9 (by kernel_rfl) rfl #[.int .i64 a0, .int .i64 a1] rfl (by (try simp only [List.map_toArray, List.map_cons, List.map_nil]); first | done | rfl | (simp only [List.length_drop, List.length_take]; rfl)) ?_; (with_reducible refine (bits_Put.calls kj4 a0 a1 t148 t149 _ A8.out).mono ?_); rintro e w11 ⟨rfl, hb⟩; refine ⟨_, rfl, ?_⟩; have n0_ := Aside0.mk (below_step (by repeat (first | (with_reducible first | exact HB.out | apply below_alloc | apply pw_below_drewN | apply below_drew1) | exact HB.out)) hb); clear HB; have HB := n0_; clear n0_; (try clear hb); (try clear hb2); (try clear hk); (try clear hi)) | ((with_reducible refine gate_callee (f := 13) rfl ?_); refine goesL_ (some 38) rfl rfl Try.func13 (by kernel_rfl) rfl #[.int .i64 a0, .int .i64 a1] rfl (by (try simp only [List.map_toArray, List.map_cons, List.map_nil]); first | done | rfl | (simp only [List.length_drop, List.length_take]; rfl)) ?_; (with_reducible refine (heptadref01_Put.calls kj4 a0 a1 t150 t151 _ A9.out).mono ?_); rintro e w' ⟨rfl, ⟨nd, rfl⟩⟩; refine ⟨_, rfl, ?_⟩))
        (try simp only [Act.put, List.setIfInBounds_toArray, List.set_cons_zero, List.set_cons_succ])
        go_cut [48] (fun v48 wc => ∃ (kq : Nat) (x48_9 : Bool), v48 = .bool x48_9 ∧ Aside0 (heptadlaw01_BitsPuts.j1 kq a0 a1 x48_9 = some r) ∧ Aside0 (kq ≤ kj4) ∧ Aside0 (Below w.heap.size w wc))
        case first =>
          have H := HC10.out
          clear HC10
          by_cases c12 : t148.toList = t150.toList
          · rw [if_pos c12] at H
            have c12b0 : (t148.toList == t150.toList) = true := beq_iff_eq.mpr c12
            have c12b1 : (t148.toList != t150.toList) = false := bne_eq_false_iff_eq.mpr c12
            clear c12
            (first | rw [c12b0] | (simp only [i64_w, i32_w]; rw [c12b0]) | skip)
            have H' := Aside0.mk H
            clear H
            go_wp2
            go_meet
            case rel => exact ⟨_, ((t149 != t151)), (by first | rfl | (simp; done) | (simp [*]; done)), H', ⟨by have := HJ4.out; first | omega | exact Nat.le_refl _⟩, ⟨by repeat (first | (with_reducible first | exact HB.out | apply below_alloc | apply pw_below_drewN | apply below_drew1) | exact HB.out)⟩⟩
          · rw [if_neg c12] at H
            have c12b0 : (t148.toList == t150.toList) = false := beq_eq_false_iff_ne.mpr c12
            have c12b1 : (t148.toList != t150.toList) = true := bne_iff_ne.mpr c12
            (first | rw [c12b0] | (simp only [i64_w, i32_w]; rw [c12b0]) | skip)
            have H' := Aside0.mk H
            clear H
            go_wp2
            go_meet
            case rel => exact ⟨_, (true), (by first | rfl | (simp; done) | (simp [*]; done)), H', ⟨by have := HJ4.out; first | omega | exact Nat.le_refl _⟩, ⟨by repeat (first | (with_reducible first | exact HB.out | apply below_alloc | apply pw_below_drewN | apply below_drew1) | exact HB.out)⟩⟩
        case rest =>
          clear HC10
          try clear c1
          try clear p2
          try clear c5
          try clear c6
          try clear c6b0
          try clear c6b1
          try clear c7
          try clear c8
          try clear c9
          try clear c12
          try clear c12b0
          try clear c12b1
          try clear p2
          obtain ⟨kq, x48_9, rfl, HA, HJ9, HB⟩ := hcut
          cases kq with
          | zero => exact absurd HA.out (by simp [heptadlaw01_BitsPuts.j1])
          | succ kj9 =>
            have H := HA.out
            clear HA
            simp only [heptadlaw01_BitsPuts.j1] at H
            by_cases c13 : x48_9 = true
            · subst c13
              have H1 : (some false) = some r := by rw [if_pos rfl] at H; exact H
              clear H
              have H := H1
              clear H1
              obtain rfl := Option.some.inj H
              go_wp2
              go_ret
              exact ⟨by first | rfl | (simp [errW_none, errW_some] <;> rfl) | (simp [*, errW_none, errW_some] <;> rfl), by repeat (first | (with_reducible first | exact HB.out | apply below_alloc | apply pw_below_drewN | apply below_drew1) | exact HB.out)⟩
            · replace c13 := Bool.eq_false_iff.mpr c13
              subst c13
              have H1 : ((bits_Signed.f kj9 a0 a1).bind fun bt152 => ((heptadref01_Signed.f kj9 a0 a1).bind fun bt154 => (if bt152.1.toList = bt154.1.toList then (heptadlaw01_BitsPuts.j2 kj9 a0 (bt152.2 != bt154.2)) else (heptadlaw01_BitsPuts.j2 kj9 a0 true)))) = some r := by rw [if_neg (show ¬ (false = true) by decide)] at H; exact H
              clear H
              have H := H1
              clear H1
              replace H := Option.bind_eq_some_iff.mp H
              obtain ⟨⟨t152, t153⟩, A140, H⟩ := H
              replace H : ((heptadref01_Signed.f kj9 a0 a1).bind fun bt154 => (if t152.toList = bt154.1.toList then (heptadlaw01_BitsPuts.j2 kj9 a0 (t153 != bt154.2)) else (heptadlaw01_BitsPuts.j2 kj9 a0 true))) = some r := H
              have A14 := Aside0.mk A140
              clear A140
              replace H := Option.bind_eq_some_iff.mp H
              obtain ⟨⟨t154, t155⟩, A150, H⟩ := H
              replace H : (if t152.toList = t154.toList then (heptadlaw01_BitsPuts.j2 kj9 a0 (t153 != t155)) else (heptadlaw01_BitsPuts.j2 kj9 a0 true)) = some r := H
              have A15 := Aside0.mk A150
              clear A150
              have HC16 := Aside0.mk H
              clear H
              go_upto_region 11 with (first | ((with_reducible refine gate_callee (f := 14) rfl ?_); refine goesL_ (some 52) rfl rfl Try.func14 (by kernel_rfl) rfl #[.int .i64 a0, .int .i64 a1] rfl (by (try simp only [List.map_toArray, List.map_cons, List.map_nil]); first | done | rfl | (simp only [List.length_drop, List.length_take]; rfl)) ?_; (with_reducible refine (bits_Signed.calls kj9 a0 a1 t152 t153 _ A14.out).mono ?_); rintro e w17 ⟨rfl, hb⟩; refine ⟨_, rfl, ?_⟩; have n0_ := Aside0.mk (below_step (by repeat (first | (with_reducible first | exact HB.out | apply below_alloc | apply pw_below_drewN | apply below_drew1) | exact HB.out)) hb); clear HB; have HB := n0_; clear n0_; (try clear hb); (try clear hb2); (try clear hk); (try clear hi)) | ((with_reducible refine gate_callee (f := 15) rfl ?_); refine goesL_ (some 58) rfl rfl Try.func15 (by kernel_rfl) rfl #[.int .i64 a0, .int .i64 a1] rfl (by (try simp only [List.map_toArray, List.map_cons, List.map_nil]); first | done | rfl | (simp only [List.length_drop, List.length_take]; rfl)) ?_; (with_reducible refine (heptadref01_Signed.calls kj9 a0 a1 t154 t155 _ A15.out).mono ?_); rintro e w' ⟨rfl, ⟨nd, rfl⟩⟩; refine ⟨_, rfl, ?_⟩))
              (try simp only [Act.put, List.setIfInBounds_toArray, List.set_cons_zero, List.set_cons_succ])
              go_cut [68] (fun v68 wc => ∃ (kq : Nat) (x68_15 : Bool), v68 = .bool x68_15 ∧ Aside0 (heptadlaw01_BitsPuts.j2 kq a0 x68_15 = some r) ∧ Aside0 (kq ≤ kj9) ∧ Aside0 (Below w.heap.size w wc))
              case first =>
                have H := HC16.out
                clear HC16
                by_cases c18 : t152.toList = t154.toList
                · rw [if_pos c18] at H
                  have c18b0 : (t152.toList == t154.toList) = true := beq_iff_eq.mpr c18
                  have c18b1 : (t152.toList != t154.toList) = false := bne_eq_false_iff_eq.mpr c18
                  clear c18
                  (first | rw [c18b0] | (simp only [i64_w, i32_w]; rw [c18b0]) | skip)
                  have H' := Aside0.mk H
                  clear H
                  go_wp2
                  go_meet
                  case rel => exact ⟨_, ((t153 != t155)), (by first | rfl | (simp; done) | (simp [*]; done)), H', ⟨by have := HJ4.out; have := HJ9.out; first | omega | exact Nat.le_refl _⟩, ⟨by repeat (first | (with_reducible first | exact HB.out | apply below_alloc | apply pw_below_drewN | apply below_drew1) | exact HB.out)⟩⟩
                · rw [if_neg c18] at H
                  have c18b0 : (t152.toList == t154.toList) = false := beq_eq_false_iff_ne.mpr c18
                  have c18b1 : (t152.toList != t154.toList) = true := bne_iff_ne.mpr c18
                  (first | rw [c18b0] | (simp only [i64_w, i32_w]; rw [c18b0]) | skip)
                  have H' := Aside0.mk H
                  clear H
                  go_wp2
                  go_meet
                  case rel => exact ⟨_, (true), (by first | rfl | (simp; done) | (simp [*]; done)), H', ⟨by have := HJ4.out; have := HJ9.out; first | omega | exact Nat.le_refl _⟩, ⟨by repeat (first | (with_reducible first | exact HB.out | apply below_alloc | apply pw_below_drewN | apply below_drew1) | exact HB.out)⟩⟩
              case rest =>
                clear HC16
                try clear c1
                try clear p2
                try clear c5
                try clear c6
                try clear c6b0
                try clear c6b1
                try clear c7
                try clear c8
                try clear c9
                try clear c12
                try clear c12b0
                try clear c12b1
                try clear c13
                try clear c14
                try clear c15
                try clear c18
                try clear c18b0
                try clear c18b1
                try clear p2
                obtain ⟨kq, x68_15, rfl, HA, HJ15, HB⟩ := hcut
                cases kq with
                | zero => exact absurd HA.out (by simp [heptadlaw01_BitsPuts.j2])
                | succ kj15 =>
                  have H := HA.out
                  clear HA
                  simp only [heptadlaw01_BitsPuts.j2] at H
                  by_cases c19 : x68_15 = true
                  · subst c19
                    have H1 : (some false) = some r := by rw [if_pos rfl] at H; exact H
                    clear H
                    have H := H1
                    clear H1
                    obtain rfl := Option.some.inj H
                    go_wp2
                    go_ret
                    exact ⟨by first | rfl | (simp [errW_none, errW_some] <;> rfl) | (simp [*, errW_none, errW_some] <;> rfl), by repeat (first | (with_reducible first | exact HB.out | apply below_alloc | apply pw_below_drewN | apply below_drew1) | exact HB.out)⟩
                  · replace c19 := Bool.eq_false_iff.mpr c19
                    subst c19
                    have H1 : ((bits_Octets.f kj15 a0).bind fun bt156 => ((heptadref01_Octets.f kj15 a0).bind fun bt158 => (if bt156.1.toList = bt158.1.toList then (if bt156.2 = bt158.2 then ((heptadlaw01_sane.f kj15).bind fun t160 => (some t160)) else (some false)) else (some false)))) = some r := by rw [if_neg (show ¬ (false = true) by decide)] at H; exact H
                    clear H
                    have H := H1
                    clear H1
                    replace H := Option.bind_eq_some_iff.mp H
                    obtain ⟨⟨t156, t157⟩, A200, H⟩ := H
                    replace H : ((heptadref01_Octets.f kj15 a0).bind fun bt158 => (if t156.toList = bt158.1.toList then (if t157 = bt158.2 then ((heptadlaw01_sane.f kj15).bind fun t160 => (some t160)) else (some false)) else (some false))) = some r := H
                    have A20 := Aside0.mk A200
                    clear A200
                    replace H := Option.bind_eq_some_iff.mp H
                    obtain ⟨⟨t158, t159⟩, A210, H⟩ := H
                    replace H : (if t156.toList = t158.toList then (if t157 = t159 then ((heptadlaw01_sane.f kj15).bind fun t160 => (some t160)) else (some false)) else (some false)) = some r := H
                    have A21 := Aside0.mk A210
                    clear A210
                    by_cases c22 : t156.toList = t158.toList
                    · rw [if_pos c22] at H
                      have c22b0 : (t156.toList == t158.toList) = true := beq_iff_eq.mpr c22
                      have c22b1 : (t156.toList != t158.toList) = false := bne_eq_false_iff_eq.mpr c22
                      clear c22
                      by_cases c23 : t157 = t159
                      · rw [if_pos c23] at H
                        have c23b0 : (t157 == t159) = true := beq_iff_eq.mpr c23
                        have c23b1 : (t157 != t159) = false := bne_eq_false_iff_eq.mpr c23
                        clear c23
                        replace H := Option.bind_eq_some_iff.mp H
                        obtain ⟨t160, A240, H⟩ := H
                        replace H : (some t160) = some r := H
                        have A24 := Aside0.mk A240
                        clear A240
                        obtain rfl := Option.some.inj H
                        go_wp2_with (first | ((with_reducible refine gate_callee (f := 16) rfl ?_); refine goesL_ (some 71) rfl rfl Try.func16 (by kernel_rfl) rfl #[.int .i64 a0] rfl (by (try simp only [List.map_toArray, List.map_cons, List.map_nil]); first | done | rfl | (simp only [List.length_drop, List.length_take]; rfl)) ?_; (with_reducible refine (bits_Octets.calls kj15 a0 t156 t157 _ A20.out).mono ?_); rintro e w25 ⟨rfl, hb⟩; refine ⟨_, rfl, ?_⟩; have n0_ := Aside0.mk (below_step (by repeat (first | (with_reducible first | exact HB.out | apply below_alloc | apply pw_below_drewN | apply below_drew1) | exact HB.out)) hb); clear HB; have HB := n0_; clear n0_; (try clear hb); (try clear hb2); (try clear hk); (try clear hi)) | ((with_reducible refine gate_callee (f := 17) rfl ?_); refine goesL_ (some 76) rfl rfl Try.func17 (by kernel_rfl) rfl #[.int .i64 a0] rfl (by (try simp only [List.map_toArray, List.map_cons, List.map_nil]); first | done | rfl | (simp only [List.length_drop, List.length_take]; rfl)) ?_; (with_reducible refine (heptadref01_Octets.calls kj15 a0 t158 t159 _ A21.out).mono ?_); rintro e w26 ⟨rfl, hb⟩; refine ⟨_, rfl, ?_⟩; have n0_ := Aside0.mk (below_step (by repeat (first | (with_reducible first | exact HB.out | apply below_alloc | apply pw_below_drewN | apply below_drew1) | exact HB.out)) hb); clear HB; have HB := n0_; clear n0_; (try clear hb); (try clear hb2); (try clear hk); (try clear hi)) | (go_at_call 7; (with_reducible refine (heptadlaw01_sane.calls kj15  t160 _ A24.out).mono ?_); rintro e w27 ⟨rfl, hb⟩; have n0_ := Aside0.mk (below_step (by repeat (first | (with_reducible first | exact HB.out | apply below_alloc | apply pw_below_drewN | apply below_drew1) | exact HB.out)) hb); clear HB; have HB := n0_; clear n0_; (try clear hb); (try clear hb2); (try clear hk); (try clear hi)))
                        go_ret
                        exact ⟨by first | rfl | (simp [errW_none, errW_some] <;> rfl) | (simp [*, errW_none, errW_some] <;> rfl), by repeat (first | (with_reducible first | exact HB.out | apply below_alloc | apply pw_below_drewN | apply below_drew1) | exact HB.out)⟩
                      · rw [if_neg c23] at H
                        have c23b0 : (t157 == t159) = false := beq_eq_false_iff_ne.mpr c23
                        have c23b1 : (t157 != t159) = true := bne_iff_ne.mpr c23
                        obtain rfl := Option.some.inj H
                        go_wp2_with (first | ((with_reducible refine gate_callee (f := 16) rfl ?_); refine goesL_ (some 71) rfl rfl Try.func16 (by kernel_rfl) rfl #[.int .i64 a0] rfl (by (try simp only [List.map_toArray, List.map_cons, List.map_nil]); first | done | rfl | (simp only [List.length_drop, List.length_take]; rfl)) ?_; (with_reducible refine (bits_Octets.calls kj15 a0 t156 t157 _ A20.out).mono ?_); rintro e w28 ⟨rfl, hb⟩; refine ⟨_, rfl, ?_⟩; have n0_ := Aside0.mk (below_step (by repeat (first | (with_reducible first | exact HB.out | apply below_alloc | apply pw_below_drewN | apply below_drew1) | exact HB.out)) hb); clear HB; have HB := n0_; clear n0_; (try clear hb); (try clear hb2); (try clear hk); (try clear hi)) | ((with_reducible refine gate_callee (f := 17) rfl ?_); refine goesL_ (some 76) rfl rfl Try.func17 (by kernel_rfl) rfl #[.int .i64 a0] rfl (by (try simp only [List.map_toArray, List.map_cons, List.map_nil]); first | done | rfl | (simp only [List.length_drop, List.length_take]; rfl)) ?_; (with_reducible refine (heptadref01_Octets.calls kj15 a0 t158 t159 _ A21.out).mono ?_); rintro e w29 ⟨rfl, hb⟩; refine ⟨_, rfl, ?_⟩; have n0_ := Aside0.mk (below_step (by repeat (first | (with_reducible first | exact HB.out | apply below_alloc | apply pw_below_drewN | apply below_drew1) | exact HB.out)) hb); clear HB; have HB := n0_; clear n0_; (try clear hb); (try clear hb2); (try clear hk); (try clear hi)))
                        go_ret
                        exact ⟨by first | rfl | (simp [errW_none, errW_some] <;> rfl) | (simp [*, errW_none, errW_some] <;> rfl), by repeat (first | (with_reducible first | exact HB.out | apply below_alloc | apply pw_below_drewN | apply below_drew1) | exact HB.out)⟩
                    · rw [if_neg c22] at H
                      have c22b0 : (t156.toList == t158.toList) = false := beq_eq_false_iff_ne.mpr c22
                      have c22b1 : (t156.toList != t158.toList) = true := bne_iff_ne.mpr c22
                      obtain rfl := Option.some.inj H
                      go_wp2_with (first | ((with_reducible refine gate_callee (f := 16) rfl ?_); refine goesL_ (some 71) rfl rfl Try.func16 (by kernel_rfl) rfl #[.int .i64 a0] rfl (by (try simp only [List.map_toArray, List.map_cons, List.map_nil]); first | done | rfl | (simp only [List.length_drop, List.length_take]; rfl)) ?_; (with_reducible refine (bits_Octets.calls kj15 a0 t156 t157 _ A20.out).mono ?_); rintro e w30 ⟨rfl, hb⟩; refine ⟨_, rfl, ?_⟩; have n0_ := Aside0.mk (below_step (by repeat (first | (with_reducible first | exact HB.out | apply below_alloc | apply pw_below_drewN | apply below_drew1) | exact HB.out)) hb); clear HB; have HB := n0_; clear n0_; (try clear hb); (try clear hb2); (try clear hk); (try clear hi)) | ((with_reducible refine gate_callee (f := 17) rfl ?_); refine goesL_ (some 76) rfl rfl Try.func17 (by kernel_rfl) rfl #[.int .i64 a0] rfl (by (try simp only [List.map_toArray, List.map_cons, List.map_nil]); first | done | rfl | (simp only [List.length_drop, List.length_take]; rfl)) ?_; (with_reducible refine (heptadref01_Octets.calls kj15 a0 t158 t159 _ A21.out).mono ?_); rintro e w31 ⟨rfl, hb⟩; refine ⟨_, rfl, ?_⟩; have n0_ := Aside0.mk (below_step (by repeat (first | (with_reducible first | exact HB.out | apply below_alloc | apply pw_below_drewN | apply below_drew1) | exact HB.out)) hb); clear HB; have HB := n0_; clear n0_; (try clear hb); (try clear hb2); (try clear hk); (try clear hi)))
                      go_ret
                      exact ⟨by first | rfl | (simp [errW_none, errW_some] <;> rfl) | (simp [*, errW_none, errW_some] <;> rfl), by repeat (first | (with_reducible first | exact HB.out | apply below_alloc | apply pw_below_drewN | apply below_drew1) | exact HB.out)⟩

/-- THE ONE PURE STATEMENT of heptadlaw01_BitsPuts: yours. -/
def heptadlaw01_BitsPuts.Pure : Prop := ∀ (a0 : Int) (a1 : Int), (Lit.int .i64 a0).wf = true → (Lit.int .i64 a1).wf = true → ∃ k, heptadlaw01_BitsPuts.f k a0 a1 = some true
theorem heptadlaw01_BitsPuts.walk (P : heptadlaw01_BitsPuts.Pure) (a0 : Int) (a1 : Int) (w : World) (w0 : (Lit.int .i64 a0).wf = true) (w1 : (Lit.int .i64 a1).wf = true) :
    Calls Try.prog 5 #[.int .i64 a0, .int .i64 a1] w fun e w' => e = .returned (.bool true) ∧ Below w.heap.size w w' := by
  obtain ⟨k, h⟩ := P a0 a1 w0 w1
  refine (heptadlaw01_BitsPuts.calls k a0 a1 true w h).mono ?_
  rintro e w' ⟨rfl, hd⟩
  exact ⟨rfl, hd⟩

end Go.Proofs.Ythhlfddpacmhfaa.PBitsPuts
