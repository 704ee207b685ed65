/- The law ScreenAgrees as it is said, for every size and every row of acts. -/
import Derived.Test.YtlejgfeoffhjoaaRows
import Derived.Test.YtlejgfeoffhjoaaW34k
import Derived.Test.YtlejgfeoffhjoaaL34k
import Derived.WalkKit
import Derived.ProofKit
import Derived.OpenShut
import Derived.ShutString
import Derived.ChangeOld
import Derived.Below
import Derived.Carry
import Derived.SizedLaws
namespace Go.Proofs.Ytlejgfeoffhjoaa.screenAgrees
open Go.ChangeShapes Go.WideShapes Go.ChangeAt Go.RowKit Go.Fw
set_option linter.unusedVariables false
theorem own : ownKnob Try.prog.godebug = none := by kernel_rfl
set_option maxRecDepth 100000 in
theorem lifted (os : Os) (started : os.Started) (H : Type) (enc : TypeId × Value → H) :
    ReturnsInHanded {} Try.checked os 6 .any (Rows.screenAgreesSpec.pre6 enc Try.prog Try.f6 Rows.screenAgreesRow.domain false) (Rows.screenAgreesSpec.post enc Try.prog Try.f6 false true false false) := by
  refine returnsInHanded_of_change_sized (C := Try.checked) own started (by kernel_rfl) Try.func6
    (ChangeSpec.witness6 (enc := enc) (C := Try.checked) false ⟨#[], #[.int .i64 0, .int .i64 0, .slice none 0 0], []⟩ 8 (by kernel_rfl) (by kernel_rfl) (by kernel_rfl) (by kernel_rfl)) ?_
  intro W base args ds gs before hval0 hW hcnd hsz0 _
  have hsz : (DataW.weightsEach Try.prog (Try.f6.params.toList ++ Rows.screenAgreesSpec.plain.varTypes Try.prog) (ds ++ gs)).all (· ≤ reachBytes) = true := hsz0
  have hval : ∀ (j : Nat) t v, Try.f6.params[j]? = some t → args[j]? = some v → Value.okWide Try.prog W .any base t v := hval0
  have hW' := hW
  obtain ⟨p, q, hA0, hV, rfl, hfz, hnd⟩ := hW
  have hA : DataW.TrodAll enc Try.prog W 0 (fun _ => true) true Try.f6.params.toList args.toList ds p := hA0
  have hlt := DataW.TrodAll.lt hA
  rw [Try.params6] at hA hval hsz
  obtain ⟨v0, vs0, d0, ds0, p0, q0, hargs, rfl, rfl, h0, r0⟩ := trodAll_cons hA
  obtain ⟨v1, vs1, d1, ds1, p1, q1, rfl, rfl, rfl, h1, r1⟩ := trodAll_cons r0
  obtain ⟨v2, vs2, d2, ds2, p2, q2, rfl, rfl, rfl, h2, r2⟩ := trodAll_cons r1
  obtain ⟨rfl, rfl, rfl⟩ := trodAll_nil r2
  obtain rfl : args = #[v0, v1, v2] := by cases args; simp_all
  obtain ⟨rfl, rfl⟩ := trodVars_none hV
  have w0 : ∀ k ∈ d0.weights Try.prog 3, k ≤ reachBytes := fun k hk => by simpa using List.all_eq_true.1 hsz k (DataW.weights_mem_each (j := 0) rfl rfl k hk)
  have w1 : ∀ k ∈ d1.weights Try.prog 3, k ≤ reachBytes := fun k hk => by simpa using List.all_eq_true.1 hsz k (DataW.weights_mem_each (j := 1) rfl rfl k hk)
  have w2 : ∀ k ∈ d2.weights Try.prog 47, k ≤ reachBytes := fun k hk => by simpa using List.all_eq_true.1 hsz k (DataW.weights_mem_each (j := 2) rfl rfl k hk)
  obtain ⟨a0, e0, s0⟩ := embedArg D.okE (m := 6) (t := 3) (by kernel_rfl) (hval 0 3 v0 rfl rfl) h0 w0
  obtain ⟨a1, e1, s1⟩ := embedArg D.okE (m := 6) (t := 3) (by kernel_rfl) (hval 1 3 v1 rfl rfl) h1 w1
  obtain ⟨a2, e2, s2⟩ := embedArg D.okE (m := 6) (t := 47) (by kernel_rfl) (hval 2 47 v2 rfl rfl) h2 w2
  obtain ⟨row, rfl⟩ := D.argInt s0
  obtain ⟨col, rfl⟩ := D.argInt s1
  obtain ⟨x, Z, hZ, hT, rfl⟩ := D.argActs s2
  have hrun := (D.law6 row col x Z hZ hT).calls rfl D.okE (w := W) (args' := #[v0, v1, v2]) (.cons e0 (.cons e1 (.cons e2 .nil)))
  refine hrun.mono fun e W' he => ?_
  obtain ⟨v', μ', rfl, bel, hv⟩ := he
  obtain rfl := hv.inv_bool
  exact ⟨_, rfl, _, _, _, [], _, [], hW', trodAll_mk1 (shut_bool Try.underlying4 _),
    (trodAll_cons_mk (Below.trod (by kernel_rfl) (by kernel_rfl) (of_decide_eq_true (by kernel_rfl)) h0 bel (fun x hx => hlt x (by simp [hx]))) (trodAll_cons_mk (Below.trod (by kernel_rfl) (by kernel_rfl) (of_decide_eq_true (by kernel_rfl)) h1 bel (fun x hx => hlt x (by simp [hx]))) (trodAll_cons_mk (Below.trod (by kernel_rfl) (by kernel_rfl) (of_decide_eq_true (by kernel_rfl)) h2 bel (fun x hx => hlt x (by simp [hx]))) trodAll_mk0))), rfl, bel.frame _, fun h => by cases h⟩
theorem over : Rows.screenAgreesRow.holds Try.pinned (OpenSpec.ofChange Rows.screenAgreesSpec) :=
  OpenClaim.holds_of_wide 6 Try.f6 rfl rfl rfl rfl rfl rfl rfl ⟨rfl, rfl, rfl, rfl, rfl⟩ rfl rfl rfl rfl rfl (by kernel_rfl) Try.func6 (by kernel_rfl)
    (of_decide_eq_true (by kernel_rfl)) (by unfold Func.isWrapper; first | (rw [if_pos (by decide +kernel)]; kernel_rfl) | (rw [if_neg (by decide +kernel)]; exact ⟨rfl, rfl⟩))
    (fun os started H enc _ => lifted os started H enc)
theorem proved : Rows.ScreenAgreesSaid := over
#print axioms proved
end Go.Proofs.Ytlejgfeoffhjoaa.screenAgrees
namespace Go.Proofs.Ytlejgfeoffhjoaa
/-- The row, under a short name, for the claim. -/
theorem screenAgrees_holds : Rows.ScreenAgreesSaid := screenAgrees.proved
end Go.Proofs.Ytlejgfeoffhjoaa
