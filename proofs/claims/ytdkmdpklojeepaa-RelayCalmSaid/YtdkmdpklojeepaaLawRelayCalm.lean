/- The law RelayCalm as it is said, for every kind, numbers and units: a calm medium of either kind loses nothing. -/
import Derived.Test.YtdkmdpklojeepaaRows
import Derived.Test.YtdkmdpklojeepaaR09m
import Derived.Test.YtdkmdpklojeepaaL09z
import Derived.WalkKit
import Derived.ProofKit
import Derived.OpenShut
import Derived.ShutString
import Derived.ChangeOld
import Derived.Below
import Derived.Carry
import Derived.SizedLaws
namespace Go.Proofs.Ytdkmdpklojeepaa.relayCalm
open Go.ChangeShapes Go.WideShapes Go.ChangeAt Go.RowKit Go.Fw
set_option linter.unusedVariables false
theorem own : ownKnob Try.prog.godebug = none := by kernel_rfl
set_option maxRecDepth 100000 in
theorem lifted (os : Os) (started : os.Started) (H : Type) (enc : TypeId × Value → H) :
    ReturnsInHanded {} Try.checked os 3 .any (Rows.relayCalmSpec.pre6 enc Try.prog Try.f3 Rows.relayCalmRow.domain false) (Rows.relayCalmSpec.post enc Try.prog Try.f3 false true false false) := by
  refine returnsInHanded_of_change_sized (C := Try.checked) own started (by kernel_rfl) Try.func3
    (ChangeSpec.witness6 (enc := enc) (C := Try.checked) false ⟨#[], #[.int .i64 0, .slice none 0 0, .int .i64 0], []⟩ 8 (by kernel_rfl) (by kernel_rfl) (by kernel_rfl) (by kernel_rfl)) ?_
  intro W base args ds gs before hval0 hW hcnd hsz0 _
  have hsz : (DataW.weightsEach Try.prog (Try.f3.params.toList ++ Rows.relayCalmSpec.plain.varTypes Try.prog) (ds ++ gs)).all (· ≤ reachBytes) = true := hsz0
  have hval : ∀ (j : Nat) t v, Try.f3.params[j]? = some t → args[j]? = some v → Value.okWide Try.prog W .any base t v := hval0
  have hW' := hW
  obtain ⟨p, q, hA0, hV, rfl, hfz, hnd⟩ := hW
  have hA : DataW.TrodAll enc Try.prog W 0 (fun _ => true) true Try.f3.params.toList args.toList ds p := hA0
  have hlt := DataW.TrodAll.lt hA
  rw [Try.params3] at hA hval hsz
  obtain ⟨v0, vs0, d0, ds0, p0, q0, hargs, rfl, rfl, h0, r0⟩ := trodAll_cons hA
  obtain ⟨v1, vs1, d1, ds1, p1, q1, rfl, rfl, rfl, h1, r1⟩ := trodAll_cons r0
  obtain ⟨v2, vs2, d2, ds2, p2, q2, rfl, rfl, rfl, h2, r2⟩ := trodAll_cons r1
  obtain ⟨rfl, rfl, rfl⟩ := trodAll_nil r2
  obtain rfl : args = #[v0, v1, v2] := by cases args; simp_all
  obtain ⟨rfl, rfl⟩ := trodVars_none hV
  have w0 : ∀ k ∈ d0.weights Try.prog 3, k ≤ reachBytes := fun k hk => by simpa using List.all_eq_true.1 hsz k (DataW.weights_mem_each (j := 0) rfl rfl k hk)
  have w1 : ∀ k ∈ d1.weights Try.prog 22, k ≤ reachBytes := fun k hk => by simpa using List.all_eq_true.1 hsz k (DataW.weights_mem_each (j := 1) rfl rfl k hk)
  have w2 : ∀ k ∈ d2.weights Try.prog 3, k ≤ reachBytes := fun k hk => by simpa using List.all_eq_true.1 hsz k (DataW.weights_mem_each (j := 2) rfl rfl k hk)
  obtain ⟨a0, e0, s0⟩ := embedArg D.okE (m := 6) (t := 3) (by kernel_rfl) (hval 0 3 v0 rfl rfl) h0 w0
  obtain ⟨a1, e1, s1⟩ := embedArg D.okE (m := 6) (t := 22) (by kernel_rfl) (hval 1 22 v1 rfl rfl) h1 w1
  obtain ⟨a2, e2, s2⟩ := embedArg D.okE (m := 6) (t := 3) (by kernel_rfl) (hval 2 3 v2 rfl rfl) h2 w2
  obtain ⟨ki, hki, rfl⟩ := D.argInt s0
  obtain ⟨x, l, hl, hz, rfl⟩ := D.argIntsR s1
  obtain ⟨u, hu, rfl⟩ := D.argInt s2
  have hrun := (D.law3 ki x l u hl hz).calls rfl D.okE (w := W) (args' := #[v0, v1, v2]) (.cons e0 (.cons e1 (.cons e2 .nil)))
  refine hrun.mono fun e W' he => ?_
  obtain ⟨v', μ', rfl, bel, hv⟩ := he
  obtain rfl := hv.inv_bool
  exact ⟨_, rfl, _, _, _, [], _, [], hW', trodAll_mk1 (shut_bool Try.underlying4 _),
    (trodAll_cons_mk (Below.trod (by kernel_rfl) (by kernel_rfl) (of_decide_eq_true (by kernel_rfl)) h0 bel (fun x hx => hlt x (by simp [hx]))) (trodAll_cons_mk (Below.trod (by kernel_rfl) (by kernel_rfl) (of_decide_eq_true (by kernel_rfl)) h1 bel (fun x hx => hlt x (by simp [hx]))) (trodAll_cons_mk (Below.trod (by kernel_rfl) (by kernel_rfl) (of_decide_eq_true (by kernel_rfl)) h2 bel (fun x hx => hlt x (by simp [hx]))) trodAll_mk0))), rfl, bel.frame _, fun h => by cases h⟩
theorem over : Rows.relayCalmRow.holds Try.pinned (OpenSpec.ofChange Rows.relayCalmSpec) :=
  OpenClaim.holds_of_wide 3 Try.f3 rfl rfl rfl rfl rfl rfl rfl ⟨rfl, rfl, rfl, rfl, rfl⟩ rfl rfl rfl rfl rfl (by kernel_rfl) Try.func3 (by kernel_rfl)
    (of_decide_eq_true (by kernel_rfl)) (by unfold Func.isWrapper; first | (rw [if_pos (by decide +kernel)]; kernel_rfl) | (rw [if_neg (by decide +kernel)]; exact ⟨rfl, rfl⟩))
    (fun os started H enc _ => lifted os started H enc)
theorem proved : Rows.RelayCalmSaid := over
#print axioms proved
end Go.Proofs.Ytdkmdpklojeepaa.relayCalm
namespace Go.Proofs.Ytdkmdpklojeepaa
/-- The row, under a short name, for the claim. -/
theorem relayCalm_holds : Rows.RelayCalmSaid := relayCalm.proved
end Go.Proofs.Ytdkmdpklojeepaa
