/- The law LinkCopies as it is said, for every setup and every events: a copy goes on alone, and as the first one. -/
import Derived.Test.YtgefohjickhldaaRows
import Derived.Test.YtgefohjickhldaaL10ec
import Derived.Test.YtgefohjickhldaaT10o
import Derived.WalkKit
import Derived.ProofKit
import Derived.OpenShut
import Derived.ShutString
import Derived.ChangeOld
import Derived.Below
import Derived.Carry
import Derived.SizedLaws
namespace Go.Proofs.Ytgefohjickhldaa.linkCopies
open Go.ChangeShapes Go.WideShapes Go.ChangeAt Go.RowKit Go.Fw
set_option linter.unusedVariables false
theorem own : ownKnob Try.prog.godebug = none := by kernel_rfl
set_option maxRecDepth 100000 in
theorem lifted (os : Os) (started : os.Started) (H : Type) (enc : TypeId × Value → H) :
    ReturnsInHanded {} Try.checked os 8 .any (Rows.linkCopiesSpec.pre6 enc Try.prog Try.f8 Rows.linkCopiesRow.domain false) (Rows.linkCopiesSpec.post enc Try.prog Try.f8 false true false false) := by
  refine returnsInHanded_of_change_sized (C := Try.checked) own started (by kernel_rfl) Try.func8
    (ChangeSpec.witness6 (enc := enc) (C := Try.checked) false ⟨#[], #[.agg #[.bool false, .int .i64 0, .int .i64 0, .int .i64 0], .slice none 0 0, .slice none 0 0], []⟩ 8 (by kernel_rfl) (by kernel_rfl) (by kernel_rfl) (by kernel_rfl)) ?_
  intro W base args ds gs before hval0 hW hcnd hsz0 _
  have hsz : (DataW.weightsEach Try.prog (Try.f8.params.toList ++ Rows.linkCopiesSpec.plain.varTypes Try.prog) (ds ++ gs)).all (· ≤ reachBytes) = true := hsz0
  have hval : ∀ (j : Nat) t v, Try.f8.params[j]? = some t → args[j]? = some v → Value.okWide Try.prog W .any base t v := hval0
  have hW' := hW
  obtain ⟨p, q, hA0, hV, rfl, hfz, hnd⟩ := hW
  have hA : DataW.TrodAll enc Try.prog W 0 (fun _ => true) true Try.f8.params.toList args.toList ds p := hA0
  have hlt := DataW.TrodAll.lt hA
  rw [Try.params8] at hA hval hsz
  obtain ⟨v0, vs0, d0, ds0, p0, q0, hargs, rfl, rfl, h0, r0⟩ := trodAll_cons hA
  obtain ⟨v1, vs1, d1, ds1, p1, q1, rfl, rfl, rfl, h1, r1⟩ := trodAll_cons r0
  obtain ⟨v2, vs2, d2, ds2, p2, q2, rfl, rfl, rfl, h2, r2⟩ := trodAll_cons r1
  obtain ⟨rfl, rfl, rfl⟩ := trodAll_nil r2
  obtain rfl : args = #[v0, v1, v2] := by cases args; simp_all
  obtain ⟨rfl, rfl⟩ := trodVars_none hV
  have w0 : ∀ k ∈ d0.weights Try.prog 53, k ≤ reachBytes := fun k hk => by simpa using List.all_eq_true.1 hsz k (DataW.weights_mem_each (j := 0) rfl rfl k hk)
  have w1 : ∀ k ∈ d1.weights Try.prog 54, k ≤ reachBytes := fun k hk => by simpa using List.all_eq_true.1 hsz k (DataW.weights_mem_each (j := 1) rfl rfl k hk)
  have w2 : ∀ k ∈ d2.weights Try.prog 54, k ≤ reachBytes := fun k hk => by simpa using List.all_eq_true.1 hsz k (DataW.weights_mem_each (j := 2) rfl rfl k hk)
  obtain ⟨a0, e0, s0⟩ := embedArg D.okE (m := 6) (t := 53) (by kernel_rfl) (hval 0 53 v0 rfl rfl) h0 w0
  obtain ⟨a1, e1, s1⟩ := embedArg D.okE (m := 6) (t := 54) (by kernel_rfl) (hval 1 54 v1 rfl rfl) h1 w1
  obtain ⟨a2, e2, s2⟩ := embedArg D.okE (m := 6) (t := 54) (by kernel_rfl) (hval 2 54 v2 rfl rfl) h2 w2
  obtain ⟨f, w, wt, t, rfl⟩ := D.argSetup s0
  obtain ⟨x, l, hl, rfl⟩ := D.argEvs s1
  obtain ⟨x2, l2, hl2, rfl⟩ := D.argEvs s2
  have hrun := (D.law8 f w wt t x l x2 l2 hl hl2).calls rfl D.okE (w := W) (args' := #[v0, v1, v2]) (.cons e0 (.cons e1 (.cons e2 .nil)))
  refine hrun.mono fun e W' he => ?_
  obtain ⟨v', μ', rfl, bel, hv⟩ := he
  obtain rfl := hv.inv_bool
  exact ⟨_, rfl, _, _, _, [], _, [], hW', trodAll_mk1 (shut_bool Try.underlying4 _),
    (trodAll_cons_mk (Below.trod (by kernel_rfl) (by kernel_rfl) (of_decide_eq_true (by kernel_rfl)) h0 bel (fun x hx => hlt x (by simp [hx]))) (trodAll_cons_mk (Below.trod (by kernel_rfl) (by kernel_rfl) (of_decide_eq_true (by kernel_rfl)) h1 bel (fun x hx => hlt x (by simp [hx]))) (trodAll_cons_mk (Below.trod (by kernel_rfl) (by kernel_rfl) (of_decide_eq_true (by kernel_rfl)) h2 bel (fun x hx => hlt x (by simp [hx]))) trodAll_mk0))), rfl, bel.frame _, fun h => by cases h⟩
theorem over : Rows.linkCopiesRow.holds Try.pinned (OpenSpec.ofChange Rows.linkCopiesSpec) :=
  OpenClaim.holds_of_wide 8 Try.f8 rfl rfl rfl rfl rfl rfl rfl ⟨rfl, rfl, rfl, rfl, rfl⟩ rfl rfl rfl rfl rfl (by kernel_rfl) Try.func8 (by kernel_rfl)
    (of_decide_eq_true (by kernel_rfl)) (by unfold Func.isWrapper; first | (rw [if_pos (by decide +kernel)]; kernel_rfl) | (rw [if_neg (by decide +kernel)]; exact ⟨rfl, rfl⟩))
    (fun os started H enc _ => lifted os started H enc)
theorem proved : Rows.LinkCopiesSaid := over
#print axioms proved
end Go.Proofs.Ytgefohjickhldaa.linkCopies
namespace Go.Proofs.Ytgefohjickhldaa
/-- The row, under a short name, for the claim. -/
theorem linkCopies_holds : Rows.LinkCopiesSaid := linkCopies.proved
end Go.Proofs.Ytgefohjickhldaa
