/-
  No cell of these rows narrows 'for every input' (looked for: loops, veiled, ifaces, maps, wideKeys, modest, calm, conditions, laid).
  DERIVED. THE GIVEN ROWS OF THIS SEAT. 7 by the template 'for every input the law returns true; each argument reads behind the call as it read before'; 0 by the template 'total and deterministic' (their statements: YtmafkhllkmipfaaTotals.lean).
  GIVEN WITH THE SEED: the statements are not yours to turn. If you find one false, say at which input.
  Laid BY PROGRAM, IN A SANDBOX (cutbox-rows.mjs): the forced cells as the released guide's own fill.sh prints them over the translation 1a5d2e4856fef1ba… (all of the seat's roots in one cut). By AI agents, Wed Nov 11 2026. No macro, syntax, notation, axiom, sorry.
-/
import Derived.Test.YtmafkhllkmipfaaChecked
import GoSem.Claim
import GoSem.ClaimJoined
import GoSem.ClaimMapViews
import Derived.JoinedTies
import Derived.KernelRfl
namespace Go.Proofs.Ytmafkhllkmipfaa
/- THE CELL 'sum', in the pinned program and in every row, IS THE sha256 OF THE DUMP (.gsa) THAT YtmafkhllkmipfaaProg.lean LOADS. Nothing in Lean hashes anything: it is a label: what it is worth is what the hold of that sum in a sandbox is worth. -/
noncomputable def Try.pinned : Pinned := { name := "ytmafkhllkmipfaa", sum := "1a5d2e4856fef1baadd42807903a87cd634fbfee46252cedcd59ad7168293744", checked := Try.checked }
namespace Rows
def none {H : Type} : Left H := { results := [], args := [] }

/-- 'heptadlaw27.CommitMixed': WHATEVER THE INPUT: true; the input reads as it did. -/
def commitMixedSpec : ChangeSpec := { name := "commitMixed", fn := fun _ => fun
  | [d1, d2] => { results := [.lit (.bool true)], args := [d1, d2] }
  | _ => none }
def commitMixedRow : OpenClaim := { program := "ytmafkhllkmipfaa", sum := "1a5d2e4856fef1baadd42807903a87cd634fbfee46252cedcd59ad7168293744", func := "heptad/heptadlaw27.CommitMixed", spec := "commitMixed", unfollowed := true, recurses := true, plainKeys := false, apart := false }
def CommitMixedSaid : Prop := commitMixedRow.holds Try.pinned (OpenSpec.ofChange commitMixedSpec)

/-- ITS FALSE NEIGHBOUR: 'it returns false'. Refute it at one input. -/
def commitMixedWrong : ChangeSpec := { name := "commitMixed", fn := fun _ => fun
  | [d1, d2] => { results := [.lit (.bool false)], args := [d1, d2] }
  | _ => none }
def CommitMixedWrongFalsely : Prop := commitMixedRow.holds Try.pinned (OpenSpec.ofChange commitMixedWrong)

/-- 'heptadlaw27.CommitCrash': WHATEVER THE INPUT: true; the input reads as it did. -/
def commitCrashSpec : ChangeSpec := { name := "commitCrash", fn := fun _ => fun
  | [d1, d2] => { results := [.lit (.bool true)], args := [d1, d2] }
  | _ => none }
def commitCrashRow : OpenClaim := { program := "ytmafkhllkmipfaa", sum := "1a5d2e4856fef1baadd42807903a87cd634fbfee46252cedcd59ad7168293744", func := "heptad/heptadlaw27.CommitCrash", spec := "commitCrash", unfollowed := true, recurses := true, plainKeys := false, apart := false }
def CommitCrashSaid : Prop := commitCrashRow.holds Try.pinned (OpenSpec.ofChange commitCrashSpec)

/-- ITS FALSE NEIGHBOUR: 'it returns false'. Refute it at one input. -/
def commitCrashWrong : ChangeSpec := { name := "commitCrash", fn := fun _ => fun
  | [d1, d2] => { results := [.lit (.bool false)], args := [d1, d2] }
  | _ => none }
def CommitCrashWrongFalsely : Prop := commitCrashRow.holds Try.pinned (OpenSpec.ofChange commitCrashWrong)

/-- 'heptadlaw27.CommitNothing': WHATEVER THE INPUT: true; the input reads as it did. -/
def commitNothingSpec : ChangeSpec := { name := "commitNothing", fn := fun _ => fun
  | [d1, d2] => { results := [.lit (.bool true)], args := [d1, d2] }
  | _ => none }
def commitNothingRow : OpenClaim := { program := "ytmafkhllkmipfaa", sum := "1a5d2e4856fef1baadd42807903a87cd634fbfee46252cedcd59ad7168293744", func := "heptad/heptadlaw27.CommitNothing", spec := "commitNothing", unfollowed := true, recurses := true, plainKeys := false, apart := false }
def CommitNothingSaid : Prop := commitNothingRow.holds Try.pinned (OpenSpec.ofChange commitNothingSpec)

/-- ITS FALSE NEIGHBOUR: 'it returns false'. Refute it at one input. -/
def commitNothingWrong : ChangeSpec := { name := "commitNothing", fn := fun _ => fun
  | [d1, d2] => { results := [.lit (.bool false)], args := [d1, d2] }
  | _ => none }
def CommitNothingWrongFalsely : Prop := commitNothingRow.holds Try.pinned (OpenSpec.ofChange commitNothingWrong)

/-- 'heptadlaw27.CommitAgrees': WHATEVER THE INPUT: true; the input reads as it did. -/
def commitAgreesSpec : ChangeSpec := { name := "commitAgrees", fn := fun _ => fun
  | [d1, d2] => { results := [.lit (.bool true)], args := [d1, d2] }
  | _ => none }
def commitAgreesRow : OpenClaim := { program := "ytmafkhllkmipfaa", sum := "1a5d2e4856fef1baadd42807903a87cd634fbfee46252cedcd59ad7168293744", func := "heptad/heptadlaw27.CommitAgrees", spec := "commitAgrees", unfollowed := true, recurses := true, plainKeys := false, apart := false }
def CommitAgreesSaid : Prop := commitAgreesRow.holds Try.pinned (OpenSpec.ofChange commitAgreesSpec)

/-- ITS FALSE NEIGHBOUR: 'it returns false'. Refute it at one input. -/
def commitAgreesWrong : ChangeSpec := { name := "commitAgrees", fn := fun _ => fun
  | [d1, d2] => { results := [.lit (.bool false)], args := [d1, d2] }
  | _ => none }
def CommitAgreesWrongFalsely : Prop := commitAgreesRow.holds Try.pinned (OpenSpec.ofChange commitAgreesWrong)

/-- 'heptadlaw27.CommitPlay': WHATEVER THE INPUT: true; the input reads as it did. -/
def commitPlaySpec : ChangeSpec := { name := "commitPlay", fn := fun _ => fun
  | [d1, d2] => { results := [.lit (.bool true)], args := [d1, d2] }
  | _ => none }
def commitPlayRow : OpenClaim := { program := "ytmafkhllkmipfaa", sum := "1a5d2e4856fef1baadd42807903a87cd634fbfee46252cedcd59ad7168293744", func := "heptad/heptadlaw27.CommitPlay", spec := "commitPlay", unfollowed := true, recurses := true, plainKeys := false, apart := false }
def CommitPlaySaid : Prop := commitPlayRow.holds Try.pinned (OpenSpec.ofChange commitPlaySpec)

/-- ITS FALSE NEIGHBOUR: 'it returns false'. Refute it at one input. -/
def commitPlayWrong : ChangeSpec := { name := "commitPlay", fn := fun _ => fun
  | [d1, d2] => { results := [.lit (.bool false)], args := [d1, d2] }
  | _ => none }
def CommitPlayWrongFalsely : Prop := commitPlayRow.holds Try.pinned (OpenSpec.ofChange commitPlayWrong)

/-- 'heptadlaw27.CommitSettles': WHATEVER THE INPUT: true; the input reads as it did. -/
def commitSettlesSpec : ChangeSpec := { name := "commitSettles", fn := fun _ => fun
  | [d1, d2] => { results := [.lit (.bool true)], args := [d1, d2] }
  | _ => none }
def commitSettlesRow : OpenClaim := { program := "ytmafkhllkmipfaa", sum := "1a5d2e4856fef1baadd42807903a87cd634fbfee46252cedcd59ad7168293744", func := "heptad/heptadlaw27.CommitSettles", spec := "commitSettles", unfollowed := true, recurses := true, plainKeys := false, apart := false }
def CommitSettlesSaid : Prop := commitSettlesRow.holds Try.pinned (OpenSpec.ofChange commitSettlesSpec)

/-- ITS FALSE NEIGHBOUR: 'it returns false'. Refute it at one input. -/
def commitSettlesWrong : ChangeSpec := { name := "commitSettles", fn := fun _ => fun
  | [d1, d2] => { results := [.lit (.bool false)], args := [d1, d2] }
  | _ => none }
def CommitSettlesWrongFalsely : Prop := commitSettlesRow.holds Try.pinned (OpenSpec.ofChange commitSettlesWrong)

/-- 'heptadlaw27.CommitPlays': WHATEVER THE INPUT: true; the input reads as it did. -/
def commitPlaysSpec : ChangeSpec := { name := "commitPlays", fn := fun _ => fun
  | [d1, d2] => { results := [.lit (.bool true)], args := [d1, d2] }
  | _ => none }
def commitPlaysRow : OpenClaim := { program := "ytmafkhllkmipfaa", sum := "1a5d2e4856fef1baadd42807903a87cd634fbfee46252cedcd59ad7168293744", func := "heptad/heptadlaw27.CommitPlays", spec := "commitPlays", unfollowed := true, recurses := true, plainKeys := false, apart := false }
def CommitPlaysSaid : Prop := commitPlaysRow.holds Try.pinned (OpenSpec.ofChange commitPlaysSpec)

/-- ITS FALSE NEIGHBOUR: 'it returns false'. Refute it at one input. -/
def commitPlaysWrong : ChangeSpec := { name := "commitPlays", fn := fun _ => fun
  | [d1, d2] => { results := [.lit (.bool false)], args := [d1, d2] }
  | _ => none }
def CommitPlaysWrongFalsely : Prop := commitPlaysRow.holds Try.pinned (OpenSpec.ofChange commitPlaysWrong)

/- THE SECOND FORM. 'bulk': how many values and letters a reading holds, each counted each time it is reached (what is shared counts as often as it is met; a slice's spare places count too). A statement '..UptoSaid' is the law's where the arguments, and the package variables that the reading takes, are together of bulk at most 1048576: NARROWER than '..Said'. Prove '..Said' where nothing that the law and all that it calls make is longer than what came in: it says more and counts as full. Else prove '..UptoSaid'. A law counts once. -/
mutual
def uptoBulk {H : Type} : DataW H → Nat
  | .lit (.string bytes) => bytes.length + 1
  | .lit _ => 1
  | .nil => 1
  | .ptr d => uptoBulk d + 1
  | .slice elems spare => uptoBulkAll elems + uptoBulkAll spare + 1
  | .agg parts => uptoBulkAll parts + 1
  | .iface _ d => uptoBulk d + 1
  | .map entries => uptoBulkEntries entries + 1
  | .held _ => 1
def uptoBulkAll {H : Type} : List (DataW H) → Nat
  | [] => 0
  | d :: r => uptoBulk d + uptoBulkAll r
def uptoBulkEntries {H : Type} : List (Lit × DataW H) → Nat
  | [] => 0
  | x :: r => uptoBulkEntry x + uptoBulkEntries r
def uptoBulkEntry {H : Type} : Lit × DataW H → Nat
  | (.string bytes, d) => bytes.length + uptoBulk d + 1
  | (_, d) => uptoBulk d + 1
 end
def uptoSmall : (H : Type) → List (DataW H) → Bool := fun _ ds => decide (uptoBulkAll ds ≤ 1048576)
def OpenSpec.upto (s : _root_.Go.ChangeSpec) : _root_.Go.OpenSpec := { _root_.Go.OpenSpec.ofChange s with cond := some uptoSmall }

/-- 'heptadlaw27.CommitMixed', WHERE WHAT IT READS IS OF BULK AT MOST 1048576: true; the input reads as it did. -/
def commitMixedUptoRow : OpenClaim := { program := "ytmafkhllkmipfaa", sum := "1a5d2e4856fef1baadd42807903a87cd634fbfee46252cedcd59ad7168293744", func := "heptad/heptadlaw27.CommitMixed", spec := "commitMixed", unfollowed := true, recurses := true, plainKeys := false, apart := false, narrowed := true }
def CommitMixedUptoSaid : Prop := commitMixedUptoRow.holds Try.pinned (OpenSpec.upto commitMixedSpec)

/-- 'heptadlaw27.CommitCrash', WHERE WHAT IT READS IS OF BULK AT MOST 1048576: true; the input reads as it did. -/
def commitCrashUptoRow : OpenClaim := { program := "ytmafkhllkmipfaa", sum := "1a5d2e4856fef1baadd42807903a87cd634fbfee46252cedcd59ad7168293744", func := "heptad/heptadlaw27.CommitCrash", spec := "commitCrash", unfollowed := true, recurses := true, plainKeys := false, apart := false, narrowed := true }
def CommitCrashUptoSaid : Prop := commitCrashUptoRow.holds Try.pinned (OpenSpec.upto commitCrashSpec)

/-- 'heptadlaw27.CommitNothing', WHERE WHAT IT READS IS OF BULK AT MOST 1048576: true; the input reads as it did. -/
def commitNothingUptoRow : OpenClaim := { program := "ytmafkhllkmipfaa", sum := "1a5d2e4856fef1baadd42807903a87cd634fbfee46252cedcd59ad7168293744", func := "heptad/heptadlaw27.CommitNothing", spec := "commitNothing", unfollowed := true, recurses := true, plainKeys := false, apart := false, narrowed := true }
def CommitNothingUptoSaid : Prop := commitNothingUptoRow.holds Try.pinned (OpenSpec.upto commitNothingSpec)

/-- 'heptadlaw27.CommitAgrees', WHERE WHAT IT READS IS OF BULK AT MOST 1048576: true; the input reads as it did. -/
def commitAgreesUptoRow : OpenClaim := { program := "ytmafkhllkmipfaa", sum := "1a5d2e4856fef1baadd42807903a87cd634fbfee46252cedcd59ad7168293744", func := "heptad/heptadlaw27.CommitAgrees", spec := "commitAgrees", unfollowed := true, recurses := true, plainKeys := false, apart := false, narrowed := true }
def CommitAgreesUptoSaid : Prop := commitAgreesUptoRow.holds Try.pinned (OpenSpec.upto commitAgreesSpec)

/-- 'heptadlaw27.CommitPlay', WHERE WHAT IT READS IS OF BULK AT MOST 1048576: true; the input reads as it did. -/
def commitPlayUptoRow : OpenClaim := { program := "ytmafkhllkmipfaa", sum := "1a5d2e4856fef1baadd42807903a87cd634fbfee46252cedcd59ad7168293744", func := "heptad/heptadlaw27.CommitPlay", spec := "commitPlay", unfollowed := true, recurses := true, plainKeys := false, apart := false, narrowed := true }
def CommitPlayUptoSaid : Prop := commitPlayUptoRow.holds Try.pinned (OpenSpec.upto commitPlaySpec)

/-- 'heptadlaw27.CommitSettles', WHERE WHAT IT READS IS OF BULK AT MOST 1048576: true; the input reads as it did. -/
def commitSettlesUptoRow : OpenClaim := { program := "ytmafkhllkmipfaa", sum := "1a5d2e4856fef1baadd42807903a87cd634fbfee46252cedcd59ad7168293744", func := "heptad/heptadlaw27.CommitSettles", spec := "commitSettles", unfollowed := true, recurses := true, plainKeys := false, apart := false, narrowed := true }
def CommitSettlesUptoSaid : Prop := commitSettlesUptoRow.holds Try.pinned (OpenSpec.upto commitSettlesSpec)

/-- 'heptadlaw27.CommitPlays', WHERE WHAT IT READS IS OF BULK AT MOST 1048576: true; the input reads as it did. -/
def commitPlaysUptoRow : OpenClaim := { program := "ytmafkhllkmipfaa", sum := "1a5d2e4856fef1baadd42807903a87cd634fbfee46252cedcd59ad7168293744", func := "heptad/heptadlaw27.CommitPlays", spec := "commitPlays", unfollowed := true, recurses := true, plainKeys := false, apart := false, narrowed := true }
def CommitPlaysUptoSaid : Prop := commitPlaysUptoRow.holds Try.pinned (OpenSpec.upto commitPlaysSpec)

end Rows
end Go.Proofs.Ytmafkhllkmipfaa
