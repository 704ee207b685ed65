/-
  No cell of these rows narrows 'for every input' (looked for: loops, veiled, ifaces, maps, wideKeys, modest, calm, conditions, laid).
  DERIVED. THE GIVEN ROWS OF THIS SEAT. 5 by the template 'for every input the law returns true; each argument reads behind the call as it read before'; 0 by the template 'total and deterministic' (their statements: YtdkmdpklojeepaaTotals.lean).
  GIVEN WITH THE SEED: the statements are not yours to turn. If you find one false, say at which input.
  Laid BY PROGRAM, IN A SANDBOX (cutbox-rows.mjs): the forced cells as the released guide's own fill.sh prints them over the translation 45c288b2134814b9… (all of the seat's roots in one cut). By AI agents, Wed Nov 11 2026. No macro, syntax, notation, axiom, sorry.
-/
import Derived.Test.YtdkmdpklojeepaaChecked
import GoSem.Claim
import GoSem.ClaimJoined
import GoSem.ClaimMapViews
import Derived.JoinedTies
import Derived.KernelRfl
namespace Go.Proofs.Ytdkmdpklojeepaa
/- THE CELL 'sum', in the pinned program and in every row, IS THE sha256 OF THE DUMP (.gsa) THAT YtdkmdpklojeepaaProg.lean LOADS. Nothing in Lean hashes anything: it is a label: what it is worth is what the hold of that sum in a sandbox is worth. -/
noncomputable def Try.pinned : Pinned := { name := "ytdkmdpklojeepaa", sum := "45c288b2134814b93d1142d5e70c56ababdda79d3bbd8e4fc20ef45b1542573a", checked := Try.checked }
namespace Rows
def none {H : Type} : Left H := { results := [], args := [] }

/-- 'heptadlaw09.RelayCalm': WHATEVER THE INPUT: true; the input reads as it did. -/
def relayCalmSpec : ChangeSpec := { name := "relayCalm", fn := fun _ => fun
  | [d1, d2, d3] => { results := [.lit (.bool true)], args := [d1, d2, d3] }
  | _ => none }
def relayCalmRow : OpenClaim := { program := "ytdkmdpklojeepaa", sum := "45c288b2134814b93d1142d5e70c56ababdda79d3bbd8e4fc20ef45b1542573a", func := "heptad/heptadlaw09.RelayCalm", spec := "relayCalm", unfollowed := true, recurses := true, apart := false }
def RelayCalmSaid : Prop := relayCalmRow.holds Try.pinned (OpenSpec.ofChange relayCalmSpec)

/-- ITS FALSE NEIGHBOUR: 'it returns false'. Refute it at one input. -/
def relayCalmWrong : ChangeSpec := { name := "relayCalm", fn := fun _ => fun
  | [d1, d2, d3] => { results := [.lit (.bool false)], args := [d1, d2, d3] }
  | _ => none }
def RelayCalmWrongFalsely : Prop := relayCalmRow.holds Try.pinned (OpenSpec.ofChange relayCalmWrong)

/-- 'heptadlaw09.RelayOrder': WHATEVER THE INPUT: true; the input reads as it did. -/
def relayOrderSpec : ChangeSpec := { name := "relayOrder", fn := fun _ => fun
  | [d1, d2] => { results := [.lit (.bool true)], args := [d1, d2] }
  | _ => none }
def relayOrderRow : OpenClaim := { program := "ytdkmdpklojeepaa", sum := "45c288b2134814b93d1142d5e70c56ababdda79d3bbd8e4fc20ef45b1542573a", func := "heptad/heptadlaw09.RelayOrder", spec := "relayOrder", unfollowed := true, recurses := true, apart := false }
def RelayOrderSaid : Prop := relayOrderRow.holds Try.pinned (OpenSpec.ofChange relayOrderSpec)

/-- ITS FALSE NEIGHBOUR: 'it returns false'. Refute it at one input. -/
def relayOrderWrong : ChangeSpec := { name := "relayOrder", fn := fun _ => fun
  | [d1, d2] => { results := [.lit (.bool false)], args := [d1, d2] }
  | _ => none }
def RelayOrderWrongFalsely : Prop := relayOrderRow.holds Try.pinned (OpenSpec.ofChange relayOrderWrong)

/-- 'heptadlaw09.RelayScripts': WHATEVER THE INPUT: true; the input reads as it did. -/
def relayScriptsSpec : ChangeSpec := { name := "relayScripts", fn := fun _ => fun
  | [d] => { results := [.lit (.bool true)], args := [d] }
  | _ => none }
def relayScriptsRow : OpenClaim := { program := "ytdkmdpklojeepaa", sum := "45c288b2134814b93d1142d5e70c56ababdda79d3bbd8e4fc20ef45b1542573a", func := "heptad/heptadlaw09.RelayScripts", spec := "relayScripts", unfollowed := true, recurses := true, apart := false }
def RelayScriptsSaid : Prop := relayScriptsRow.holds Try.pinned (OpenSpec.ofChange relayScriptsSpec)

/-- ITS FALSE NEIGHBOUR: 'it returns false'. Refute it at one input. -/
def relayScriptsWrong : ChangeSpec := { name := "relayScripts", fn := fun _ => fun
  | [d] => { results := [.lit (.bool false)], args := [d] }
  | _ => none }
def RelayScriptsWrongFalsely : Prop := relayScriptsRow.holds Try.pinned (OpenSpec.ofChange relayScriptsWrong)

/-- 'heptadlaw09.RelayPlays': WHATEVER THE INPUT: true; the input reads as it did. -/
def relayPlaysSpec : ChangeSpec := { name := "relayPlays", fn := fun _ => fun
  | [d1, d2, d3] => { results := [.lit (.bool true)], args := [d1, d2, d3] }
  | _ => none }
def relayPlaysRow : OpenClaim := { program := "ytdkmdpklojeepaa", sum := "45c288b2134814b93d1142d5e70c56ababdda79d3bbd8e4fc20ef45b1542573a", func := "heptad/heptadlaw09.RelayPlays", spec := "relayPlays", unfollowed := true, recurses := true, apart := false }
def RelayPlaysSaid : Prop := relayPlaysRow.holds Try.pinned (OpenSpec.ofChange relayPlaysSpec)

/-- ITS FALSE NEIGHBOUR: 'it returns false'. Refute it at one input. -/
def relayPlaysWrong : ChangeSpec := { name := "relayPlays", fn := fun _ => fun
  | [d1, d2, d3] => { results := [.lit (.bool false)], args := [d1, d2, d3] }
  | _ => none }
def RelayPlaysWrongFalsely : Prop := relayPlaysRow.holds Try.pinned (OpenSpec.ofChange relayPlaysWrong)

/-- 'heptadlaw09.RelayNothing': WHATEVER THE INPUT: true; the input reads as it did. -/
def relayNothingSpec : ChangeSpec := { name := "relayNothing", fn := fun _ => fun
  | [d] => { results := [.lit (.bool true)], args := [d] }
  | _ => none }
def relayNothingRow : OpenClaim := { program := "ytdkmdpklojeepaa", sum := "45c288b2134814b93d1142d5e70c56ababdda79d3bbd8e4fc20ef45b1542573a", func := "heptad/heptadlaw09.RelayNothing", spec := "relayNothing", unfollowed := true, recurses := true, apart := false }
def RelayNothingSaid : Prop := relayNothingRow.holds Try.pinned (OpenSpec.ofChange relayNothingSpec)

/-- ITS FALSE NEIGHBOUR: 'it returns false'. Refute it at one input. -/
def relayNothingWrong : ChangeSpec := { name := "relayNothing", fn := fun _ => fun
  | [d] => { results := [.lit (.bool false)], args := [d] }
  | _ => none }
def RelayNothingWrongFalsely : Prop := relayNothingRow.holds Try.pinned (OpenSpec.ofChange relayNothingWrong)

/- THE SECOND FORM. 'bulk': how many values and letters a reading holds, each counted each time it is reached (what is shared counts as often as it is met; a slice's spare places count too). A statement '..UptoSaid' is the law's where the arguments, and the package variables that the reading takes, are together of bulk at most 1048576: NARROWER than '..Said'. Prove '..Said' where nothing that the law and all that it calls make is longer than what came in: it says more and counts as full. Else prove '..UptoSaid'. A law counts once. -/
mutual
def uptoBulk {H : Type} : DataW H → Nat
  | .lit (.string bytes) => bytes.length + 1
  | .lit _ => 1
  | .nil => 1
  | .ptr d => uptoBulk d + 1
  | .slice elems spare => uptoBulkAll elems + uptoBulkAll spare + 1
  | .agg parts => uptoBulkAll parts + 1
  | .iface _ d => uptoBulk d + 1
  | .map entries => uptoBulkEntries entries + 1
  | .held _ => 1
def uptoBulkAll {H : Type} : List (DataW H) → Nat
  | [] => 0
  | d :: r => uptoBulk d + uptoBulkAll r
def uptoBulkEntries {H : Type} : List (Lit × DataW H) → Nat
  | [] => 0
  | x :: r => uptoBulkEntry x + uptoBulkEntries r
def uptoBulkEntry {H : Type} : Lit × DataW H → Nat
  | (.string bytes, d) => bytes.length + uptoBulk d + 1
  | (_, d) => uptoBulk d + 1
 end
def uptoSmall : (H : Type) → List (DataW H) → Bool := fun _ ds => decide (uptoBulkAll ds ≤ 1048576)
def OpenSpec.upto (s : _root_.Go.ChangeSpec) : _root_.Go.OpenSpec := { _root_.Go.OpenSpec.ofChange s with cond := some uptoSmall }

/-- 'heptadlaw09.RelayCalm', WHERE WHAT IT READS IS OF BULK AT MOST 1048576: true; the input reads as it did. -/
def relayCalmUptoRow : OpenClaim := { program := "ytdkmdpklojeepaa", sum := "45c288b2134814b93d1142d5e70c56ababdda79d3bbd8e4fc20ef45b1542573a", func := "heptad/heptadlaw09.RelayCalm", spec := "relayCalm", unfollowed := true, recurses := true, apart := false, narrowed := true }
def RelayCalmUptoSaid : Prop := relayCalmUptoRow.holds Try.pinned (OpenSpec.upto relayCalmSpec)

/-- 'heptadlaw09.RelayOrder', WHERE WHAT IT READS IS OF BULK AT MOST 1048576: true; the input reads as it did. -/
def relayOrderUptoRow : OpenClaim := { program := "ytdkmdpklojeepaa", sum := "45c288b2134814b93d1142d5e70c56ababdda79d3bbd8e4fc20ef45b1542573a", func := "heptad/heptadlaw09.RelayOrder", spec := "relayOrder", unfollowed := true, recurses := true, apart := false, narrowed := true }
def RelayOrderUptoSaid : Prop := relayOrderUptoRow.holds Try.pinned (OpenSpec.upto relayOrderSpec)

/-- 'heptadlaw09.RelayScripts', WHERE WHAT IT READS IS OF BULK AT MOST 1048576: true; the input reads as it did. -/
def relayScriptsUptoRow : OpenClaim := { program := "ytdkmdpklojeepaa", sum := "45c288b2134814b93d1142d5e70c56ababdda79d3bbd8e4fc20ef45b1542573a", func := "heptad/heptadlaw09.RelayScripts", spec := "relayScripts", unfollowed := true, recurses := true, apart := false, narrowed := true }
def RelayScriptsUptoSaid : Prop := relayScriptsUptoRow.holds Try.pinned (OpenSpec.upto relayScriptsSpec)

/-- 'heptadlaw09.RelayPlays', WHERE WHAT IT READS IS OF BULK AT MOST 1048576: true; the input reads as it did. -/
def relayPlaysUptoRow : OpenClaim := { program := "ytdkmdpklojeepaa", sum := "45c288b2134814b93d1142d5e70c56ababdda79d3bbd8e4fc20ef45b1542573a", func := "heptad/heptadlaw09.RelayPlays", spec := "relayPlays", unfollowed := true, recurses := true, apart := false, narrowed := true }
def RelayPlaysUptoSaid : Prop := relayPlaysUptoRow.holds Try.pinned (OpenSpec.upto relayPlaysSpec)

/-- 'heptadlaw09.RelayNothing', WHERE WHAT IT READS IS OF BULK AT MOST 1048576: true; the input reads as it did. -/
def relayNothingUptoRow : OpenClaim := { program := "ytdkmdpklojeepaa", sum := "45c288b2134814b93d1142d5e70c56ababdda79d3bbd8e4fc20ef45b1542573a", func := "heptad/heptadlaw09.RelayNothing", spec := "relayNothing", unfollowed := true, recurses := true, apart := false, narrowed := true }
def RelayNothingUptoSaid : Prop := relayNothingUptoRow.holds Try.pinned (OpenSpec.upto relayNothingSpec)

end Rows
end Go.Proofs.Ytdkmdpklojeepaa
