/-
  No cell of these rows narrows 'for every input' (looked for: loops, veiled, ifaces, maps, wideKeys, modest, calm, conditions, laid).
  DERIVED. THE GIVEN ROWS OF THIS SEAT. 9 by the template 'for every input the law returns true; each argument reads behind the call as it read before'; 0 by the template 'total and deterministic' (their statements: YtfjkanjmggbofaaTotals.lean).
  GIVEN WITH THE SEED: the statements are not yours to turn. If you find one false, say at which input.
  Laid BY PROGRAM, IN A SANDBOX (cutbox-rows.mjs): the forced cells as the released guide's own fill.sh prints them over the translation b54bdf9e1ffeedbb… (all of the seat's roots in one cut). By AI agents, Wed Nov 11 2026. No macro, syntax, notation, axiom, sorry.
-/
import Derived.Test.YtfjkanjmggbofaaChecked
import GoSem.Claim
import GoSem.ClaimJoined
import GoSem.ClaimMapViews
import Derived.JoinedTies
import Derived.KernelRfl
namespace Go.Proofs.Ytfjkanjmggbofaa
/- THE CELL 'sum', in the pinned program and in every row, IS THE sha256 OF THE DUMP (.gsa) THAT YtfjkanjmggbofaaProg.lean LOADS. Nothing in Lean hashes anything: it is a label: what it is worth is what the hold of that sum in a sandbox is worth. -/
noncomputable def Try.pinned : Pinned := { name := "ytfjkanjmggbofaa", sum := "b54bdf9e1ffeedbb6b3c1ffe9e664921456d28be0cd3cec046b947a67b9db467", checked := Try.checked }
namespace Rows
def none {H : Type} : Left H := { results := [], args := [] }

/-- 'heptadlaw12.VectorSettles': WHATEVER THE INPUT: true; the input reads as it did. -/
def vectorSettlesSpec : ChangeSpec := { name := "vectorSettles", fn := fun _ => fun
  | [d] => { results := [.lit (.bool true)], args := [d] }
  | _ => none }
def vectorSettlesRow : OpenClaim := { program := "ytfjkanjmggbofaa", sum := "b54bdf9e1ffeedbb6b3c1ffe9e664921456d28be0cd3cec046b947a67b9db467", func := "heptad/heptadlaw12.VectorSettles", spec := "vectorSettles", unfollowed := true, recurses := true, plainKeys := false, apart := false }
def VectorSettlesSaid : Prop := vectorSettlesRow.holds Try.pinned (OpenSpec.ofChange vectorSettlesSpec)

/-- ITS FALSE NEIGHBOUR: 'it returns false'. Refute it at one input. -/
def vectorSettlesWrong : ChangeSpec := { name := "vectorSettles", fn := fun _ => fun
  | [d] => { results := [.lit (.bool false)], args := [d] }
  | _ => none }
def VectorSettlesWrongFalsely : Prop := vectorSettlesRow.holds Try.pinned (OpenSpec.ofChange vectorSettlesWrong)

/-- 'heptadlaw12.VectorRounds': WHATEVER THE INPUT: true; the input reads as it did. -/
def vectorRoundsSpec : ChangeSpec := { name := "vectorRounds", fn := fun _ => fun
  | [d1, d2, d3] => { results := [.lit (.bool true)], args := [d1, d2, d3] }
  | _ => none }
def vectorRoundsRow : OpenClaim := { program := "ytfjkanjmggbofaa", sum := "b54bdf9e1ffeedbb6b3c1ffe9e664921456d28be0cd3cec046b947a67b9db467", func := "heptad/heptadlaw12.VectorRounds", spec := "vectorRounds", unfollowed := true, recurses := true, plainKeys := false, apart := false }
def VectorRoundsSaid : Prop := vectorRoundsRow.holds Try.pinned (OpenSpec.ofChange vectorRoundsSpec)

/-- ITS FALSE NEIGHBOUR: 'it returns false'. Refute it at one input. -/
def vectorRoundsWrong : ChangeSpec := { name := "vectorRounds", fn := fun _ => fun
  | [d1, d2, d3] => { results := [.lit (.bool false)], args := [d1, d2, d3] }
  | _ => none }
def VectorRoundsWrongFalsely : Prop := vectorRoundsRow.holds Try.pinned (OpenSpec.ofChange vectorRoundsWrong)

/-- 'heptadlaw12.VectorKeeps': WHATEVER THE INPUT: true; the input reads as it did. -/
def vectorKeepsSpec : ChangeSpec := { name := "vectorKeeps", fn := fun _ => fun
  | [d1, d2, d3] => { results := [.lit (.bool true)], args := [d1, d2, d3] }
  | _ => none }
def vectorKeepsRow : OpenClaim := { program := "ytfjkanjmggbofaa", sum := "b54bdf9e1ffeedbb6b3c1ffe9e664921456d28be0cd3cec046b947a67b9db467", func := "heptad/heptadlaw12.VectorKeeps", spec := "vectorKeeps", unfollowed := true, recurses := true, plainKeys := false, apart := false }
def VectorKeepsSaid : Prop := vectorKeepsRow.holds Try.pinned (OpenSpec.ofChange vectorKeepsSpec)

/-- ITS FALSE NEIGHBOUR: 'it returns false'. Refute it at one input. -/
def vectorKeepsWrong : ChangeSpec := { name := "vectorKeeps", fn := fun _ => fun
  | [d1, d2, d3] => { results := [.lit (.bool false)], args := [d1, d2, d3] }
  | _ => none }
def VectorKeepsWrongFalsely : Prop := vectorKeepsRow.holds Try.pinned (OpenSpec.ofChange vectorKeepsWrong)

/-- 'heptadlaw12.VectorStarts': WHATEVER THE INPUT: true; the input reads as it did. -/
def vectorStartsSpec : ChangeSpec := { name := "vectorStarts", fn := fun _ => fun
  | [d] => { results := [.lit (.bool true)], args := [d] }
  | _ => none }
def vectorStartsRow : OpenClaim := { program := "ytfjkanjmggbofaa", sum := "b54bdf9e1ffeedbb6b3c1ffe9e664921456d28be0cd3cec046b947a67b9db467", func := "heptad/heptadlaw12.VectorStarts", spec := "vectorStarts", unfollowed := true, recurses := true, plainKeys := false, apart := false }
def VectorStartsSaid : Prop := vectorStartsRow.holds Try.pinned (OpenSpec.ofChange vectorStartsSpec)

/-- ITS FALSE NEIGHBOUR: 'it returns false'. Refute it at one input. -/
def vectorStartsWrong : ChangeSpec := { name := "vectorStarts", fn := fun _ => fun
  | [d] => { results := [.lit (.bool false)], args := [d] }
  | _ => none }
def VectorStartsWrongFalsely : Prop := vectorStartsRow.holds Try.pinned (OpenSpec.ofChange vectorStartsWrong)

/-- 'heptadlaw12.VectorPaths': WHATEVER THE INPUT: true; the input reads as it did. -/
def vectorPathsSpec : ChangeSpec := { name := "vectorPaths", fn := fun _ => fun
  | [d] => { results := [.lit (.bool true)], args := [d] }
  | _ => none }
def vectorPathsRow : OpenClaim := { program := "ytfjkanjmggbofaa", sum := "b54bdf9e1ffeedbb6b3c1ffe9e664921456d28be0cd3cec046b947a67b9db467", func := "heptad/heptadlaw12.VectorPaths", spec := "vectorPaths", unfollowed := true, recurses := true, plainKeys := false, apart := false }
def VectorPathsSaid : Prop := vectorPathsRow.holds Try.pinned (OpenSpec.ofChange vectorPathsSpec)

/-- ITS FALSE NEIGHBOUR: 'it returns false'. Refute it at one input. -/
def vectorPathsWrong : ChangeSpec := { name := "vectorPaths", fn := fun _ => fun
  | [d] => { results := [.lit (.bool false)], args := [d] }
  | _ => none }
def VectorPathsWrongFalsely : Prop := vectorPathsRow.holds Try.pinned (OpenSpec.ofChange vectorPathsWrong)

/-- 'heptadlaw12.VectorLinks': WHATEVER THE INPUT: true; the input reads as it did. -/
def vectorLinksSpec : ChangeSpec := { name := "vectorLinks", fn := fun _ => fun
  | [d] => { results := [.lit (.bool true)], args := [d] }
  | _ => none }
def vectorLinksRow : OpenClaim := { program := "ytfjkanjmggbofaa", sum := "b54bdf9e1ffeedbb6b3c1ffe9e664921456d28be0cd3cec046b947a67b9db467", func := "heptad/heptadlaw12.VectorLinks", spec := "vectorLinks", unfollowed := true, recurses := true, plainKeys := false, apart := false }
def VectorLinksSaid : Prop := vectorLinksRow.holds Try.pinned (OpenSpec.ofChange vectorLinksSpec)

/-- ITS FALSE NEIGHBOUR: 'it returns false'. Refute it at one input. -/
def vectorLinksWrong : ChangeSpec := { name := "vectorLinks", fn := fun _ => fun
  | [d] => { results := [.lit (.bool false)], args := [d] }
  | _ => none }
def VectorLinksWrongFalsely : Prop := vectorLinksRow.holds Try.pinned (OpenSpec.ofChange vectorLinksWrong)

/-- 'heptadlaw12.VectorBest': WHATEVER THE INPUT: true; the input reads as it did. -/
def vectorBestSpec : ChangeSpec := { name := "vectorBest", fn := fun _ => fun
  | [d1, d2] => { results := [.lit (.bool true)], args := [d1, d2] }
  | _ => none }
def vectorBestRow : OpenClaim := { program := "ytfjkanjmggbofaa", sum := "b54bdf9e1ffeedbb6b3c1ffe9e664921456d28be0cd3cec046b947a67b9db467", func := "heptad/heptadlaw12.VectorBest", spec := "vectorBest", unfollowed := true, recurses := true, plainKeys := false, apart := false }
def VectorBestSaid : Prop := vectorBestRow.holds Try.pinned (OpenSpec.ofChange vectorBestSpec)

/-- ITS FALSE NEIGHBOUR: 'it returns false'. Refute it at one input. -/
def vectorBestWrong : ChangeSpec := { name := "vectorBest", fn := fun _ => fun
  | [d1, d2] => { results := [.lit (.bool false)], args := [d1, d2] }
  | _ => none }
def VectorBestWrongFalsely : Prop := vectorBestRow.holds Try.pinned (OpenSpec.ofChange vectorBestWrong)

/-- 'heptadlaw12.VectorHeals': WHATEVER THE INPUT: true; the input reads as it did. -/
def vectorHealsSpec : ChangeSpec := { name := "vectorHeals", fn := fun _ => fun
  | [d1, d2, d3] => { results := [.lit (.bool true)], args := [d1, d2, d3] }
  | _ => none }
def vectorHealsRow : OpenClaim := { program := "ytfjkanjmggbofaa", sum := "b54bdf9e1ffeedbb6b3c1ffe9e664921456d28be0cd3cec046b947a67b9db467", func := "heptad/heptadlaw12.VectorHeals", spec := "vectorHeals", unfollowed := true, recurses := true, plainKeys := false, apart := false }
def VectorHealsSaid : Prop := vectorHealsRow.holds Try.pinned (OpenSpec.ofChange vectorHealsSpec)

/-- ITS FALSE NEIGHBOUR: 'it returns false'. Refute it at one input. -/
def vectorHealsWrong : ChangeSpec := { name := "vectorHeals", fn := fun _ => fun
  | [d1, d2, d3] => { results := [.lit (.bool false)], args := [d1, d2, d3] }
  | _ => none }
def VectorHealsWrongFalsely : Prop := vectorHealsRow.holds Try.pinned (OpenSpec.ofChange vectorHealsWrong)

/-- 'heptadlaw12.VectorCuts': WHATEVER THE INPUT: true; the input reads as it did. -/
def vectorCutsSpec : ChangeSpec := { name := "vectorCuts", fn := fun _ => fun
  | [d1, d2, d3] => { results := [.lit (.bool true)], args := [d1, d2, d3] }
  | _ => none }
def vectorCutsRow : OpenClaim := { program := "ytfjkanjmggbofaa", sum := "b54bdf9e1ffeedbb6b3c1ffe9e664921456d28be0cd3cec046b947a67b9db467", func := "heptad/heptadlaw12.VectorCuts", spec := "vectorCuts", unfollowed := true, recurses := true, plainKeys := false, apart := false }
def VectorCutsSaid : Prop := vectorCutsRow.holds Try.pinned (OpenSpec.ofChange vectorCutsSpec)

/-- ITS FALSE NEIGHBOUR: 'it returns false'. Refute it at one input. -/
def vectorCutsWrong : ChangeSpec := { name := "vectorCuts", fn := fun _ => fun
  | [d1, d2, d3] => { results := [.lit (.bool false)], args := [d1, d2, d3] }
  | _ => none }
def VectorCutsWrongFalsely : Prop := vectorCutsRow.holds Try.pinned (OpenSpec.ofChange vectorCutsWrong)

/- THE SECOND FORM. 'bulk': how many values and letters a reading holds, each counted each time it is reached (what is shared counts as often as it is met; a slice's spare places count too). A statement '..UptoSaid' is the law's where the arguments, and the package variables that the reading takes, are together of bulk at most 1048576: NARROWER than '..Said'. Prove '..Said' where nothing that the law and all that it calls make is longer than what came in: it says more and counts as full. Else prove '..UptoSaid'. A law counts once. -/
mutual
def uptoBulk {H : Type} : DataW H → Nat
  | .lit (.string bytes) => bytes.length + 1
  | .lit _ => 1
  | .nil => 1
  | .ptr d => uptoBulk d + 1
  | .slice elems spare => uptoBulkAll elems + uptoBulkAll spare + 1
  | .agg parts => uptoBulkAll parts + 1
  | .iface _ d => uptoBulk d + 1
  | .map entries => uptoBulkEntries entries + 1
  | .held _ => 1
def uptoBulkAll {H : Type} : List (DataW H) → Nat
  | [] => 0
  | d :: r => uptoBulk d + uptoBulkAll r
def uptoBulkEntries {H : Type} : List (Lit × DataW H) → Nat
  | [] => 0
  | x :: r => uptoBulkEntry x + uptoBulkEntries r
def uptoBulkEntry {H : Type} : Lit × DataW H → Nat
  | (.string bytes, d) => bytes.length + uptoBulk d + 1
  | (_, d) => uptoBulk d + 1
 end
def uptoSmall : (H : Type) → List (DataW H) → Bool := fun _ ds => decide (uptoBulkAll ds ≤ 1048576)
def OpenSpec.upto (s : _root_.Go.ChangeSpec) : _root_.Go.OpenSpec := { _root_.Go.OpenSpec.ofChange s with cond := some uptoSmall }

/-- 'heptadlaw12.VectorSettles', WHERE WHAT IT READS IS OF BULK AT MOST 1048576: true; the input reads as it did. -/
def vectorSettlesUptoRow : OpenClaim := { program := "ytfjkanjmggbofaa", sum := "b54bdf9e1ffeedbb6b3c1ffe9e664921456d28be0cd3cec046b947a67b9db467", func := "heptad/heptadlaw12.VectorSettles", spec := "vectorSettles", unfollowed := true, recurses := true, plainKeys := false, apart := false, narrowed := true }
def VectorSettlesUptoSaid : Prop := vectorSettlesUptoRow.holds Try.pinned (OpenSpec.upto vectorSettlesSpec)

/-- 'heptadlaw12.VectorRounds', WHERE WHAT IT READS IS OF BULK AT MOST 1048576: true; the input reads as it did. -/
def vectorRoundsUptoRow : OpenClaim := { program := "ytfjkanjmggbofaa", sum := "b54bdf9e1ffeedbb6b3c1ffe9e664921456d28be0cd3cec046b947a67b9db467", func := "heptad/heptadlaw12.VectorRounds", spec := "vectorRounds", unfollowed := true, recurses := true, plainKeys := false, apart := false, narrowed := true }
def VectorRoundsUptoSaid : Prop := vectorRoundsUptoRow.holds Try.pinned (OpenSpec.upto vectorRoundsSpec)

/-- 'heptadlaw12.VectorKeeps', WHERE WHAT IT READS IS OF BULK AT MOST 1048576: true; the input reads as it did. -/
def vectorKeepsUptoRow : OpenClaim := { program := "ytfjkanjmggbofaa", sum := "b54bdf9e1ffeedbb6b3c1ffe9e664921456d28be0cd3cec046b947a67b9db467", func := "heptad/heptadlaw12.VectorKeeps", spec := "vectorKeeps", unfollowed := true, recurses := true, plainKeys := false, apart := false, narrowed := true }
def VectorKeepsUptoSaid : Prop := vectorKeepsUptoRow.holds Try.pinned (OpenSpec.upto vectorKeepsSpec)

/-- 'heptadlaw12.VectorStarts', WHERE WHAT IT READS IS OF BULK AT MOST 1048576: true; the input reads as it did. -/
def vectorStartsUptoRow : OpenClaim := { program := "ytfjkanjmggbofaa", sum := "b54bdf9e1ffeedbb6b3c1ffe9e664921456d28be0cd3cec046b947a67b9db467", func := "heptad/heptadlaw12.VectorStarts", spec := "vectorStarts", unfollowed := true, recurses := true, plainKeys := false, apart := false, narrowed := true }
def VectorStartsUptoSaid : Prop := vectorStartsUptoRow.holds Try.pinned (OpenSpec.upto vectorStartsSpec)

/-- 'heptadlaw12.VectorPaths', WHERE WHAT IT READS IS OF BULK AT MOST 1048576: true; the input reads as it did. -/
def vectorPathsUptoRow : OpenClaim := { program := "ytfjkanjmggbofaa", sum := "b54bdf9e1ffeedbb6b3c1ffe9e664921456d28be0cd3cec046b947a67b9db467", func := "heptad/heptadlaw12.VectorPaths", spec := "vectorPaths", unfollowed := true, recurses := true, plainKeys := false, apart := false, narrowed := true }
def VectorPathsUptoSaid : Prop := vectorPathsUptoRow.holds Try.pinned (OpenSpec.upto vectorPathsSpec)

/-- 'heptadlaw12.VectorLinks', WHERE WHAT IT READS IS OF BULK AT MOST 1048576: true; the input reads as it did. -/
def vectorLinksUptoRow : OpenClaim := { program := "ytfjkanjmggbofaa", sum := "b54bdf9e1ffeedbb6b3c1ffe9e664921456d28be0cd3cec046b947a67b9db467", func := "heptad/heptadlaw12.VectorLinks", spec := "vectorLinks", unfollowed := true, recurses := true, plainKeys := false, apart := false, narrowed := true }
def VectorLinksUptoSaid : Prop := vectorLinksUptoRow.holds Try.pinned (OpenSpec.upto vectorLinksSpec)

/-- 'heptadlaw12.VectorBest', WHERE WHAT IT READS IS OF BULK AT MOST 1048576: true; the input reads as it did. -/
def vectorBestUptoRow : OpenClaim := { program := "ytfjkanjmggbofaa", sum := "b54bdf9e1ffeedbb6b3c1ffe9e664921456d28be0cd3cec046b947a67b9db467", func := "heptad/heptadlaw12.VectorBest", spec := "vectorBest", unfollowed := true, recurses := true, plainKeys := false, apart := false, narrowed := true }
def VectorBestUptoSaid : Prop := vectorBestUptoRow.holds Try.pinned (OpenSpec.upto vectorBestSpec)

/-- 'heptadlaw12.VectorHeals', WHERE WHAT IT READS IS OF BULK AT MOST 1048576: true; the input reads as it did. -/
def vectorHealsUptoRow : OpenClaim := { program := "ytfjkanjmggbofaa", sum := "b54bdf9e1ffeedbb6b3c1ffe9e664921456d28be0cd3cec046b947a67b9db467", func := "heptad/heptadlaw12.VectorHeals", spec := "vectorHeals", unfollowed := true, recurses := true, plainKeys := false, apart := false, narrowed := true }
def VectorHealsUptoSaid : Prop := vectorHealsUptoRow.holds Try.pinned (OpenSpec.upto vectorHealsSpec)

/-- 'heptadlaw12.VectorCuts', WHERE WHAT IT READS IS OF BULK AT MOST 1048576: true; the input reads as it did. -/
def vectorCutsUptoRow : OpenClaim := { program := "ytfjkanjmggbofaa", sum := "b54bdf9e1ffeedbb6b3c1ffe9e664921456d28be0cd3cec046b947a67b9db467", func := "heptad/heptadlaw12.VectorCuts", spec := "vectorCuts", unfollowed := true, recurses := true, plainKeys := false, apart := false, narrowed := true }
def VectorCutsUptoSaid : Prop := vectorCutsUptoRow.holds Try.pinned (OpenSpec.upto vectorCutsSpec)

end Rows
end Go.Proofs.Ytfjkanjmggbofaa
