/-
  No cell of these rows narrows 'for every input' (looked for: loops, veiled, ifaces, maps, wideKeys, modest, calm, conditions, laid).
  DERIVED. THE GIVEN ROWS OF THIS SEAT. 7 by the template 'for every input the law returns true; each argument reads behind the call as it read before'; 0 by the template 'total and deterministic' (their statements: YtgefohjickhldaaTotals.lean).
  GIVEN WITH THE SEED: the statements are not yours to turn. If you find one false, say at which input.
  Laid BY PROGRAM, IN A SANDBOX (cutbox-rows.mjs): the forced cells as the released guide's own fill.sh prints them over the translation 595d0160739e81e9… (all of the seat's roots in one cut). By AI agents, Wed Nov 11 2026. No macro, syntax, notation, axiom, sorry.
-/
import Derived.Test.YtgefohjickhldaaChecked
import GoSem.Claim
import GoSem.ClaimJoined
import GoSem.ClaimMapViews
import Derived.JoinedTies
import Derived.KernelRfl
namespace Go.Proofs.Ytgefohjickhldaa
/- THE CELL 'sum', in the pinned program and in every row, IS THE sha256 OF THE DUMP (.gsa) THAT YtgefohjickhldaaProg.lean LOADS. Nothing in Lean hashes anything: it is a label: what it is worth is what the hold of that sum in a sandbox is worth. -/
noncomputable def Try.pinned : Pinned := { name := "ytgefohjickhldaa", sum := "595d0160739e81e935897a82807601bd5efb17bfcd1d8939809f5a46481a813f", checked := Try.checked }
namespace Rows
def none {H : Type} : Left H := { results := [], args := [] }

/-- 'heptadlaw10.LinkFrames': WHATEVER THE INPUT: true; the input reads as it did. -/
def linkFramesSpec : ChangeSpec := { name := "linkFrames", fn := fun _ => fun
  | [d] => { results := [.lit (.bool true)], args := [d] }
  | _ => none }
def linkFramesRow : OpenClaim := { program := "ytgefohjickhldaa", sum := "595d0160739e81e935897a82807601bd5efb17bfcd1d8939809f5a46481a813f", func := "heptad/heptadlaw10.LinkFrames", spec := "linkFrames", apart := false }
def LinkFramesSaid : Prop := linkFramesRow.holds Try.pinned (OpenSpec.ofChange linkFramesSpec)

/-- ITS FALSE NEIGHBOUR: 'it returns false'. Refute it at one input. -/
def linkFramesWrong : ChangeSpec := { name := "linkFrames", fn := fun _ => fun
  | [d] => { results := [.lit (.bool false)], args := [d] }
  | _ => none }
def LinkFramesWrongFalsely : Prop := linkFramesRow.holds Try.pinned (OpenSpec.ofChange linkFramesWrong)

/-- 'heptadlaw10.LinkReads': WHATEVER THE INPUT: true; the input reads as it did. -/
def linkReadsSpec : ChangeSpec := { name := "linkReads", fn := fun _ => fun
  | [d] => { results := [.lit (.bool true)], args := [d] }
  | _ => none }
def linkReadsRow : OpenClaim := { program := "ytgefohjickhldaa", sum := "595d0160739e81e935897a82807601bd5efb17bfcd1d8939809f5a46481a813f", func := "heptad/heptadlaw10.LinkReads", spec := "linkReads", apart := false }
def LinkReadsSaid : Prop := linkReadsRow.holds Try.pinned (OpenSpec.ofChange linkReadsSpec)

/-- ITS FALSE NEIGHBOUR: 'it returns false'. Refute it at one input. -/
def linkReadsWrong : ChangeSpec := { name := "linkReads", fn := fun _ => fun
  | [d] => { results := [.lit (.bool false)], args := [d] }
  | _ => none }
def LinkReadsWrongFalsely : Prop := linkReadsRow.holds Try.pinned (OpenSpec.ofChange linkReadsWrong)

/-- 'heptadlaw10.LinkSpoilt': WHATEVER THE INPUT: true; the input reads as it did. -/
def linkSpoiltSpec : ChangeSpec := { name := "linkSpoilt", fn := fun _ => fun
  | [d1, d2] => { results := [.lit (.bool true)], args := [d1, d2] }
  | _ => none }
def linkSpoiltRow : OpenClaim := { program := "ytgefohjickhldaa", sum := "595d0160739e81e935897a82807601bd5efb17bfcd1d8939809f5a46481a813f", func := "heptad/heptadlaw10.LinkSpoilt", spec := "linkSpoilt", apart := false }
def LinkSpoiltSaid : Prop := linkSpoiltRow.holds Try.pinned (OpenSpec.ofChange linkSpoiltSpec)

/-- ITS FALSE NEIGHBOUR: 'it returns false'. Refute it at one input. -/
def linkSpoiltWrong : ChangeSpec := { name := "linkSpoilt", fn := fun _ => fun
  | [d1, d2] => { results := [.lit (.bool false)], args := [d1, d2] }
  | _ => none }
def LinkSpoiltWrongFalsely : Prop := linkSpoiltRow.holds Try.pinned (OpenSpec.ofChange linkSpoiltWrong)

/-- 'heptadlaw10.LinkOnce': WHATEVER THE INPUT: true; the input reads as it did. -/
def linkOnceSpec : ChangeSpec := { name := "linkOnce", fn := fun _ => fun
  | [d] => { results := [.lit (.bool true)], args := [d] }
  | _ => none }
def linkOnceRow : OpenClaim := { program := "ytgefohjickhldaa", sum := "595d0160739e81e935897a82807601bd5efb17bfcd1d8939809f5a46481a813f", func := "heptad/heptadlaw10.LinkOnce", spec := "linkOnce", recurses := true, apart := false }
def LinkOnceSaid : Prop := linkOnceRow.holds Try.pinned (OpenSpec.ofChange linkOnceSpec)

/-- ITS FALSE NEIGHBOUR: 'it returns false'. Refute it at one input. -/
def linkOnceWrong : ChangeSpec := { name := "linkOnce", fn := fun _ => fun
  | [d] => { results := [.lit (.bool false)], args := [d] }
  | _ => none }
def LinkOnceWrongFalsely : Prop := linkOnceRow.holds Try.pinned (OpenSpec.ofChange linkOnceWrong)

/-- 'heptadlaw10.LinkScripts': WHATEVER THE INPUT: true; the input reads as it did. -/
def linkScriptsSpec : ChangeSpec := { name := "linkScripts", fn := fun _ => fun
  | [d1, d2] => { results := [.lit (.bool true)], args := [d1, d2] }
  | _ => none }
def linkScriptsRow : OpenClaim := { program := "ytgefohjickhldaa", sum := "595d0160739e81e935897a82807601bd5efb17bfcd1d8939809f5a46481a813f", func := "heptad/heptadlaw10.LinkScripts", spec := "linkScripts", apart := false }
def LinkScriptsSaid : Prop := linkScriptsRow.holds Try.pinned (OpenSpec.ofChange linkScriptsSpec)

/-- ITS FALSE NEIGHBOUR: 'it returns false'. Refute it at one input. -/
def linkScriptsWrong : ChangeSpec := { name := "linkScripts", fn := fun _ => fun
  | [d1, d2] => { results := [.lit (.bool false)], args := [d1, d2] }
  | _ => none }
def LinkScriptsWrongFalsely : Prop := linkScriptsRow.holds Try.pinned (OpenSpec.ofChange linkScriptsWrong)

/-- 'heptadlaw10.LinkCopies': WHATEVER THE INPUT: true; the input reads as it did. -/
def linkCopiesSpec : ChangeSpec := { name := "linkCopies", fn := fun _ => fun
  | [d1, d2, d3] => { results := [.lit (.bool true)], args := [d1, d2, d3] }
  | _ => none }
def linkCopiesRow : OpenClaim := { program := "ytgefohjickhldaa", sum := "595d0160739e81e935897a82807601bd5efb17bfcd1d8939809f5a46481a813f", func := "heptad/heptadlaw10.LinkCopies", spec := "linkCopies", apart := false }
def LinkCopiesSaid : Prop := linkCopiesRow.holds Try.pinned (OpenSpec.ofChange linkCopiesSpec)

/-- ITS FALSE NEIGHBOUR: 'it returns false'. Refute it at one input. -/
def linkCopiesWrong : ChangeSpec := { name := "linkCopies", fn := fun _ => fun
  | [d1, d2, d3] => { results := [.lit (.bool false)], args := [d1, d2, d3] }
  | _ => none }
def LinkCopiesWrongFalsely : Prop := linkCopiesRow.holds Try.pinned (OpenSpec.ofChange linkCopiesWrong)

/-- 'heptadlaw10.LinkNil': WHATEVER THE INPUT: true; the input reads as it did. -/
def linkNilSpec : ChangeSpec := { name := "linkNil", fn := fun _ => fun
  | [d] => { results := [.lit (.bool true)], args := [d] }
  | _ => none }
def linkNilRow : OpenClaim := { program := "ytgefohjickhldaa", sum := "595d0160739e81e935897a82807601bd5efb17bfcd1d8939809f5a46481a813f", func := "heptad/heptadlaw10.LinkNil", spec := "linkNil", apart := false }
def LinkNilSaid : Prop := linkNilRow.holds Try.pinned (OpenSpec.ofChange linkNilSpec)

/-- ITS FALSE NEIGHBOUR: 'it returns false'. Refute it at one input. -/
def linkNilWrong : ChangeSpec := { name := "linkNil", fn := fun _ => fun
  | [d] => { results := [.lit (.bool false)], args := [d] }
  | _ => none }
def LinkNilWrongFalsely : Prop := linkNilRow.holds Try.pinned (OpenSpec.ofChange linkNilWrong)

/- THE SECOND FORM. 'bulk': how many values and letters a reading holds, each counted each time it is reached (what is shared counts as often as it is met; a slice's spare places count too). A statement '..UptoSaid' is the law's where the arguments, and the package variables that the reading takes, are together of bulk at most 1048576: NARROWER than '..Said'. Prove '..Said' where nothing that the law and all that it calls make is longer than what came in: it says more and counts as full. Else prove '..UptoSaid'. A law counts once. -/
mutual
def uptoBulk {H : Type} : DataW H → Nat
  | .lit (.string bytes) => bytes.length + 1
  | .lit _ => 1
  | .nil => 1
  | .ptr d => uptoBulk d + 1
  | .slice elems spare => uptoBulkAll elems + uptoBulkAll spare + 1
  | .agg parts => uptoBulkAll parts + 1
  | .iface _ d => uptoBulk d + 1
  | .map entries => uptoBulkEntries entries + 1
  | .held _ => 1
def uptoBulkAll {H : Type} : List (DataW H) → Nat
  | [] => 0
  | d :: r => uptoBulk d + uptoBulkAll r
def uptoBulkEntries {H : Type} : List (Lit × DataW H) → Nat
  | [] => 0
  | x :: r => uptoBulkEntry x + uptoBulkEntries r
def uptoBulkEntry {H : Type} : Lit × DataW H → Nat
  | (.string bytes, d) => bytes.length + uptoBulk d + 1
  | (_, d) => uptoBulk d + 1
 end
def uptoSmall : (H : Type) → List (DataW H) → Bool := fun _ ds => decide (uptoBulkAll ds ≤ 1048576)
def OpenSpec.upto (s : _root_.Go.ChangeSpec) : _root_.Go.OpenSpec := { _root_.Go.OpenSpec.ofChange s with cond := some uptoSmall }

/-- 'heptadlaw10.LinkFrames', WHERE WHAT IT READS IS OF BULK AT MOST 1048576: true; the input reads as it did. -/
def linkFramesUptoRow : OpenClaim := { program := "ytgefohjickhldaa", sum := "595d0160739e81e935897a82807601bd5efb17bfcd1d8939809f5a46481a813f", func := "heptad/heptadlaw10.LinkFrames", spec := "linkFrames", apart := false, narrowed := true }
def LinkFramesUptoSaid : Prop := linkFramesUptoRow.holds Try.pinned (OpenSpec.upto linkFramesSpec)

/-- 'heptadlaw10.LinkReads', WHERE WHAT IT READS IS OF BULK AT MOST 1048576: true; the input reads as it did. -/
def linkReadsUptoRow : OpenClaim := { program := "ytgefohjickhldaa", sum := "595d0160739e81e935897a82807601bd5efb17bfcd1d8939809f5a46481a813f", func := "heptad/heptadlaw10.LinkReads", spec := "linkReads", apart := false, narrowed := true }
def LinkReadsUptoSaid : Prop := linkReadsUptoRow.holds Try.pinned (OpenSpec.upto linkReadsSpec)

/-- 'heptadlaw10.LinkSpoilt', WHERE WHAT IT READS IS OF BULK AT MOST 1048576: true; the input reads as it did. -/
def linkSpoiltUptoRow : OpenClaim := { program := "ytgefohjickhldaa", sum := "595d0160739e81e935897a82807601bd5efb17bfcd1d8939809f5a46481a813f", func := "heptad/heptadlaw10.LinkSpoilt", spec := "linkSpoilt", apart := false, narrowed := true }
def LinkSpoiltUptoSaid : Prop := linkSpoiltUptoRow.holds Try.pinned (OpenSpec.upto linkSpoiltSpec)

/-- 'heptadlaw10.LinkOnce', WHERE WHAT IT READS IS OF BULK AT MOST 1048576: true; the input reads as it did. -/
def linkOnceUptoRow : OpenClaim := { program := "ytgefohjickhldaa", sum := "595d0160739e81e935897a82807601bd5efb17bfcd1d8939809f5a46481a813f", func := "heptad/heptadlaw10.LinkOnce", spec := "linkOnce", recurses := true, apart := false, narrowed := true }
def LinkOnceUptoSaid : Prop := linkOnceUptoRow.holds Try.pinned (OpenSpec.upto linkOnceSpec)

/-- 'heptadlaw10.LinkScripts', WHERE WHAT IT READS IS OF BULK AT MOST 1048576: true; the input reads as it did. -/
def linkScriptsUptoRow : OpenClaim := { program := "ytgefohjickhldaa", sum := "595d0160739e81e935897a82807601bd5efb17bfcd1d8939809f5a46481a813f", func := "heptad/heptadlaw10.LinkScripts", spec := "linkScripts", apart := false, narrowed := true }
def LinkScriptsUptoSaid : Prop := linkScriptsUptoRow.holds Try.pinned (OpenSpec.upto linkScriptsSpec)

/-- 'heptadlaw10.LinkCopies', WHERE WHAT IT READS IS OF BULK AT MOST 1048576: true; the input reads as it did. -/
def linkCopiesUptoRow : OpenClaim := { program := "ytgefohjickhldaa", sum := "595d0160739e81e935897a82807601bd5efb17bfcd1d8939809f5a46481a813f", func := "heptad/heptadlaw10.LinkCopies", spec := "linkCopies", apart := false, narrowed := true }
def LinkCopiesUptoSaid : Prop := linkCopiesUptoRow.holds Try.pinned (OpenSpec.upto linkCopiesSpec)

/-- 'heptadlaw10.LinkNil', WHERE WHAT IT READS IS OF BULK AT MOST 1048576: true; the input reads as it did. -/
def linkNilUptoRow : OpenClaim := { program := "ytgefohjickhldaa", sum := "595d0160739e81e935897a82807601bd5efb17bfcd1d8939809f5a46481a813f", func := "heptad/heptadlaw10.LinkNil", spec := "linkNil", apart := false, narrowed := true }
def LinkNilUptoSaid : Prop := linkNilUptoRow.holds Try.pinned (OpenSpec.upto linkNilSpec)

end Rows
end Go.Proofs.Ytgefohjickhldaa
