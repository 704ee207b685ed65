/-
  No cell of these rows narrows 'for every input' (looked for: loops, veiled, ifaces, maps, wideKeys, modest, calm, conditions, laid).
  DERIVED. THE GIVEN ROWS OF THIS SEAT. 6 by the template 'for every input the law returns true; each argument reads behind the call as it read before'; 0 by the template 'total and deterministic' (their statements: YtlejgfeoffhjoaaTotals.lean).
  GIVEN WITH THE SEED: the statements are not yours to turn. If you find one false, say at which input.
  Laid BY PROGRAM, IN A SANDBOX (cutbox-rows.mjs): the forced cells as the released guide's own fill.sh prints them over the translation f0742e190a8b9ccb… (all of the seat's roots in one cut). By AI agents, Wed Nov 11 2026. No macro, syntax, notation, axiom, sorry.
-/
import Derived.Test.YtlejgfeoffhjoaaChecked
import GoSem.Claim
import GoSem.ClaimJoined
import GoSem.ClaimMapViews
import Derived.JoinedTies
import Derived.KernelRfl
namespace Go.Proofs.Ytlejgfeoffhjoaa
/- THE CELL 'sum', in the pinned program and in every row, IS THE sha256 OF THE DUMP (.gsa) THAT YtlejgfeoffhjoaaProg.lean LOADS. Nothing in Lean hashes anything: it is a label: what it is worth is what the hold of that sum in a sandbox is worth. -/
noncomputable def Try.pinned : Pinned := { name := "ytlejgfeoffhjoaa", sum := "f0742e190a8b9ccb06d6bb77744bc3db6578270b03cef2c715e27c277a255f00", checked := Try.checked }
namespace Rows
def none {H : Type} : Left H := { results := [], args := [] }

/-- 'heptadlaw34.ScreenApplies': WHATEVER THE INPUT: true; the input reads as it did. -/
def screenAppliesSpec : ChangeSpec := { name := "screenApplies", fn := fun _ => fun
  | [d1, d2] => { results := [.lit (.bool true)], args := [d1, d2] }
  | _ => none }
def screenAppliesRow : OpenClaim := { program := "ytlejgfeoffhjoaa", sum := "f0742e190a8b9ccb06d6bb77744bc3db6578270b03cef2c715e27c277a255f00", func := "heptad/heptadlaw34.ScreenApplies", spec := "screenApplies", inPlace := ["internal/abi.NoEscape", "internal/bytealg.MakeNoZero"], unfollowed := true, recurses := true, apart := false }
def ScreenAppliesSaid : Prop := screenAppliesRow.holds Try.pinned (OpenSpec.ofChange screenAppliesSpec)

/-- ITS FALSE NEIGHBOUR: 'it returns false'. Refute it at one input. -/
def screenAppliesWrong : ChangeSpec := { name := "screenApplies", fn := fun _ => fun
  | [d1, d2] => { results := [.lit (.bool false)], args := [d1, d2] }
  | _ => none }
def ScreenAppliesWrongFalsely : Prop := screenAppliesRow.holds Try.pinned (OpenSpec.ofChange screenAppliesWrong)

/-- 'heptadlaw34.ScreenCells': WHATEVER THE INPUT: true; the input reads as it did. -/
def screenCellsSpec : ChangeSpec := { name := "screenCells", fn := fun _ => fun
  | [d1, d2] => { results := [.lit (.bool true)], args := [d1, d2] }
  | _ => none }
def screenCellsRow : OpenClaim := { program := "ytlejgfeoffhjoaa", sum := "f0742e190a8b9ccb06d6bb77744bc3db6578270b03cef2c715e27c277a255f00", func := "heptad/heptadlaw34.ScreenCells", spec := "screenCells", inPlace := ["internal/abi.NoEscape", "internal/bytealg.MakeNoZero"], unfollowed := true, recurses := true, apart := false }
def ScreenCellsSaid : Prop := screenCellsRow.holds Try.pinned (OpenSpec.ofChange screenCellsSpec)

/-- ITS FALSE NEIGHBOUR: 'it returns false'. Refute it at one input. -/
def screenCellsWrong : ChangeSpec := { name := "screenCells", fn := fun _ => fun
  | [d1, d2] => { results := [.lit (.bool false)], args := [d1, d2] }
  | _ => none }
def ScreenCellsWrongFalsely : Prop := screenCellsRow.holds Try.pinned (OpenSpec.ofChange screenCellsWrong)

/-- 'heptadlaw34.ScreenDiffers': WHATEVER THE INPUT: true; the input reads as it did. -/
def screenDiffersSpec : ChangeSpec := { name := "screenDiffers", fn := fun _ => fun
  | [d1, d2] => { results := [.lit (.bool true)], args := [d1, d2] }
  | _ => none }
def screenDiffersRow : OpenClaim := { program := "ytlejgfeoffhjoaa", sum := "f0742e190a8b9ccb06d6bb77744bc3db6578270b03cef2c715e27c277a255f00", func := "heptad/heptadlaw34.ScreenDiffers", spec := "screenDiffers", inPlace := ["internal/abi.NoEscape", "internal/bytealg.MakeNoZero"], unfollowed := true, recurses := true, apart := false }
def ScreenDiffersSaid : Prop := screenDiffersRow.holds Try.pinned (OpenSpec.ofChange screenDiffersSpec)

/-- ITS FALSE NEIGHBOUR: 'it returns false'. Refute it at one input. -/
def screenDiffersWrong : ChangeSpec := { name := "screenDiffers", fn := fun _ => fun
  | [d1, d2] => { results := [.lit (.bool false)], args := [d1, d2] }
  | _ => none }
def ScreenDiffersWrongFalsely : Prop := screenDiffersRow.holds Try.pinned (OpenSpec.ofChange screenDiffersWrong)

/-- 'heptadlaw34.ScreenAgrees': WHATEVER THE INPUT: true; the input reads as it did. -/
def screenAgreesSpec : ChangeSpec := { name := "screenAgrees", fn := fun _ => fun
  | [d1, d2, d3] => { results := [.lit (.bool true)], args := [d1, d2, d3] }
  | _ => none }
def screenAgreesRow : OpenClaim := { program := "ytlejgfeoffhjoaa", sum := "f0742e190a8b9ccb06d6bb77744bc3db6578270b03cef2c715e27c277a255f00", func := "heptad/heptadlaw34.ScreenAgrees", spec := "screenAgrees", inPlace := ["internal/abi.NoEscape", "internal/bytealg.MakeNoZero"], unfollowed := true, recurses := true, apart := false }
def ScreenAgreesSaid : Prop := screenAgreesRow.holds Try.pinned (OpenSpec.ofChange screenAgreesSpec)

/-- ITS FALSE NEIGHBOUR: 'it returns false'. Refute it at one input. -/
def screenAgreesWrong : ChangeSpec := { name := "screenAgrees", fn := fun _ => fun
  | [d1, d2, d3] => { results := [.lit (.bool false)], args := [d1, d2, d3] }
  | _ => none }
def ScreenAgreesWrongFalsely : Prop := screenAgreesRow.holds Try.pinned (OpenSpec.ofChange screenAgreesWrong)

/-- 'heptadlaw34.ScreenNil': WHATEVER THE INPUT: true; the input reads as it did. -/
def screenNilSpec : ChangeSpec := { name := "screenNil", fn := fun _ => fun
  | [d1, d2] => { results := [.lit (.bool true)], args := [d1, d2] }
  | _ => none }
def screenNilRow : OpenClaim := { program := "ytlejgfeoffhjoaa", sum := "f0742e190a8b9ccb06d6bb77744bc3db6578270b03cef2c715e27c277a255f00", func := "heptad/heptadlaw34.ScreenNil", spec := "screenNil", inPlace := ["internal/abi.NoEscape", "internal/bytealg.MakeNoZero"], unfollowed := true, recurses := true, apart := false }
def ScreenNilSaid : Prop := screenNilRow.holds Try.pinned (OpenSpec.ofChange screenNilSpec)

/-- ITS FALSE NEIGHBOUR: 'it returns false'. Refute it at one input. -/
def screenNilWrong : ChangeSpec := { name := "screenNil", fn := fun _ => fun
  | [d1, d2] => { results := [.lit (.bool false)], args := [d1, d2] }
  | _ => none }
def ScreenNilWrongFalsely : Prop := screenNilRow.holds Try.pinned (OpenSpec.ofChange screenNilWrong)

/-- 'heptadlaw34.ScreenScripts': WHATEVER THE INPUT: true; the input reads as it did. -/
def screenScriptsSpec : ChangeSpec := { name := "screenScripts", fn := fun _ => fun
  | [d1, d2, d3] => { results := [.lit (.bool true)], args := [d1, d2, d3] }
  | _ => none }
def screenScriptsRow : OpenClaim := { program := "ytlejgfeoffhjoaa", sum := "f0742e190a8b9ccb06d6bb77744bc3db6578270b03cef2c715e27c277a255f00", func := "heptad/heptadlaw34.ScreenScripts", spec := "screenScripts", inPlace := ["internal/abi.NoEscape", "internal/bytealg.MakeNoZero"], unfollowed := true, recurses := true, apart := false }
def ScreenScriptsSaid : Prop := screenScriptsRow.holds Try.pinned (OpenSpec.ofChange screenScriptsSpec)

/-- ITS FALSE NEIGHBOUR: 'it returns false'. Refute it at one input. -/
def screenScriptsWrong : ChangeSpec := { name := "screenScripts", fn := fun _ => fun
  | [d1, d2, d3] => { results := [.lit (.bool false)], args := [d1, d2, d3] }
  | _ => none }
def ScreenScriptsWrongFalsely : Prop := screenScriptsRow.holds Try.pinned (OpenSpec.ofChange screenScriptsWrong)

/- THE SECOND FORM. 'bulk': how many values and letters a reading holds, each counted each time it is reached (what is shared counts as often as it is met; a slice's spare places count too). A statement '..UptoSaid' is the law's where the arguments, and the package variables that the reading takes, are together of bulk at most 1048576: NARROWER than '..Said'. Prove '..Said' where nothing that the law and all that it calls make is longer than what came in: it says more and counts as full. Else prove '..UptoSaid'. A law counts once. -/
mutual
def uptoBulk {H : Type} : DataW H → Nat
  | .lit (.string bytes) => bytes.length + 1
  | .lit _ => 1
  | .nil => 1
  | .ptr d => uptoBulk d + 1
  | .slice elems spare => uptoBulkAll elems + uptoBulkAll spare + 1
  | .agg parts => uptoBulkAll parts + 1
  | .iface _ d => uptoBulk d + 1
  | .map entries => uptoBulkEntries entries + 1
  | .held _ => 1
def uptoBulkAll {H : Type} : List (DataW H) → Nat
  | [] => 0
  | d :: r => uptoBulk d + uptoBulkAll r
def uptoBulkEntries {H : Type} : List (Lit × DataW H) → Nat
  | [] => 0
  | x :: r => uptoBulkEntry x + uptoBulkEntries r
def uptoBulkEntry {H : Type} : Lit × DataW H → Nat
  | (.string bytes, d) => bytes.length + uptoBulk d + 1
  | (_, d) => uptoBulk d + 1
 end
def uptoSmall : (H : Type) → List (DataW H) → Bool := fun _ ds => decide (uptoBulkAll ds ≤ 1048576)
def OpenSpec.upto (s : _root_.Go.ChangeSpec) : _root_.Go.OpenSpec := { _root_.Go.OpenSpec.ofChange s with cond := some uptoSmall }

/-- 'heptadlaw34.ScreenApplies', WHERE WHAT IT READS IS OF BULK AT MOST 1048576: true; the input reads as it did. -/
def screenAppliesUptoRow : OpenClaim := { program := "ytlejgfeoffhjoaa", sum := "f0742e190a8b9ccb06d6bb77744bc3db6578270b03cef2c715e27c277a255f00", func := "heptad/heptadlaw34.ScreenApplies", spec := "screenApplies", inPlace := ["internal/abi.NoEscape", "internal/bytealg.MakeNoZero"], unfollowed := true, recurses := true, apart := false, narrowed := true }
def ScreenAppliesUptoSaid : Prop := screenAppliesUptoRow.holds Try.pinned (OpenSpec.upto screenAppliesSpec)

/-- 'heptadlaw34.ScreenCells', WHERE WHAT IT READS IS OF BULK AT MOST 1048576: true; the input reads as it did. -/
def screenCellsUptoRow : OpenClaim := { program := "ytlejgfeoffhjoaa", sum := "f0742e190a8b9ccb06d6bb77744bc3db6578270b03cef2c715e27c277a255f00", func := "heptad/heptadlaw34.ScreenCells", spec := "screenCells", inPlace := ["internal/abi.NoEscape", "internal/bytealg.MakeNoZero"], unfollowed := true, recurses := true, apart := false, narrowed := true }
def ScreenCellsUptoSaid : Prop := screenCellsUptoRow.holds Try.pinned (OpenSpec.upto screenCellsSpec)

/-- 'heptadlaw34.ScreenDiffers', WHERE WHAT IT READS IS OF BULK AT MOST 1048576: true; the input reads as it did. -/
def screenDiffersUptoRow : OpenClaim := { program := "ytlejgfeoffhjoaa", sum := "f0742e190a8b9ccb06d6bb77744bc3db6578270b03cef2c715e27c277a255f00", func := "heptad/heptadlaw34.ScreenDiffers", spec := "screenDiffers", inPlace := ["internal/abi.NoEscape", "internal/bytealg.MakeNoZero"], unfollowed := true, recurses := true, apart := false, narrowed := true }
def ScreenDiffersUptoSaid : Prop := screenDiffersUptoRow.holds Try.pinned (OpenSpec.upto screenDiffersSpec)

/-- 'heptadlaw34.ScreenAgrees', WHERE WHAT IT READS IS OF BULK AT MOST 1048576: true; the input reads as it did. -/
def screenAgreesUptoRow : OpenClaim := { program := "ytlejgfeoffhjoaa", sum := "f0742e190a8b9ccb06d6bb77744bc3db6578270b03cef2c715e27c277a255f00", func := "heptad/heptadlaw34.ScreenAgrees", spec := "screenAgrees", inPlace := ["internal/abi.NoEscape", "internal/bytealg.MakeNoZero"], unfollowed := true, recurses := true, apart := false, narrowed := true }
def ScreenAgreesUptoSaid : Prop := screenAgreesUptoRow.holds Try.pinned (OpenSpec.upto screenAgreesSpec)

/-- 'heptadlaw34.ScreenNil', WHERE WHAT IT READS IS OF BULK AT MOST 1048576: true; the input reads as it did. -/
def screenNilUptoRow : OpenClaim := { program := "ytlejgfeoffhjoaa", sum := "f0742e190a8b9ccb06d6bb77744bc3db6578270b03cef2c715e27c277a255f00", func := "heptad/heptadlaw34.ScreenNil", spec := "screenNil", inPlace := ["internal/abi.NoEscape", "internal/bytealg.MakeNoZero"], unfollowed := true, recurses := true, apart := false, narrowed := true }
def ScreenNilUptoSaid : Prop := screenNilUptoRow.holds Try.pinned (OpenSpec.upto screenNilSpec)

/-- 'heptadlaw34.ScreenScripts', WHERE WHAT IT READS IS OF BULK AT MOST 1048576: true; the input reads as it did. -/
def screenScriptsUptoRow : OpenClaim := { program := "ytlejgfeoffhjoaa", sum := "f0742e190a8b9ccb06d6bb77744bc3db6578270b03cef2c715e27c277a255f00", func := "heptad/heptadlaw34.ScreenScripts", spec := "screenScripts", inPlace := ["internal/abi.NoEscape", "internal/bytealg.MakeNoZero"], unfollowed := true, recurses := true, apart := false, narrowed := true }
def ScreenScriptsUptoSaid : Prop := screenScriptsUptoRow.holds Try.pinned (OpenSpec.upto screenScriptsSpec)

end Rows
end Go.Proofs.Ytlejgfeoffhjoaa
