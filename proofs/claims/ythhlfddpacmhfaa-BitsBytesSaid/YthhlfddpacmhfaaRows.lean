/-
  No cell of these rows narrows 'for every input' (looked for: loops, veiled, ifaces, maps, wideKeys, modest, calm, conditions, laid).
  DERIVED. THE GIVEN ROWS OF THIS SEAT. 4 by the template 'for every input the law returns true; each argument reads behind the call as it read before'; 0 by the template 'total and deterministic' (their statements: YthhlfddpacmhfaaTotals.lean).
  GIVEN WITH THE SEED: the statements are not yours to turn. If you find one false, say at which input.
  Laid BY PROGRAM, IN A SANDBOX (cutbox-rows.mjs): the forced cells as the released guide's own fill.sh prints them over the translation e2bc38e1d97dcd40… (all of the seat's roots in one cut). By AI agents, Wed Nov 11 2026. No macro, syntax, notation, axiom, sorry.
-/
import Derived.Test.YthhlfddpacmhfaaChecked
import GoSem.Claim
import GoSem.ClaimJoined
import GoSem.ClaimMapViews
import Derived.JoinedTies
import Derived.KernelRfl
namespace Go.Proofs.Ythhlfddpacmhfaa
/- THE CELL 'sum', in the pinned program and in every row, IS THE sha256 OF THE DUMP (.gsa) THAT YthhlfddpacmhfaaProg.lean LOADS. Nothing in Lean hashes anything: it is a label: what it is worth is what the hold of that sum in a sandbox is worth. -/
noncomputable def Try.pinned : Pinned := { name := "ythhlfddpacmhfaa", sum := "e2bc38e1d97dcd400c33454d375945e929a3d01abae51729b930e5fc63419035", checked := Try.checked }
namespace Rows
def none {H : Type} : Left H := { results := [], args := [] }

/-- 'heptadlaw01.BitsNarrow': WHATEVER THE INPUT: true; the input reads as it did. -/
def bitsNarrowSpec : ChangeSpec := { name := "bitsNarrow", fn := fun _ => fun
  | [d] => { results := [.lit (.bool true)], args := [d] }
  | _ => none }
def bitsNarrowRow : OpenClaim := { program := "ythhlfddpacmhfaa", sum := "e2bc38e1d97dcd400c33454d375945e929a3d01abae51729b930e5fc63419035", func := "heptad/heptadlaw01.BitsNarrow", spec := "bitsNarrow", apart := false }
def BitsNarrowSaid : Prop := bitsNarrowRow.holds Try.pinned (OpenSpec.ofChange bitsNarrowSpec)

/-- ITS FALSE NEIGHBOUR: 'it returns false'. Refute it at one input. -/
def bitsNarrowWrong : ChangeSpec := { name := "bitsNarrow", fn := fun _ => fun
  | [d] => { results := [.lit (.bool false)], args := [d] }
  | _ => none }
def BitsNarrowWrongFalsely : Prop := bitsNarrowRow.holds Try.pinned (OpenSpec.ofChange bitsNarrowWrong)

/-- 'heptadlaw01.BitsSpoilt': WHATEVER THE INPUT: true; the input reads as it did. -/
def bitsSpoiltSpec : ChangeSpec := { name := "bitsSpoilt", fn := fun _ => fun
  | [d1, d2] => { results := [.lit (.bool true)], args := [d1, d2] }
  | _ => none }
def bitsSpoiltRow : OpenClaim := { program := "ythhlfddpacmhfaa", sum := "e2bc38e1d97dcd400c33454d375945e929a3d01abae51729b930e5fc63419035", func := "heptad/heptadlaw01.BitsSpoilt", spec := "bitsSpoilt", apart := false }
def BitsSpoiltSaid : Prop := bitsSpoiltRow.holds Try.pinned (OpenSpec.ofChange bitsSpoiltSpec)

/-- ITS FALSE NEIGHBOUR: 'it returns false'. Refute it at one input. -/
def bitsSpoiltWrong : ChangeSpec := { name := "bitsSpoilt", fn := fun _ => fun
  | [d1, d2] => { results := [.lit (.bool false)], args := [d1, d2] }
  | _ => none }
def BitsSpoiltWrongFalsely : Prop := bitsSpoiltRow.holds Try.pinned (OpenSpec.ofChange bitsSpoiltWrong)

/-- 'heptadlaw01.BitsPuts': WHATEVER THE INPUT: true; the input reads as it did. -/
def bitsPutsSpec : ChangeSpec := { name := "bitsPuts", fn := fun _ => fun
  | [d1, d2] => { results := [.lit (.bool true)], args := [d1, d2] }
  | _ => none }
def bitsPutsRow : OpenClaim := { program := "ythhlfddpacmhfaa", sum := "e2bc38e1d97dcd400c33454d375945e929a3d01abae51729b930e5fc63419035", func := "heptad/heptadlaw01.BitsPuts", spec := "bitsPuts", apart := false }
def BitsPutsSaid : Prop := bitsPutsRow.holds Try.pinned (OpenSpec.ofChange bitsPutsSpec)

/-- ITS FALSE NEIGHBOUR: 'it returns false'. Refute it at one input. -/
def bitsPutsWrong : ChangeSpec := { name := "bitsPuts", fn := fun _ => fun
  | [d1, d2] => { results := [.lit (.bool false)], args := [d1, d2] }
  | _ => none }
def BitsPutsWrongFalsely : Prop := bitsPutsRow.holds Try.pinned (OpenSpec.ofChange bitsPutsWrong)

/-- 'heptadlaw01.BitsBytes': WHATEVER THE INPUT: true; the input reads as it did. -/
def bitsBytesSpec : ChangeSpec := { name := "bitsBytes", fn := fun _ => fun
  | [d1, d2] => { results := [.lit (.bool true)], args := [d1, d2] }
  | _ => none }
def bitsBytesRow : OpenClaim := { program := "ythhlfddpacmhfaa", sum := "e2bc38e1d97dcd400c33454d375945e929a3d01abae51729b930e5fc63419035", func := "heptad/heptadlaw01.BitsBytes", spec := "bitsBytes", inPlace := ["internal/abi.NoEscape"], apart := false }
def BitsBytesSaid : Prop := bitsBytesRow.holds Try.pinned (OpenSpec.ofChange bitsBytesSpec)

/-- ITS FALSE NEIGHBOUR: 'it returns false'. Refute it at one input. -/
def bitsBytesWrong : ChangeSpec := { name := "bitsBytes", fn := fun _ => fun
  | [d1, d2] => { results := [.lit (.bool false)], args := [d1, d2] }
  | _ => none }
def BitsBytesWrongFalsely : Prop := bitsBytesRow.holds Try.pinned (OpenSpec.ofChange bitsBytesWrong)

/- THE SECOND FORM. 'bulk': how many values and letters a reading holds, each counted each time it is reached (what is shared counts as often as it is met; a slice's spare places count too). A statement '..UptoSaid' is the law's where the arguments, and the package variables that the reading takes, are together of bulk at most 1048576: NARROWER than '..Said'. Prove '..Said' where nothing that the law and all that it calls make is longer than what came in: it says more and counts as full. Else prove '..UptoSaid'. A law counts once. -/
mutual
def uptoBulk {H : Type} : DataW H → Nat
  | .lit (.string bytes) => bytes.length + 1
  | .lit _ => 1
  | .nil => 1
  | .ptr d => uptoBulk d + 1
  | .slice elems spare => uptoBulkAll elems + uptoBulkAll spare + 1
  | .agg parts => uptoBulkAll parts + 1
  | .iface _ d => uptoBulk d + 1
  | .map entries => uptoBulkEntries entries + 1
  | .held _ => 1
def uptoBulkAll {H : Type} : List (DataW H) → Nat
  | [] => 0
  | d :: r => uptoBulk d + uptoBulkAll r
def uptoBulkEntries {H : Type} : List (Lit × DataW H) → Nat
  | [] => 0
  | x :: r => uptoBulkEntry x + uptoBulkEntries r
def uptoBulkEntry {H : Type} : Lit × DataW H → Nat
  | (.string bytes, d) => bytes.length + uptoBulk d + 1
  | (_, d) => uptoBulk d + 1
 end
def uptoSmall : (H : Type) → List (DataW H) → Bool := fun _ ds => decide (uptoBulkAll ds ≤ 1048576)
def OpenSpec.upto (s : _root_.Go.ChangeSpec) : _root_.Go.OpenSpec := { _root_.Go.OpenSpec.ofChange s with cond := some uptoSmall }

/-- 'heptadlaw01.BitsNarrow', WHERE WHAT IT READS IS OF BULK AT MOST 1048576: true; the input reads as it did. -/
def bitsNarrowUptoRow : OpenClaim := { program := "ythhlfddpacmhfaa", sum := "e2bc38e1d97dcd400c33454d375945e929a3d01abae51729b930e5fc63419035", func := "heptad/heptadlaw01.BitsNarrow", spec := "bitsNarrow", apart := false, narrowed := true }
def BitsNarrowUptoSaid : Prop := bitsNarrowUptoRow.holds Try.pinned (OpenSpec.upto bitsNarrowSpec)

/-- 'heptadlaw01.BitsSpoilt', WHERE WHAT IT READS IS OF BULK AT MOST 1048576: true; the input reads as it did. -/
def bitsSpoiltUptoRow : OpenClaim := { program := "ythhlfddpacmhfaa", sum := "e2bc38e1d97dcd400c33454d375945e929a3d01abae51729b930e5fc63419035", func := "heptad/heptadlaw01.BitsSpoilt", spec := "bitsSpoilt", apart := false, narrowed := true }
def BitsSpoiltUptoSaid : Prop := bitsSpoiltUptoRow.holds Try.pinned (OpenSpec.upto bitsSpoiltSpec)

/-- 'heptadlaw01.BitsPuts', WHERE WHAT IT READS IS OF BULK AT MOST 1048576: true; the input reads as it did. -/
def bitsPutsUptoRow : OpenClaim := { program := "ythhlfddpacmhfaa", sum := "e2bc38e1d97dcd400c33454d375945e929a3d01abae51729b930e5fc63419035", func := "heptad/heptadlaw01.BitsPuts", spec := "bitsPuts", apart := false, narrowed := true }
def BitsPutsUptoSaid : Prop := bitsPutsUptoRow.holds Try.pinned (OpenSpec.upto bitsPutsSpec)

/-- 'heptadlaw01.BitsBytes', WHERE WHAT IT READS IS OF BULK AT MOST 1048576: true; the input reads as it did. -/
def bitsBytesUptoRow : OpenClaim := { program := "ythhlfddpacmhfaa", sum := "e2bc38e1d97dcd400c33454d375945e929a3d01abae51729b930e5fc63419035", func := "heptad/heptadlaw01.BitsBytes", spec := "bitsBytes", inPlace := ["internal/abi.NoEscape"], apart := false, narrowed := true }
def BitsBytesUptoSaid : Prop := bitsBytesUptoRow.holds Try.pinned (OpenSpec.upto bitsBytesSpec)

end Rows
end Go.Proofs.Ythhlfddpacmhfaa
