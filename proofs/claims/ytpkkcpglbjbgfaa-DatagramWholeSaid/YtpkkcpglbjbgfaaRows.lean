/-
  No cell of these rows narrows 'for every input' (looked for: loops, veiled, ifaces, maps, wideKeys, modest, calm, conditions, laid).
  DERIVED. THE GIVEN ROWS OF THIS SEAT. 11 by the template 'for every input the law returns true; each argument reads behind the call as it read before'; 0 by the template 'total and deterministic' (their statements: YtpkkcpglbjbgfaaTotals.lean).
  GIVEN WITH THE SEED: the statements are not yours to turn. If you find one false, say at which input.
  Laid BY PROGRAM, IN A SANDBOX (cutbox-rows.mjs): the forced cells as the released guide's own fill.sh prints them over the translation 55855b2a92cc447c… (all of the seat's roots in one cut). By AI agents, Wed Nov 11 2026. No macro, syntax, notation, axiom, sorry.
-/
import Derived.Test.YtpkkcpglbjbgfaaChecked
import GoSem.Claim
import GoSem.ClaimJoined
import GoSem.ClaimMapViews
import Derived.JoinedTies
import Derived.KernelRfl
namespace Go.Proofs.Ytpkkcpglbjbgfaa
/- THE CELL 'sum', in the pinned program and in every row, IS THE sha256 OF THE DUMP (.gsa) THAT YtpkkcpglbjbgfaaProg.lean LOADS. Nothing in Lean hashes anything: it is a label: what it is worth is what the hold of that sum in a sandbox is worth. -/
noncomputable def Try.pinned : Pinned := { name := "ytpkkcpglbjbgfaa", sum := "55855b2a92cc447c51c850caa6189fadacdcf3352851265f98b5f8ef20f6cdb4", checked := Try.checked }
namespace Rows
def none {H : Type} : Left H := { results := [], args := [] }

/-- 'heptadlaw14.DatagramCuts': WHATEVER THE INPUT: true; the input reads as it did. -/
def datagramCutsSpec : ChangeSpec := { name := "datagramCuts", fn := fun _ => fun
  | [d1, d2] => { results := [.lit (.bool true)], args := [d1, d2] }
  | _ => none }
def datagramCutsRow : OpenClaim := { program := "ytpkkcpglbjbgfaa", sum := "55855b2a92cc447c51c850caa6189fadacdcf3352851265f98b5f8ef20f6cdb4", func := "heptad/heptadlaw14.DatagramCuts", spec := "datagramCuts", unfollowed := true, recurses := true, apart := false }
def DatagramCutsSaid : Prop := datagramCutsRow.holds Try.pinned (OpenSpec.ofChange datagramCutsSpec)

/-- ITS FALSE NEIGHBOUR: 'it returns false'. Refute it at one input. -/
def datagramCutsWrong : ChangeSpec := { name := "datagramCuts", fn := fun _ => fun
  | [d1, d2] => { results := [.lit (.bool false)], args := [d1, d2] }
  | _ => none }
def DatagramCutsWrongFalsely : Prop := datagramCutsRow.holds Try.pinned (OpenSpec.ofChange datagramCutsWrong)

/-- 'heptadlaw14.DatagramPieces': WHATEVER THE INPUT: true; the input reads as it did. -/
def datagramPiecesSpec : ChangeSpec := { name := "datagramPieces", fn := fun _ => fun
  | [d1, d2] => { results := [.lit (.bool true)], args := [d1, d2] }
  | _ => none }
def datagramPiecesRow : OpenClaim := { program := "ytpkkcpglbjbgfaa", sum := "55855b2a92cc447c51c850caa6189fadacdcf3352851265f98b5f8ef20f6cdb4", func := "heptad/heptadlaw14.DatagramPieces", spec := "datagramPieces", unfollowed := true, recurses := true, apart := false }
def DatagramPiecesSaid : Prop := datagramPiecesRow.holds Try.pinned (OpenSpec.ofChange datagramPiecesSpec)

/-- ITS FALSE NEIGHBOUR: 'it returns false'. Refute it at one input. -/
def datagramPiecesWrong : ChangeSpec := { name := "datagramPieces", fn := fun _ => fun
  | [d1, d2] => { results := [.lit (.bool false)], args := [d1, d2] }
  | _ => none }
def DatagramPiecesWrongFalsely : Prop := datagramPiecesRow.holds Try.pinned (OpenSpec.ofChange datagramPiecesWrong)

/-- 'heptadlaw14.DatagramWrites': WHATEVER THE INPUT: true; the input reads as it did. -/
def datagramWritesSpec : ChangeSpec := { name := "datagramWrites", fn := fun _ => fun
  | [d] => { results := [.lit (.bool true)], args := [d] }
  | _ => none }
def datagramWritesRow : OpenClaim := { program := "ytpkkcpglbjbgfaa", sum := "55855b2a92cc447c51c850caa6189fadacdcf3352851265f98b5f8ef20f6cdb4", func := "heptad/heptadlaw14.DatagramWrites", spec := "datagramWrites", unfollowed := true, recurses := true, apart := false }
def DatagramWritesSaid : Prop := datagramWritesRow.holds Try.pinned (OpenSpec.ofChange datagramWritesSpec)

/-- ITS FALSE NEIGHBOUR: 'it returns false'. Refute it at one input. -/
def datagramWritesWrong : ChangeSpec := { name := "datagramWrites", fn := fun _ => fun
  | [d] => { results := [.lit (.bool false)], args := [d] }
  | _ => none }
def DatagramWritesWrongFalsely : Prop := datagramWritesRow.holds Try.pinned (OpenSpec.ofChange datagramWritesWrong)

/-- 'heptadlaw14.DatagramReads': WHATEVER THE INPUT: true; the input reads as it did. -/
def datagramReadsSpec : ChangeSpec := { name := "datagramReads", fn := fun _ => fun
  | [d] => { results := [.lit (.bool true)], args := [d] }
  | _ => none }
def datagramReadsRow : OpenClaim := { program := "ytpkkcpglbjbgfaa", sum := "55855b2a92cc447c51c850caa6189fadacdcf3352851265f98b5f8ef20f6cdb4", func := "heptad/heptadlaw14.DatagramReads", spec := "datagramReads", unfollowed := true, recurses := true, apart := false }
def DatagramReadsSaid : Prop := datagramReadsRow.holds Try.pinned (OpenSpec.ofChange datagramReadsSpec)

/-- ITS FALSE NEIGHBOUR: 'it returns false'. Refute it at one input. -/
def datagramReadsWrong : ChangeSpec := { name := "datagramReads", fn := fun _ => fun
  | [d] => { results := [.lit (.bool false)], args := [d] }
  | _ => none }
def DatagramReadsWrongFalsely : Prop := datagramReadsRow.holds Try.pinned (OpenSpec.ofChange datagramReadsWrong)

/-- 'heptadlaw14.DatagramSpoilt': WHATEVER THE INPUT: true; the input reads as it did. -/
def datagramSpoiltSpec : ChangeSpec := { name := "datagramSpoilt", fn := fun _ => fun
  | [d1, d2] => { results := [.lit (.bool true)], args := [d1, d2] }
  | _ => none }
def datagramSpoiltRow : OpenClaim := { program := "ytpkkcpglbjbgfaa", sum := "55855b2a92cc447c51c850caa6189fadacdcf3352851265f98b5f8ef20f6cdb4", func := "heptad/heptadlaw14.DatagramSpoilt", spec := "datagramSpoilt", unfollowed := true, recurses := true, apart := false }
def DatagramSpoiltSaid : Prop := datagramSpoiltRow.holds Try.pinned (OpenSpec.ofChange datagramSpoiltSpec)

/-- ITS FALSE NEIGHBOUR: 'it returns false'. Refute it at one input. -/
def datagramSpoiltWrong : ChangeSpec := { name := "datagramSpoilt", fn := fun _ => fun
  | [d1, d2] => { results := [.lit (.bool false)], args := [d1, d2] }
  | _ => none }
def DatagramSpoiltWrongFalsely : Prop := datagramSpoiltRow.holds Try.pinned (OpenSpec.ofChange datagramSpoiltWrong)

/-- 'heptadlaw14.DatagramWhole': WHATEVER THE INPUT: true; the input reads as it did. -/
def datagramWholeSpec : ChangeSpec := { name := "datagramWhole", fn := fun _ => fun
  | [d] => { results := [.lit (.bool true)], args := [d] }
  | _ => none }
def datagramWholeRow : OpenClaim := { program := "ytpkkcpglbjbgfaa", sum := "55855b2a92cc447c51c850caa6189fadacdcf3352851265f98b5f8ef20f6cdb4", func := "heptad/heptadlaw14.DatagramWhole", spec := "datagramWhole", unfollowed := true, recurses := true, apart := false }
def DatagramWholeSaid : Prop := datagramWholeRow.holds Try.pinned (OpenSpec.ofChange datagramWholeSpec)

/-- ITS FALSE NEIGHBOUR: 'it returns false'. Refute it at one input. -/
def datagramWholeWrong : ChangeSpec := { name := "datagramWhole", fn := fun _ => fun
  | [d] => { results := [.lit (.bool false)], args := [d] }
  | _ => none }
def DatagramWholeWrongFalsely : Prop := datagramWholeRow.holds Try.pinned (OpenSpec.ofChange datagramWholeWrong)

/-- 'heptadlaw14.DatagramNil': WHATEVER THE INPUT: true; the input reads as it did. -/
def datagramNilSpec : ChangeSpec := { name := "datagramNil", fn := fun _ => fun
  | [d1, d2] => { results := [.lit (.bool true)], args := [d1, d2] }
  | _ => none }
def datagramNilRow : OpenClaim := { program := "ytpkkcpglbjbgfaa", sum := "55855b2a92cc447c51c850caa6189fadacdcf3352851265f98b5f8ef20f6cdb4", func := "heptad/heptadlaw14.DatagramNil", spec := "datagramNil", unfollowed := true, recurses := true, apart := false }
def DatagramNilSaid : Prop := datagramNilRow.holds Try.pinned (OpenSpec.ofChange datagramNilSpec)

/-- ITS FALSE NEIGHBOUR: 'it returns false'. Refute it at one input. -/
def datagramNilWrong : ChangeSpec := { name := "datagramNil", fn := fun _ => fun
  | [d1, d2] => { results := [.lit (.bool false)], args := [d1, d2] }
  | _ => none }
def DatagramNilWrongFalsely : Prop := datagramNilRow.holds Try.pinned (OpenSpec.ofChange datagramNilWrong)

/-- 'heptadlaw14.DatagramForwards': WHATEVER THE INPUT: true; the input reads as it did. -/
def datagramForwardsSpec : ChangeSpec := { name := "datagramForwards", fn := fun _ => fun
  | [d] => { results := [.lit (.bool true)], args := [d] }
  | _ => none }
def datagramForwardsRow : OpenClaim := { program := "ytpkkcpglbjbgfaa", sum := "55855b2a92cc447c51c850caa6189fadacdcf3352851265f98b5f8ef20f6cdb4", func := "heptad/heptadlaw14.DatagramForwards", spec := "datagramForwards", unfollowed := true, recurses := true, apart := false }
def DatagramForwardsSaid : Prop := datagramForwardsRow.holds Try.pinned (OpenSpec.ofChange datagramForwardsSpec)

/-- ITS FALSE NEIGHBOUR: 'it returns false'. Refute it at one input. -/
def datagramForwardsWrong : ChangeSpec := { name := "datagramForwards", fn := fun _ => fun
  | [d] => { results := [.lit (.bool false)], args := [d] }
  | _ => none }
def DatagramForwardsWrongFalsely : Prop := datagramForwardsRow.holds Try.pinned (OpenSpec.ofChange datagramForwardsWrong)

/-- 'heptadlaw14.DatagramStores': WHATEVER THE INPUT: true; the input reads as it did. -/
def datagramStoresSpec : ChangeSpec := { name := "datagramStores", fn := fun _ => fun
  | [d] => { results := [.lit (.bool true)], args := [d] }
  | _ => none }
def datagramStoresRow : OpenClaim := { program := "ytpkkcpglbjbgfaa", sum := "55855b2a92cc447c51c850caa6189fadacdcf3352851265f98b5f8ef20f6cdb4", func := "heptad/heptadlaw14.DatagramStores", spec := "datagramStores", unfollowed := true, recurses := true, apart := false }
def DatagramStoresSaid : Prop := datagramStoresRow.holds Try.pinned (OpenSpec.ofChange datagramStoresSpec)

/-- ITS FALSE NEIGHBOUR: 'it returns false'. Refute it at one input. -/
def datagramStoresWrong : ChangeSpec := { name := "datagramStores", fn := fun _ => fun
  | [d] => { results := [.lit (.bool false)], args := [d] }
  | _ => none }
def DatagramStoresWrongFalsely : Prop := datagramStoresRow.holds Try.pinned (OpenSpec.ofChange datagramStoresWrong)

/-- 'heptadlaw14.DatagramDies': WHATEVER THE INPUT: true; the input reads as it did. -/
def datagramDiesSpec : ChangeSpec := { name := "datagramDies", fn := fun _ => fun
  | [d1, d2] => { results := [.lit (.bool true)], args := [d1, d2] }
  | _ => none }
def datagramDiesRow : OpenClaim := { program := "ytpkkcpglbjbgfaa", sum := "55855b2a92cc447c51c850caa6189fadacdcf3352851265f98b5f8ef20f6cdb4", func := "heptad/heptadlaw14.DatagramDies", spec := "datagramDies", unfollowed := true, recurses := true, apart := false }
def DatagramDiesSaid : Prop := datagramDiesRow.holds Try.pinned (OpenSpec.ofChange datagramDiesSpec)

/-- ITS FALSE NEIGHBOUR: 'it returns false'. Refute it at one input. -/
def datagramDiesWrong : ChangeSpec := { name := "datagramDies", fn := fun _ => fun
  | [d1, d2] => { results := [.lit (.bool false)], args := [d1, d2] }
  | _ => none }
def DatagramDiesWrongFalsely : Prop := datagramDiesRow.holds Try.pinned (OpenSpec.ofChange datagramDiesWrong)

/-- 'heptadlaw14.DatagramReports': WHATEVER THE INPUT: true; the input reads as it did. -/
def datagramReportsSpec : ChangeSpec := { name := "datagramReports", fn := fun _ => fun
  | [d] => { results := [.lit (.bool true)], args := [d] }
  | _ => none }
def datagramReportsRow : OpenClaim := { program := "ytpkkcpglbjbgfaa", sum := "55855b2a92cc447c51c850caa6189fadacdcf3352851265f98b5f8ef20f6cdb4", func := "heptad/heptadlaw14.DatagramReports", spec := "datagramReports", unfollowed := true, recurses := true, apart := false }
def DatagramReportsSaid : Prop := datagramReportsRow.holds Try.pinned (OpenSpec.ofChange datagramReportsSpec)

/-- ITS FALSE NEIGHBOUR: 'it returns false'. Refute it at one input. -/
def datagramReportsWrong : ChangeSpec := { name := "datagramReports", fn := fun _ => fun
  | [d] => { results := [.lit (.bool false)], args := [d] }
  | _ => none }
def DatagramReportsWrongFalsely : Prop := datagramReportsRow.holds Try.pinned (OpenSpec.ofChange datagramReportsWrong)

/- THE SECOND FORM. 'bulk': how many values and letters a reading holds, each counted each time it is reached (what is shared counts as often as it is met; a slice's spare places count too). A statement '..UptoSaid' is the law's where the arguments, and the package variables that the reading takes, are together of bulk at most 1048576: NARROWER than '..Said'. Prove '..Said' where nothing that the law and all that it calls make is longer than what came in: it says more and counts as full. Else prove '..UptoSaid'. A law counts once. -/
mutual
def uptoBulk {H : Type} : DataW H → Nat
  | .lit (.string bytes) => bytes.length + 1
  | .lit _ => 1
  | .nil => 1
  | .ptr d => uptoBulk d + 1
  | .slice elems spare => uptoBulkAll elems + uptoBulkAll spare + 1
  | .agg parts => uptoBulkAll parts + 1
  | .iface _ d => uptoBulk d + 1
  | .map entries => uptoBulkEntries entries + 1
  | .held _ => 1
def uptoBulkAll {H : Type} : List (DataW H) → Nat
  | [] => 0
  | d :: r => uptoBulk d + uptoBulkAll r
def uptoBulkEntries {H : Type} : List (Lit × DataW H) → Nat
  | [] => 0
  | x :: r => uptoBulkEntry x + uptoBulkEntries r
def uptoBulkEntry {H : Type} : Lit × DataW H → Nat
  | (.string bytes, d) => bytes.length + uptoBulk d + 1
  | (_, d) => uptoBulk d + 1
 end
def uptoSmall : (H : Type) → List (DataW H) → Bool := fun _ ds => decide (uptoBulkAll ds ≤ 1048576)
def OpenSpec.upto (s : _root_.Go.ChangeSpec) : _root_.Go.OpenSpec := { _root_.Go.OpenSpec.ofChange s with cond := some uptoSmall }

/-- 'heptadlaw14.DatagramCuts', WHERE WHAT IT READS IS OF BULK AT MOST 1048576: true; the input reads as it did. -/
def datagramCutsUptoRow : OpenClaim := { program := "ytpkkcpglbjbgfaa", sum := "55855b2a92cc447c51c850caa6189fadacdcf3352851265f98b5f8ef20f6cdb4", func := "heptad/heptadlaw14.DatagramCuts", spec := "datagramCuts", unfollowed := true, recurses := true, apart := false, narrowed := true }
def DatagramCutsUptoSaid : Prop := datagramCutsUptoRow.holds Try.pinned (OpenSpec.upto datagramCutsSpec)

/-- 'heptadlaw14.DatagramPieces', WHERE WHAT IT READS IS OF BULK AT MOST 1048576: true; the input reads as it did. -/
def datagramPiecesUptoRow : OpenClaim := { program := "ytpkkcpglbjbgfaa", sum := "55855b2a92cc447c51c850caa6189fadacdcf3352851265f98b5f8ef20f6cdb4", func := "heptad/heptadlaw14.DatagramPieces", spec := "datagramPieces", unfollowed := true, recurses := true, apart := false, narrowed := true }
def DatagramPiecesUptoSaid : Prop := datagramPiecesUptoRow.holds Try.pinned (OpenSpec.upto datagramPiecesSpec)

/-- 'heptadlaw14.DatagramWrites', WHERE WHAT IT READS IS OF BULK AT MOST 1048576: true; the input reads as it did. -/
def datagramWritesUptoRow : OpenClaim := { program := "ytpkkcpglbjbgfaa", sum := "55855b2a92cc447c51c850caa6189fadacdcf3352851265f98b5f8ef20f6cdb4", func := "heptad/heptadlaw14.DatagramWrites", spec := "datagramWrites", unfollowed := true, recurses := true, apart := false, narrowed := true }
def DatagramWritesUptoSaid : Prop := datagramWritesUptoRow.holds Try.pinned (OpenSpec.upto datagramWritesSpec)

/-- 'heptadlaw14.DatagramReads', WHERE WHAT IT READS IS OF BULK AT MOST 1048576: true; the input reads as it did. -/
def datagramReadsUptoRow : OpenClaim := { program := "ytpkkcpglbjbgfaa", sum := "55855b2a92cc447c51c850caa6189fadacdcf3352851265f98b5f8ef20f6cdb4", func := "heptad/heptadlaw14.DatagramReads", spec := "datagramReads", unfollowed := true, recurses := true, apart := false, narrowed := true }
def DatagramReadsUptoSaid : Prop := datagramReadsUptoRow.holds Try.pinned (OpenSpec.upto datagramReadsSpec)

/-- 'heptadlaw14.DatagramSpoilt', WHERE WHAT IT READS IS OF BULK AT MOST 1048576: true; the input reads as it did. -/
def datagramSpoiltUptoRow : OpenClaim := { program := "ytpkkcpglbjbgfaa", sum := "55855b2a92cc447c51c850caa6189fadacdcf3352851265f98b5f8ef20f6cdb4", func := "heptad/heptadlaw14.DatagramSpoilt", spec := "datagramSpoilt", unfollowed := true, recurses := true, apart := false, narrowed := true }
def DatagramSpoiltUptoSaid : Prop := datagramSpoiltUptoRow.holds Try.pinned (OpenSpec.upto datagramSpoiltSpec)

/-- 'heptadlaw14.DatagramWhole', WHERE WHAT IT READS IS OF BULK AT MOST 1048576: true; the input reads as it did. -/
def datagramWholeUptoRow : OpenClaim := { program := "ytpkkcpglbjbgfaa", sum := "55855b2a92cc447c51c850caa6189fadacdcf3352851265f98b5f8ef20f6cdb4", func := "heptad/heptadlaw14.DatagramWhole", spec := "datagramWhole", unfollowed := true, recurses := true, apart := false, narrowed := true }
def DatagramWholeUptoSaid : Prop := datagramWholeUptoRow.holds Try.pinned (OpenSpec.upto datagramWholeSpec)

/-- 'heptadlaw14.DatagramNil', WHERE WHAT IT READS IS OF BULK AT MOST 1048576: true; the input reads as it did. -/
def datagramNilUptoRow : OpenClaim := { program := "ytpkkcpglbjbgfaa", sum := "55855b2a92cc447c51c850caa6189fadacdcf3352851265f98b5f8ef20f6cdb4", func := "heptad/heptadlaw14.DatagramNil", spec := "datagramNil", unfollowed := true, recurses := true, apart := false, narrowed := true }
def DatagramNilUptoSaid : Prop := datagramNilUptoRow.holds Try.pinned (OpenSpec.upto datagramNilSpec)

/-- 'heptadlaw14.DatagramForwards', WHERE WHAT IT READS IS OF BULK AT MOST 1048576: true; the input reads as it did. -/
def datagramForwardsUptoRow : OpenClaim := { program := "ytpkkcpglbjbgfaa", sum := "55855b2a92cc447c51c850caa6189fadacdcf3352851265f98b5f8ef20f6cdb4", func := "heptad/heptadlaw14.DatagramForwards", spec := "datagramForwards", unfollowed := true, recurses := true, apart := false, narrowed := true }
def DatagramForwardsUptoSaid : Prop := datagramForwardsUptoRow.holds Try.pinned (OpenSpec.upto datagramForwardsSpec)

/-- 'heptadlaw14.DatagramStores', WHERE WHAT IT READS IS OF BULK AT MOST 1048576: true; the input reads as it did. -/
def datagramStoresUptoRow : OpenClaim := { program := "ytpkkcpglbjbgfaa", sum := "55855b2a92cc447c51c850caa6189fadacdcf3352851265f98b5f8ef20f6cdb4", func := "heptad/heptadlaw14.DatagramStores", spec := "datagramStores", unfollowed := true, recurses := true, apart := false, narrowed := true }
def DatagramStoresUptoSaid : Prop := datagramStoresUptoRow.holds Try.pinned (OpenSpec.upto datagramStoresSpec)

/-- 'heptadlaw14.DatagramDies', WHERE WHAT IT READS IS OF BULK AT MOST 1048576: true; the input reads as it did. -/
def datagramDiesUptoRow : OpenClaim := { program := "ytpkkcpglbjbgfaa", sum := "55855b2a92cc447c51c850caa6189fadacdcf3352851265f98b5f8ef20f6cdb4", func := "heptad/heptadlaw14.DatagramDies", spec := "datagramDies", unfollowed := true, recurses := true, apart := false, narrowed := true }
def DatagramDiesUptoSaid : Prop := datagramDiesUptoRow.holds Try.pinned (OpenSpec.upto datagramDiesSpec)

/-- 'heptadlaw14.DatagramReports', WHERE WHAT IT READS IS OF BULK AT MOST 1048576: true; the input reads as it did. -/
def datagramReportsUptoRow : OpenClaim := { program := "ytpkkcpglbjbgfaa", sum := "55855b2a92cc447c51c850caa6189fadacdcf3352851265f98b5f8ef20f6cdb4", func := "heptad/heptadlaw14.DatagramReports", spec := "datagramReports", unfollowed := true, recurses := true, apart := false, narrowed := true }
def DatagramReportsUptoSaid : Prop := datagramReportsUptoRow.holds Try.pinned (OpenSpec.upto datagramReportsSpec)

end Rows
end Go.Proofs.Ytpkkcpglbjbgfaa
