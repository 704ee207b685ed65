/-
  DERIVED. GIVEN WITH THE SEED: THE CARDS: each row of YthhlfddpacmhfaaDoorRows.lean that lists a variable, with what it lists TIED to the program's text (the seventh form; the later family's looks); each row that meets fmt, with fmt's text TOLD by the authors' own Lean function (tested against real Go, not proved from fmt's source: count such statements apart). THE CARD IS WHAT COUNTS. Prove the row's statement (the work); the ties are given (YthhlfddpacmhfaaDoorTie.lean); close each card by the builder's one call (the guide's Derived/Test/ToyasCard.lean, 'card_holds'). Laid BY PROGRAM, IN A SANDBOX (cutbox-door.mjs). By AI agents, Wed Nov 11 2026. No macro, syntax, notation, axiom, sorry.
-/
import Derived.Test.YthhlfddpacmhfaaDoorRows
import GoSem.ClaimSeven
namespace Go.Proofs.YthhlfddpacmhfaaDoor
namespace Rows

/-- THE TIED CARD OF 'heptadlaw01.BitsGets'. -/
def bitsGetsCard : Claim7 := { stood := { row := bitsGetsRow, standIns := [], harness := (true, "2c493519a4fcf1c1daa358236aef8cb0442e75eaf91c8f3ecb82c0ded9a05606"), looks := false }, kinds := [], alts := [], laidByText := true, laidKinds := [.data, .pinned], laidTests := true, laidLooks := .later }
def BitsGetsCardSaid : Prop := Claim7.holds Tryd.pinned (.plain (OpenSpec.ofChange bitsGetsSpec)) bitsGetsCard

/-- THE TIED CARD OF 'heptadlaw01.BitsBack'. -/
def bitsBackCard : Claim7 := { stood := { row := bitsBackRow, standIns := [], harness := (true, "2c493519a4fcf1c1daa358236aef8cb0442e75eaf91c8f3ecb82c0ded9a05606"), looks := false }, kinds := [], alts := [], laidByText := true, laidKinds := [.data, .pinned], laidTests := true, laidLooks := .later }
def BitsBackCardSaid : Prop := Claim7.holds Tryd.pinned (.plain (OpenSpec.ofChange bitsBackSpec)) bitsBackCard

/-- THE TIED CARD OF 'heptadlaw01.BitsRows'. -/
def bitsRowsCard : Claim7 := { stood := { row := bitsRowsRow, standIns := [], harness := (true, "2c493519a4fcf1c1daa358236aef8cb0442e75eaf91c8f3ecb82c0ded9a05606"), looks := false }, kinds := [], alts := [], laidByText := true, laidKinds := [.data, .pinned], laidTests := true, laidLooks := .later }
def BitsRowsCardSaid : Prop := Claim7.holds Tryd.pinned (.plain (OpenSpec.ofChange bitsRowsSpec)) bitsRowsCard

/-- THE TIED CARD OF 'heptadlaw01.BitsFilled'. -/
def bitsFilledCard : Claim7 := { stood := { row := bitsFilledRow, standIns := [], harness := (true, "2c493519a4fcf1c1daa358236aef8cb0442e75eaf91c8f3ecb82c0ded9a05606"), looks := false }, kinds := [], alts := [], laidByText := true, laidKinds := [.data, .pinned], laidTests := true, laidLooks := .later }
def BitsFilledCardSaid : Prop := Claim7.holds Tryd.pinned (.plain (OpenSpec.ofChange bitsFilledSpec)) bitsFilledCard

/-- THE SECOND FORM's CARD OF 'heptadlaw01.BitsGets'. -/
def bitsGetsUptoCard : Claim7 := { stood := { row := bitsGetsUptoRow, standIns := [], harness := (true, "2c493519a4fcf1c1daa358236aef8cb0442e75eaf91c8f3ecb82c0ded9a05606"), looks := false }, kinds := [], alts := [], laidByText := true, laidKinds := [.data, .pinned], laidTests := true, laidLooks := .later }
def BitsGetsUptoCardSaid : Prop := Claim7.holds Tryd.pinned (.plain (OpenSpec.upto bitsGetsSpec)) bitsGetsUptoCard

/-- THE SECOND FORM's CARD OF 'heptadlaw01.BitsBack'. -/
def bitsBackUptoCard : Claim7 := { stood := { row := bitsBackUptoRow, standIns := [], harness := (true, "2c493519a4fcf1c1daa358236aef8cb0442e75eaf91c8f3ecb82c0ded9a05606"), looks := false }, kinds := [], alts := [], laidByText := true, laidKinds := [.data, .pinned], laidTests := true, laidLooks := .later }
def BitsBackUptoCardSaid : Prop := Claim7.holds Tryd.pinned (.plain (OpenSpec.upto bitsBackSpec)) bitsBackUptoCard

/-- THE SECOND FORM's CARD OF 'heptadlaw01.BitsRows'. -/
def bitsRowsUptoCard : Claim7 := { stood := { row := bitsRowsUptoRow, standIns := [], harness := (true, "2c493519a4fcf1c1daa358236aef8cb0442e75eaf91c8f3ecb82c0ded9a05606"), looks := false }, kinds := [], alts := [], laidByText := true, laidKinds := [.data, .pinned], laidTests := true, laidLooks := .later }
def BitsRowsUptoCardSaid : Prop := Claim7.holds Tryd.pinned (.plain (OpenSpec.upto bitsRowsSpec)) bitsRowsUptoCard

/-- THE SECOND FORM's CARD OF 'heptadlaw01.BitsFilled'. -/
def bitsFilledUptoCard : Claim7 := { stood := { row := bitsFilledUptoRow, standIns := [], harness := (true, "2c493519a4fcf1c1daa358236aef8cb0442e75eaf91c8f3ecb82c0ded9a05606"), looks := false }, kinds := [], alts := [], laidByText := true, laidKinds := [.data, .pinned], laidTests := true, laidLooks := .later }
def BitsFilledUptoCardSaid : Prop := Claim7.holds Tryd.pinned (.plain (OpenSpec.upto bitsFilledSpec)) bitsFilledUptoCard
end Rows
end Go.Proofs.YthhlfddpacmhfaaDoor
