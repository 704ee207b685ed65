/- BitsBytes: the functions; the shelf's strings.Builder in this program. -/
import Derived.Shelf.Strings.Builder1
import Derived.Test.YthhlfddpacmhfaaFwLib
import Derived.Test.YthhlfddpacmhfaaFwBytes
import Derived.Test.YthhlfddpacmhfaaProg
namespace Go.Proofs.Ythhlfddpacmhfaa.D
open Go.Fw Go.RowKit Go.Shelf Go.Lib

noncomputable def E : Env := envWith Try.prog [6, 7, 8, 10, 11, 16, 18, 19, 20, 21, 22, 23, 24, 25, 28, 32, 33, 34]
theorem okE : EnvOk E Try.prog := envOf_ok (by kernel_rfl) _
def ren166 : Ren :=
{ f := fun x =>
    match x with
    | 166 => 30
    | 240 => 35
    | 276 => 36
    | n => n,
  t := fun x =>
    match x with
    | 37 => 39
    | 70 => 43
    | 72 => 45
    | 75 => 47
    | 80 => 50
    | 164 => 57
    | n => n,
  g := fun x => x }
theorem lays166 : Go.Proofs.Lays.n166 Try.prog ren166 :=
{ mixed := Eq.refl true,
  f166 := Eq.trans Try.func30 (congrArg some (Eq.refl (Go.Proofs.Body.n166 ren166))),
  f240 := Eq.trans Try.func35 (congrArg some (Eq.refl (Go.Proofs.Body.n240 ren166))),
  f276 := Eq.trans Try.func36 (congrArg some (Eq.refl (Go.Proofs.Body.n276 ren166))),
  t0 := Try.underlying0,
  a0 := Try.isAgg0,
  z0 := Try.sizeOf0,
  v0 := Try.zeroValue0,
  t3 := Try.underlying3,
  a3 := Try.isAgg3,
  z3 := Try.sizeOf3,
  v3 := Try.zeroValue3,
  t4 := Try.underlying4,
  a4 := Try.isAgg4,
  z4 := Try.sizeOf4,
  v4 := Try.zeroValue4,
  t9 := Try.underlying9,
  a9 := Try.isAgg9,
  z9 := Try.sizeOf9,
  v9 := Try.zeroValue9,
  t20 := Try.underlying20,
  a20 := Try.isAgg20,
  z20 := Try.sizeOf20,
  v20 := Try.zeroValue20,
  t37 := Try.underlying39,
  a37 := Try.isAgg39,
  z37 := Try.sizeOf39,
  v37 := Try.zeroValue39,
  t70 := Try.underlying43,
  a70 := Try.isAgg43,
  z70 := Try.sizeOf43,
  v70 := Try.zeroValue43,
  t72 := Try.underlying45,
  a72 := Try.isAgg45,
  z72 := Try.sizeOf45,
  v72 := Try.zeroValue45,
  t75 := Try.underlying47,
  a75 := Try.isAgg47,
  z75 := Try.sizeOf47,
  v75 := Try.zeroValue47,
  t164 := Try.underlying57,
  a164 := Try.isAgg57,
  z164 := Try.sizeOf57,
  v164 := Try.zeroValue57 }
def ren169 : Ren :=
{
  f := fun x =>
    match x with
    | 169 => 31
    | n => n,
  t := fun x =>
    match x with
    | 70 => 43
    | 9 => 9
    | 0 => 0
    | 72 => 45
    | 37 => 39
    | 127 => 56
    | 3 => 3
    | 5 => 5
    | n => n,
  g := fun x =>
    have n := x;
    n }
theorem lays169 : Go.Proofs.Lays.n169 Try.prog ren169 :=
{ mixed := Eq.refl true, f169 := Eq.trans Try.func31 (congrArg some (Eq.refl (Go.Proofs.Body.n169 ren169))),
  t0 := Try.underlying0, a0 := Try.isAgg0, z0 := Try.sizeOf0, v0 := Try.zeroValue0, t3 := Try.underlying3,
  a3 := Try.isAgg3, z3 := Try.sizeOf3, v3 := Try.zeroValue3, t9 := Try.underlying9, a9 := Try.isAgg9, z9 := Try.sizeOf9,
  v9 := Try.zeroValue9, t37 := Try.underlying39, a37 := Try.isAgg39, z37 := Try.sizeOf39, v37 := Try.zeroValue39,
  t70 := Try.underlying43, a70 := Try.isAgg43, z70 := Try.sizeOf43, v70 := Try.zeroValue43, t72 := Try.underlying45,
  a72 := Try.isAgg45, z72 := Try.sizeOf45, v72 := Try.zeroValue45, t127 := Try.underlying56, a127 := Try.isAgg56,
  z127 := Try.sizeOf56, v127 := Try.zeroValue56 }
theorem extra166 : Go.Proofs.Builder.Extra Try.prog ren166 where
  sizeBuilder := by kernel_rfl
  liesBuilder := by kernel_rfl
  t5 := Try.underlying5
  a5 := Try.isAgg5
  z5 := Try.sizeOf5
  v5 := Try.zeroValue5
  infoByte := by kernel_rfl
  cellsByte := by kernel_rfl
  sizeByte := by kernel_rfl
  neB5 := by decide
theorem extra169 : Go.Proofs.Builder.Extra Try.prog ren169 where
  sizeBuilder := by kernel_rfl
  liesBuilder := by kernel_rfl
  t5 := Try.underlying5
  a5 := Try.isAgg5
  z5 := Try.sizeOf5
  v5 := Try.zeroValue5
  infoByte := by kernel_rfl
  cellsByte := by kernel_rfl
  sizeByte := by kernel_rfl
  neB5 := by decide
end Go.Proofs.Ythhlfddpacmhfaa.D
