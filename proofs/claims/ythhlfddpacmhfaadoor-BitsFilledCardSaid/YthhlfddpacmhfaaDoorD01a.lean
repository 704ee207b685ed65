/- Bits: the functions; what the library's functions come to. -/
import Derived.Shelf.Strings.Repeat
import Derived.Shelf.Strings.SlTrimAscii
import Derived.Shelf.Strings.Count
import Derived.Test.YthhlfddpacmhfaaDoorFwLib
import Derived.Test.YthhlfddpacmhfaaDoorFwBytes
import Derived.Test.YthhlfddpacmhfaaDoorProg
namespace Go.Proofs.YthhlfddpacmhfaaDoor.D
open Go.Fw Go.RowKit Go.Shelf Go.Lib

noncomputable def E : Env := envWith Tryd.prog [3, 4, 5, 6, 7, 8, 9, 10, 11, 12, 13, 14, 15, 16, 17, 18, 19, 20, 21, 22, 23, 24, 25, 26, 27, 28, 29, 30, 31, 32, 33, 34, 35, 36, 46, 60]
theorem okE : EnvOk E Tryd.prog := envOf_ok (by kernel_rfl) _
def ren160 : Ren :=
{
  f := fun x =>
    match x with
    | 160 => 31
    | 232 => 40
    | 231 => 39
    | 227 => 41
    | 234 => 43
    | 233 => 42
    | 236 => 45
    | 235 => 44
    | 228 => 55
    | 271 => 58
    | 151 => 57
    | 197 => 56
    | 120 => 69
    | 152 => 68
    | 260 => 67
    | 137 => 75
    | 119 => 76
    | 224 => 73
    | 225 => 72
    | 217 => 71
    | 266 => 77
    | n => n,
  t := fun x =>
    match x with
    | 9 => 9
    | 4 => 4
    | 3 => 3
    | 5 => 5
    | 117 => 61
    | 116 => 60
    | 0 => 0
    | 124 => 64
    | 21 => 21
    | 105 => 74
    | 46 => 45
    | 119 => 88
    | 139 => 91
    | 138 => 90
    | n => n,
  g := fun x =>
    match x with
    | 3 => 1
    | 4 => 2
    | n => n }
theorem lays160 : Go.Proofs.Lays.n160 Tryd.prog ren160 :=
{ mixed := Eq.refl true, f119 := Eq.trans Tryd.func76 (congrArg some (Eq.refl (Go.Proofs.Body.n119 ren160))),
  f120 := Eq.trans Tryd.func69 (congrArg some (Eq.refl (Go.Proofs.Body.n120 ren160))),
  f137 := Eq.trans Tryd.func75 (congrArg some (Eq.refl (Go.Proofs.Body.n137 ren160))),
  f151 := Eq.trans Tryd.func57 (congrArg some (Eq.refl (Go.Proofs.Body.n151 ren160))),
  f152 := Eq.trans Tryd.func68 (congrArg some (Eq.refl (Go.Proofs.Body.n152 ren160))),
  f160 := Eq.trans Tryd.func31 (congrArg some (Eq.refl (Go.Proofs.Body.n160 ren160))),
  f197 := Eq.trans Tryd.func56 (congrArg some (Eq.refl (Go.Proofs.Body.n197 ren160))),
  f217 := Eq.trans Tryd.func71 (congrArg some (Eq.refl (Go.Proofs.Body.n217 ren160))),
  f224 := Eq.trans Tryd.func73 (congrArg some (Eq.refl (Go.Proofs.Body.n224 ren160))),
  f225 := Eq.trans Tryd.func72 (congrArg some (Eq.refl (Go.Proofs.Body.n225 ren160))),
  f227 := Eq.trans Tryd.func41 (congrArg some (Eq.refl (Go.Proofs.Body.n227 ren160))),
  f228 := Eq.trans Tryd.func55 (congrArg some (Eq.refl (Go.Proofs.Body.n228 ren160))),
  f231 := Eq.trans Tryd.func39 (congrArg some (Eq.refl (Go.Proofs.Body.n231 ren160))),
  f232 := Eq.trans Tryd.func40 (congrArg some (Eq.refl (Go.Proofs.Body.n232 ren160))),
  f233 := Eq.trans Tryd.func42 (congrArg some (Eq.refl (Go.Proofs.Body.n233 ren160))),
  f234 := Eq.trans Tryd.func43 (congrArg some (Eq.refl (Go.Proofs.Body.n234 ren160))),
  f235 := Eq.trans Tryd.func44 (congrArg some (Eq.refl (Go.Proofs.Body.n235 ren160))),
  f236 := Eq.trans Tryd.func45 (congrArg some (Eq.refl (Go.Proofs.Body.n236 ren160))),
  f260 := Eq.trans Tryd.func67 (congrArg some (Eq.refl (Go.Proofs.Body.n260 ren160))),
  f266 := Eq.trans Tryd.func77 (congrArg some (Eq.refl (Go.Proofs.Body.n266 ren160))),
  f271 := Eq.trans Tryd.func58 (congrArg some (Eq.refl (Go.Proofs.Body.n271 ren160))), t0 := Tryd.underlying0,
  a0 := Tryd.isAgg0, z0 := Tryd.sizeOf0, v0 := Tryd.zeroValue0, t3 := Tryd.underlying3, a3 := Tryd.isAgg3,
  z3 := Tryd.sizeOf3, v3 := Tryd.zeroValue3, t4 := Tryd.underlying4, a4 := Tryd.isAgg4, z4 := Tryd.sizeOf4,
  v4 := Tryd.zeroValue4, t5 := Tryd.underlying5, a5 := Tryd.isAgg5, z5 := Tryd.sizeOf5, v5 := Tryd.zeroValue5,
  t9 := Tryd.underlying9, a9 := Tryd.isAgg9, z9 := Tryd.sizeOf9, v9 := Tryd.zeroValue9, t21 := Tryd.underlying21,
  a21 := Tryd.isAgg21, z21 := Tryd.sizeOf21, v21 := Tryd.zeroValue21, t46 := Tryd.underlying45, a46 := Tryd.isAgg45,
  z46 := Tryd.sizeOf45, v46 := Tryd.zeroValue45, t105 := Tryd.underlying74, a105 := Tryd.isAgg74, z105 := Tryd.sizeOf74,
  v105 := Tryd.zeroValue74, t116 := Tryd.underlying60, a116 := Tryd.isAgg60, z116 := Tryd.sizeOf60,
  t117 := Tryd.underlying61, a117 := Tryd.isAgg61, z117 := Tryd.sizeOf61, v117 := Tryd.zeroValue61,
  t119 := Tryd.underlying88, a119 := Tryd.isAgg88, z119 := Tryd.sizeOf88, t124 := Tryd.underlying64,
  a124 := Tryd.isAgg64, z124 := Tryd.sizeOf64, v124 := Tryd.zeroValue64, t138 := Tryd.underlying90,
  a138 := Tryd.isAgg90, z138 := Tryd.sizeOf90, v138 := Tryd.zeroValue90, t139 := Tryd.underlying91,
  a139 := Tryd.isAgg91, z139 := Tryd.sizeOf91, v139 := Tryd.zeroValue91, g3 := (by kernel_rfl),
  g4 := (by kernel_rfl) }
def ren138 : Ren :=
{
  f := fun x =>
    match x with
    | 138 => 36
    | 195 => 51
    | 218 => 52
    | 143 => 53
    | 219 => 65
    | 217 => 71
    | 225 => 72
    | 224 => 73
    | 267 => 74
    | 266 => 77
    | 314 => 78
    | n => n,
  t := fun x =>
    match x with
    | 9 => 9
    | 3 => 3
    | 4 => 4
    | 5 => 5
    | 0 => 0
    | 46 => 45
    | 146 => 80
    | 51 => 78
    | n => n,
  g := fun x =>
    match x with
    | 1 => 0
    | n => n }
theorem lays138 : Go.Proofs.Lays.n138 Tryd.prog ren138 :=
{ mixed := Eq.refl true, f138 := Eq.trans Tryd.func36 (congrArg some (Eq.refl (Go.Proofs.Body.n138 ren138))),
  f143 := Eq.trans Tryd.func53 (congrArg some (Eq.refl (Go.Proofs.Body.n143 ren138))),
  f195 := Eq.trans Tryd.func51 (congrArg some (Eq.refl (Go.Proofs.Body.n195 ren138))),
  f217 := Eq.trans Tryd.func71 (congrArg some (Eq.refl (Go.Proofs.Body.n217 ren138))),
  f218 := Eq.trans Tryd.func52 (congrArg some (Eq.refl (Go.Proofs.Body.n218 ren138))),
  f219 := Eq.trans Tryd.func65 (congrArg some (Eq.refl (Go.Proofs.Body.n219 ren138))),
  f224 := Eq.trans Tryd.func73 (congrArg some (Eq.refl (Go.Proofs.Body.n224 ren138))),
  f225 := Eq.trans Tryd.func72 (congrArg some (Eq.refl (Go.Proofs.Body.n225 ren138))),
  f266 := Eq.trans Tryd.func77 (congrArg some (Eq.refl (Go.Proofs.Body.n266 ren138))),
  f267 := Eq.trans Tryd.func74 (congrArg some (Eq.refl (Go.Proofs.Body.n267 ren138))),
  f314 := Eq.trans Tryd.func78 (congrArg some (Eq.refl (Go.Proofs.Body.n314 ren138))), t0 := Tryd.underlying0,
  a0 := Tryd.isAgg0, z0 := Tryd.sizeOf0, v0 := Tryd.zeroValue0, t3 := Tryd.underlying3, a3 := Tryd.isAgg3,
  z3 := Tryd.sizeOf3, v3 := Tryd.zeroValue3, t4 := Tryd.underlying4, a4 := Tryd.isAgg4, z4 := Tryd.sizeOf4,
  v4 := Tryd.zeroValue4, t5 := Tryd.underlying5, a5 := Tryd.isAgg5, z5 := Tryd.sizeOf5, v5 := Tryd.zeroValue5,
  t9 := Tryd.underlying9, a9 := Tryd.isAgg9, z9 := Tryd.sizeOf9, v9 := Tryd.zeroValue9, t46 := Tryd.underlying45,
  a46 := Tryd.isAgg45, z46 := Tryd.sizeOf45, v46 := Tryd.zeroValue45, t51 := Tryd.underlying78, a51 := Tryd.isAgg78,
  z51 := Tryd.sizeOf78, v51 := Tryd.zeroValue78, t146 := Tryd.underlying80, a146 := Tryd.isAgg80, z146 := Tryd.sizeOf80,
  v146 := Tryd.zeroValue80, g1 := (by kernel_rfl) }
def ren105 : Ren :=
{
  f := fun x =>
    match x with
    | 105 => 35
    | 212 => 47
    | 99 => 48
    | 165 => 49
    | 166 => 37
    | 170 => 50
    | 169 => 38
    | 263 => 61
    | 264 => 62
    | 206 => 63
    | 240 => 54
    | 241 => 64
    | 276 => 66
    | 277 => 70
    | n => n,
  t := fun x =>
    match x with
    | 9 => 9
    | 3 => 3
    | 4 => 4
    | 20 => 20
    | 0 => 0
    | 46 => 45
    | 109 => 66
    | 5 => 5
    | 72 => 52
    | 76 => 55
    | 51 => 78
    | 146 => 80
    | 53 => 37
    | 148 => 82
    | 70 => 50
    | 37 => 44
    | 75 => 54
    | 127 => 72
    | 164 => 84
    | 80 => 57
    | n => n,
  g := fun x =>
    have n := x;
    n }
theorem lays105 : Go.Proofs.Lays.n105 Tryd.prog ren105 :=
{ mixed := Eq.refl true, f99 := Eq.trans Tryd.func48 (congrArg some (Eq.refl (Go.Proofs.Body.n99 ren105))),
  f105 := Eq.trans Tryd.func35 (congrArg some (Eq.refl (Go.Proofs.Body.n105 ren105))),
  f165 := Eq.trans Tryd.func49 (congrArg some (Eq.refl (Go.Proofs.Body.n165 ren105))),
  f166 := Eq.trans Tryd.func37 (congrArg some (Eq.refl (Go.Proofs.Body.n166 ren105))),
  f169 := Eq.trans Tryd.func38 (congrArg some (Eq.refl (Go.Proofs.Body.n169 ren105))),
  f170 := Eq.trans Tryd.func50 (congrArg some (Eq.refl (Go.Proofs.Body.n170 ren105))),
  f206 := Eq.trans Tryd.func63 (congrArg some (Eq.refl (Go.Proofs.Body.n206 ren105))),
  f212 := Eq.trans Tryd.func47 (congrArg some (Eq.refl (Go.Proofs.Body.n212 ren105))),
  f240 := Eq.trans Tryd.func54 (congrArg some (Eq.refl (Go.Proofs.Body.n240 ren105))),
  f241 := Eq.trans Tryd.func64 (congrArg some (Eq.refl (Go.Proofs.Body.n241 ren105))),
  f263 := Eq.trans Tryd.func61 (congrArg some (Eq.refl (Go.Proofs.Body.n263 ren105))),
  f264 := Eq.trans Tryd.func62 (congrArg some (Eq.refl (Go.Proofs.Body.n264 ren105))),
  f276 := Eq.trans Tryd.func66 (congrArg some (Eq.refl (Go.Proofs.Body.n276 ren105))),
  f277 := Eq.trans Tryd.func70 (congrArg some (Eq.refl (Go.Proofs.Body.n277 ren105))), t0 := Tryd.underlying0,
  a0 := Tryd.isAgg0, z0 := Tryd.sizeOf0, v0 := Tryd.zeroValue0, t3 := Tryd.underlying3, a3 := Tryd.isAgg3,
  z3 := Tryd.sizeOf3, v3 := Tryd.zeroValue3, t4 := Tryd.underlying4, a4 := Tryd.isAgg4, z4 := Tryd.sizeOf4,
  v4 := Tryd.zeroValue4, t5 := Tryd.underlying5, a5 := Tryd.isAgg5, z5 := Tryd.sizeOf5, v5 := Tryd.zeroValue5,
  t9 := Tryd.underlying9, a9 := Tryd.isAgg9, z9 := Tryd.sizeOf9, v9 := Tryd.zeroValue9, t20 := Tryd.underlying20,
  a20 := Tryd.isAgg20, z20 := Tryd.sizeOf20, v20 := Tryd.zeroValue20, t37 := Tryd.underlying44, a37 := Tryd.isAgg44,
  z37 := Tryd.sizeOf44, v37 := Tryd.zeroValue44, t46 := Tryd.underlying45, a46 := Tryd.isAgg45, z46 := Tryd.sizeOf45,
  v46 := Tryd.zeroValue45, t51 := Tryd.underlying78, a51 := Tryd.isAgg78, z51 := Tryd.sizeOf78, v51 := Tryd.zeroValue78,
  t53 := Tryd.underlying37, a53 := Tryd.isAgg37, z53 := Tryd.sizeOf37, v53 := Tryd.zeroValue37,
  t70 := Tryd.underlying50, a70 := Tryd.isAgg50, z70 := Tryd.sizeOf50, v70 := Tryd.zeroValue50,
  t72 := Tryd.underlying52, a72 := Tryd.isAgg52, z72 := Tryd.sizeOf52, v72 := Tryd.zeroValue52,
  t75 := Tryd.underlying54, a75 := Tryd.isAgg54, z75 := Tryd.sizeOf54, v75 := Tryd.zeroValue54,
  t76 := Tryd.underlying55, a76 := Tryd.isAgg55, z76 := Tryd.sizeOf55, v76 := Tryd.zeroValue55,
  t109 := Tryd.underlying66, a109 := Tryd.isAgg66, z109 := Tryd.sizeOf66, v109 := Tryd.zeroValue66,
  t127 := Tryd.underlying72, a127 := Tryd.isAgg72, z127 := Tryd.sizeOf72, v127 := Tryd.zeroValue72,
  t146 := Tryd.underlying80, a146 := Tryd.isAgg80, z146 := Tryd.sizeOf80, v146 := Tryd.zeroValue80,
  t148 := Tryd.underlying82, a148 := Tryd.isAgg82, z148 := Tryd.sizeOf82, v148 := Tryd.zeroValue82,
  t164 := Tryd.underlying84, a164 := Tryd.isAgg84, z164 := Tryd.sizeOf84, v164 := Tryd.zeroValue84 }


theorem f31 : E.funcs 31 = some Tryd.f31 := by kernel_rfl
theorem arr256 : (Tryd.prog.info? (ren160.t 116)).map (fun i => (i.zero, i.size)) = some (some (.agg (Array.replicate 256 (.bool false))), 256) := by kernel_rfl
def trimV (s : ByteArray) : ByteArray := ⟨(Go.Lib.trimS s.data.toList [48, 49]).toArray⟩
theorem trim31 (s : ByteArray) (hs : s.size ≤ 9223372036854775807) : Fun E 31 [.string s, .string ⟨#[48, 49]⟩] (.string (trimV s)) :=
  Fun.lib f31 rfl rfl rfl rfl fun w => Go.Proofs.Any.strings_Trim_laid lays160 arr256 s ⟨#[48, 49]⟩ w hs (by decide) (Go.Proofs.ascii_of_all (by decide))
def Bits (s : ByteArray) : Prop := ∀ i, i < s.size → byteAt s i = 48 ∨ byteAt s i = 49
theorem drop_all {α : Type} (p : α → Bool) : ∀ l : List α, l.dropWhile p = [] ↔ ∀ x ∈ l, p x = true
  | [] => by simp
  | a :: l => by
    rw [List.dropWhile_cons]
    split
    · rename_i h
      rw [drop_all p l]
      constructor
      · intro h2 x hx
        rcases List.mem_cons.1 hx with rfl | hx
        · exact h
        · exact h2 x hx
      · intro h2 x hx
        exact h2 x (List.mem_cons_of_mem _ hx)
    · rename_i h
      constructor
      · intro h2; cases h2
      · intro h2; exact absurd (h2 a (by simp)) h
theorem trimS_nil (l cs : List UInt8) : Go.Lib.trimS l cs = [] ↔ ∀ x ∈ l, cs.contains x = true := by
  unfold Go.Lib.trimS Go.Lib.trimLeftS Go.Lib.trimRightS
  rw [drop_all]
  constructor
  · intro h x hx
    by_cases hd : l.reverse.dropWhile (cs.contains ·) = []
    · rw [drop_all] at hd
      exact hd x (by simpa using hx)
    · exfalso
      have h1 := List.head_dropWhile_not (cs.contains ·) hd
      have h2 := h _ (List.mem_reverse.2 (List.head_mem hd))
      rw [h2] at h1
      cases h1
  · intro h x hx
    refine h x ?_
    have h1 := List.mem_reverse.1 hx
    exact List.mem_reverse.1 ((List.dropWhile_sublist _).subset h1)
theorem bits_iff (s : ByteArray) : trimV s = ByteArray.mk #[] ↔ Bits s := by
  have e : trimV s = ByteArray.mk #[] ↔ Go.Lib.trimS s.data.toList [48, 49] = [] := by
    unfold trimV
    constructor
    · intro h
      have := congrArg (fun b : ByteArray => b.data.toList) h
      simpa using this
    · intro h
      rw [h]
  rw [e, trimS_nil]
  constructor
  · intro h i hi
    have := h _ (List.mem_of_getElem? (byteAt_get s i hi))
    simpa using this
  · intro h x hx
    obtain ⟨i, hi, rfl⟩ := List.getElem_of_mem hx
    rw [Array.length_toList] at hi
    have e := byteAt_get s i hi
    rw [List.getElem?_eq_getElem (by rw [Array.length_toList]; exact hi)] at e
    rw [Option.some.inj e]
    simpa using h i hi
end Go.Proofs.YthhlfddpacmhfaaDoor.D
