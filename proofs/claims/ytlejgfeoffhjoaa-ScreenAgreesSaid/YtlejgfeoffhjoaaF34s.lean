/- strings.Repeat, by the contract of the kit's shelf: its table of numbers, told for this program. -/
import Derived.Test.YtlejgfeoffhjoaaFwLem
import Derived.Test.YtlejgfeoffhjoaaFwLib
import Derived.Test.YtlejgfeoffhjoaaProg
import Derived.Shelf.Strings.Repeat
namespace Go.Proofs.Ytlejgfeoffhjoaa.D
open Go.Fw Go.RowKit

noncomputable def E : Env := envWith Try.prog [3, 4, 5, 9, 10, 11, 12, 13, 14, 15, 16, 17, 18, 19, 21, 39, 40, 41, 42, 43, 45, 46, 47, 48, 71, 76]
theorem okE : EnvOk E Try.prog := envOf_ok (by kernel_rfl) _
open Go.Fw Go.RowKit

theorem f64 : E.funcs 64 = some Try.f64 := by kernel_rfl
theorem clone64 (a : ByteArray) : Lent E 64 [FS 9 1 0 #[.string a]] [] (.slice (some ⟨0, 0, none⟩) 1 1) [⟨9, true, [.string a]⟩] := by
  refine Lent.of f64 rfl (of_decide_eq_true (by kernel_rfl)) rfl rfl (Nat.zero_le _) rfl rfl rfl ?_
  refine Wp.seq (Wp.text ?_)
  refine kp 2 (.slice none 0 0) ?_
  refine WpOps.nil (thenK_at (Wp.seq (Wp.seq (Wp.text ?_))))
  refine kp 3 (.iface 9 (Value.iface 1 (Value.iface 0 (Value.agg #[Value.string a])))) ?_
  refine kp 4 (.bool false) ?_
  refine WpOps.nil (thenK_at (off' (Wp.skip (thenK_at (Wp.seq (Wp.text ?_))))))
  refine md 5 (.slice (some ⟨0, 0, none⟩) 0 0) (Blk.mk 9 true []) ?_
  refine kp 6 (.iface 9 (Value.iface 1 (Value.iface 0 (Value.agg #[Value.string a])))) ?_
  refine ra 7 (.slice (some ⟨1, 0, none⟩) 1 1) (0) (Blk.mk 9 true [Value.string a]) ?_
  refine kp 2 (.slice (some ⟨1, 0, none⟩) 1 1) ?_
  refine WpOps.nil (thenK_at (Wp.ret ?_))
  refine endK_retn [Value.slice (some (Addr.mk 1 0 none)) 1 1] (Value.slice (some (Addr.mk 1 0 none)) 1 1) (by kernel_rfl) (by kernel_rfl) ?_
  exact ⟨[1], by decide, by kernel_rfl, ⟨⟨_, rfl, .cons (.inl ⟨rfl, rfl⟩) .nil⟩, trivial⟩, .w (.un rfl rfl)⟩
theorem f40 : E.funcs 40 = some Try.f40 := by kernel_rfl
theorem move40 (a b : ByteArray) (i j row col k : Int) (s : ByteArray) : Fun E 40 [.agg #[FS 9 1 0 #[.string a], FS 9 1 0 #[.string b], .int .i64 i, .int .i64 j], .agg #[.int .i64 0, .int .i64 row, .int .i64 col, .int .i64 k, .string s]] (.agg #[FS 9 1 0 #[.string a], FS 9 1 0 #[.string b], .int .i64 row, .int .i64 col]) := by
  refine Fun.of f40 rfl (of_decide_eq_true (by kernel_rfl)) rfl ?_
  have c1 := clone64 a
  have c2 := clone64 b
  refine Wp.seq (Wp.text ?_)
  refine md 2 (.pointer (some ⟨0, 0, none⟩)) (Blk.mk 24 true [Value.iface 9 (Value.iface 1 (Value.iface 0 (Value.agg #[Value.string a]))), Value.iface 9 (Value.iface 1 (Value.iface 0 (Value.agg #[Value.string b]))), Value.int .i64 i, Value.int .i64 j]) ?_
  refine md 3 (.pointer (some ⟨1, 0, none⟩)) (Blk.mk 26 true [Value.int .i64 0, Value.int .i64 row, Value.int .i64 col, Value.int .i64 k, Value.string s]) ?_
  refine md 4 (.pointer (some ⟨2, 0, none⟩)) (Blk.mk 24 true [Value.slice none 0 0, Value.slice none 0 0, Value.int .i64 0, Value.int .i64 0]) ?_
  refine WpOps.nil (thenK_at (Wp.seq ?_))
  refine Wp.region (by kernel_rfl) ?_
  refine kp 11 (.pointer (some ⟨0, 0, none⟩)) ?_
  refine kp 12 (.iface 9 (Value.iface 1 (Value.iface 0 (Value.agg #[Value.string a])))) ?_
  refine kp 13 (.int IntKind.i64 (↑1 : Int)) ?_
  refine kp 14 (.pointer (some ⟨0, 0, none⟩)) ?_
  refine kp 15 (.iface 9 (Value.iface 1 (Value.iface 0 (Value.agg #[Value.string a])))) ?_
  refine kp 16 (.iface 9 (Value.iface 0 (Value.agg #[Value.string a]))) ?_
  refine kp 17 (.string a) ?_
  refine kp 18 (.int IntKind.i64 (↑(ByteArray.size a) : Int)) ?_
  refine kp 5 (.int IntKind.i64 (↑1 : Int)) ?_
  refine kp 6 (.int IntKind.i64 (↑(ByteArray.size a) : Int)) ?_
  refine WpOps.nil (thenK_at (Wp.seq ?_))
  refine Wp.region (by kernel_rfl) ?_
  refine kp 19 (.pointer (some ⟨0, 0, none⟩)) ?_
  refine kp 20 (.iface 9 (Value.iface 1 (Value.iface 0 (Value.agg #[Value.string a])))) ?_
  refine clr 21 64 [Value.iface 9 (Value.iface 1 (Value.iface 0 (Value.agg #[Value.string a])))] ?_
  refine WpCall.lent [] (c1) (by decide) trivial (by kernel_rfl) (Value.slice (some (Addr.mk (List.getD [3] 0 0) 0 none)) 1 1) ([Blk.mk 9 true [Value.string a]]) (.cons (by kernel_rfl) .nil) (by kernel_rfl) (Heap.alloc (Heap.ro (Heap.alloc (Heap.alloc (Heap.alloc Heap.none (Blk.mk 24 true [Value.iface 9 (Value.iface 1 (Value.iface 0 (Value.agg #[Value.string a]))), Value.iface 9 (Value.iface 1 (Value.iface 0 (Value.agg #[Value.string b]))), Value.int IntKind.i64 i, Value.int IntKind.i64 j])) (Blk.mk 26 true [Value.int IntKind.i64 0, Value.int IntKind.i64 row, Value.int IntKind.i64 col, Value.int IntKind.i64 k, Value.string s])) (Blk.mk 24 true [Value.slice none 0 0, Value.slice none 0 0, Value.int IntKind.i64 0, Value.int IntKind.i64 0]))) (Blk.mk 9 true [Value.string a])) (by kernel_rfl) ?_
  refine kp 22 (.pointer (some ⟨0, 1, none⟩)) ?_
  refine kp 23 (.iface 9 (Value.iface 1 (Value.iface 0 (Value.agg #[Value.string b])))) ?_
  refine cl 24 64 [Value.iface 9 (Value.iface 1 (Value.iface 0 (Value.agg #[Value.string b])))] ?_
  refine WpCall.lent [] (c2) (by decide) trivial (by kernel_rfl) (Value.slice (some (Addr.mk (List.getD [4] 0 0) 0 none)) 1 1) ([Blk.mk 9 true [Value.string b]]) (.cons (by kernel_rfl) .nil) (by kernel_rfl) (Heap.alloc (Heap.merge (Heap.alloc (Heap.alloc (Heap.alloc Heap.none (Blk.mk 24 true [Value.iface 9 (Value.iface 1 (Value.iface 0 (Value.agg #[Value.string a]))), Value.iface 9 (Value.iface 1 (Value.iface 0 (Value.agg #[Value.string b]))), Value.int IntKind.i64 i, Value.int IntKind.i64 j])) (Blk.mk 26 true [Value.int IntKind.i64 0, Value.int IntKind.i64 row, Value.int IntKind.i64 col, Value.int IntKind.i64 k, Value.string s])) (Blk.mk 24 true [Value.slice none 0 0, Value.slice none 0 0, Value.int IntKind.i64 0, Value.int IntKind.i64 0])) (Heap.alloc (Heap.ro (Heap.alloc (Heap.alloc (Heap.alloc Heap.none (Blk.mk 24 true [Value.iface 9 (Value.iface 1 (Value.iface 0 (Value.agg #[Value.string a]))), Value.iface 9 (Value.iface 1 (Value.iface 0 (Value.agg #[Value.string b]))), Value.int IntKind.i64 i, Value.int IntKind.i64 j])) (Blk.mk 26 true [Value.int IntKind.i64 0, Value.int IntKind.i64 row, Value.int IntKind.i64 col, Value.int IntKind.i64 k, Value.string s])) (Blk.mk 24 true [Value.slice none 0 0, Value.slice none 0 0, Value.int IntKind.i64 0, Value.int IntKind.i64 0]))) (Blk.mk 9 true [Value.string a]))) (Blk.mk 9 true [Value.string b])) (by kernel_rfl) ?_
  refine kp 25 (.pointer (some ⟨0, 0, none⟩)) ?_
  refine ld (.tuple #[]) (0) (Blk.mk 24 true [Value.slice (some (Addr.mk (List.getD [3] 0 0) 0 none)) 1 1, Value.iface 9 (Value.iface 1 (Value.iface 0 (Value.agg #[Value.string b]))), Value.int .i64 i, Value.int .i64 j]) ?_
  refine kp 26 (.pointer (some ⟨0, 1, none⟩)) ?_
  refine cg0 (.tuple #[]) (Heap.set (Heap.set (Heap.alloc (Heap.merge (Heap.alloc (Heap.alloc (Heap.alloc Heap.none (Blk.mk 24 true [Value.iface 9 (Value.iface 1 (Value.iface 0 (Value.agg #[Value.string a]))), Value.iface 9 (Value.iface 1 (Value.iface 0 (Value.agg #[Value.string b]))), Value.int .i64 i, Value.int .i64 j])) (Blk.mk 26 true [Value.int .i64 0, Value.int .i64 row, Value.int .i64 col, Value.int .i64 k, Value.string s])) (Blk.mk 24 true [Value.slice none 0 0, Value.slice none 0 0, Value.int .i64 0, Value.int .i64 0])) (Heap.alloc (Heap.ro (Heap.alloc (Heap.alloc (Heap.alloc Heap.none (Blk.mk 24 true [Value.iface 9 (Value.iface 1 (Value.iface 0 (Value.agg #[Value.string a]))), Value.iface 9 (Value.iface 1 (Value.iface 0 (Value.agg #[Value.string b]))), Value.int .i64 i, Value.int .i64 j])) (Blk.mk 26 true [Value.int .i64 0, Value.int .i64 row, Value.int .i64 col, Value.int .i64 k, Value.string s])) (Blk.mk 24 true [Value.slice none 0 0, Value.slice none 0 0, Value.int .i64 0, Value.int .i64 0]))) (Blk.mk 9 true [Value.string a]))) (Blk.mk 9 true [Value.string b])) 0 (some (Blk.mk 24 true [Value.slice (some ⟨3, 0, none⟩) 1 1, Value.iface 9 (Value.iface 1 (Value.iface 0 (Value.agg #[Value.string b]))), Value.int .i64 i, Value.int .i64 j]))) 0 (some (Blk.mk 24 true [Value.slice (some ⟨3, 0, none⟩) 1 1, Value.slice (some (Addr.mk (List.getD [4] 0 0) 0 none)) 1 1, Value.int .i64 i, Value.int .i64 j]))) ?_
  refine WpOps.nil (thenK_at (Wp.seq (Wp.text ?_)))
  refine kp 7 (.func (Fn.func 65) #[] #[]) ?_
  refine WpOps.nil (thenK_at (Wp.seq (Wp.seq (Wp.text ?_))))
  refine kp 27 (.pointer (some ⟨1, 0, none⟩)) ?_
  refine kp 28 (.int IntKind.i64 0) ?_
  refine WpOps.nil (thenK_at (Wp.block (Wp.seq (Wp.text ?_))))
  refine kp 30 (.bool true) ?_
  refine kp 29 (.bool true) ?_
  refine WpOps.nil (thenK_at (on' ?_))
  refine Wp.regionT (by kernel_rfl) (by kernel_rfl) ?_
  refine kp 31 (.pointer (some ⟨1, 1, none⟩)) ?_
  refine kp 32 (.int IntKind.i64 row) ?_
  refine kp 33 (.pointer (some ⟨1, 2, none⟩)) ?_
  refine kp 34 (.int IntKind.i64 col) ?_
  refine kp 35 (.pointer (some ⟨0, 2, none⟩)) ?_
  refine cg0 (.tuple #[]) (Heap.set (Heap.set (Heap.set (Heap.alloc (Heap.merge (Heap.alloc (Heap.alloc (Heap.alloc Heap.none (Blk.mk 24 true [Value.iface 9 (Value.iface 1 (Value.iface 0 (Value.agg #[Value.string a]))), Value.iface 9 (Value.iface 1 (Value.iface 0 (Value.agg #[Value.string b]))), Value.int .i64 i, Value.int .i64 j])) (Blk.mk 26 true [Value.int .i64 0, Value.int .i64 row, Value.int .i64 col, Value.int .i64 k, Value.string s])) (Blk.mk 24 true [Value.slice none 0 0, Value.slice none 0 0, Value.int .i64 0, Value.int .i64 0])) (Heap.alloc (Heap.ro (Heap.alloc (Heap.alloc (Heap.alloc Heap.none (Blk.mk 24 true [Value.iface 9 (Value.iface 1 (Value.iface 0 (Value.agg #[Value.string a]))), Value.iface 9 (Value.iface 1 (Value.iface 0 (Value.agg #[Value.string b]))), Value.int .i64 i, Value.int .i64 j])) (Blk.mk 26 true [Value.int .i64 0, Value.int .i64 row, Value.int .i64 col, Value.int .i64 k, Value.string s])) (Blk.mk 24 true [Value.slice none 0 0, Value.slice none 0 0, Value.int .i64 0, Value.int .i64 0]))) (Blk.mk 9 true [Value.string a]))) (Blk.mk 9 true [Value.string b])) 0 (some (Blk.mk 24 true [Value.slice (some ⟨3, 0, none⟩) 1 1, Value.iface 9 (Value.iface 1 (Value.iface 0 (Value.agg #[Value.string b]))), Value.int .i64 i, Value.int .i64 j]))) 0 (some (Blk.mk 24 true [Value.slice (some ⟨3, 0, none⟩) 1 1, Value.slice (some ⟨4, 0, none⟩) 1 1, Value.int .i64 i, Value.int .i64 j]))) 0 (some (Blk.mk 24 true [Value.slice (some ⟨3, 0, none⟩) 1 1, Value.slice (some ⟨4, 0, none⟩) 1 1, Value.int .i64 row, Value.int .i64 j]))) ?_
  refine kp 36 (.pointer (some ⟨0, 3, none⟩)) ?_
  refine ld (.tuple #[]) (0) (Blk.mk 24 true [Value.slice (some ⟨3, 0, none⟩) 1 1, Value.slice (some ⟨4, 0, none⟩) 1 1, Value.int .i64 row, Value.int .i64 col]) ?_
  refine WpOps.nil ?_
  refine ⟨by kernel_rfl, ?_⟩
  refine blockK_norm (thenK_at (Wp.seq (Wp.text ?_)))
  refine kp 123 (.agg #[Value.slice (some ⟨3, 0, none⟩) 1 1, Value.slice (some ⟨4, 0, none⟩) 1 1, Value.int .i64 row, Value.int .i64 col]) ?_
  refine ld (.tuple #[]) (2) (Blk.mk 24 true [Value.slice (some ⟨3, 0, none⟩) 1 1, Value.slice (some ⟨4, 0, none⟩) 1 1, Value.int .i64 row, Value.int .i64 col]) ?_
  refine WpOps.nil (thenK_at (Wp.ret ?_))
  refine endK_retn [Value.agg #[Value.slice (some (Addr.mk 3 0 none)) 1 1, Value.slice (some (Addr.mk 4 0 none)) 1 1, Value.int IntKind.i64 row, Value.int IntKind.i64 col]] (Value.agg #[Value.slice (some (Addr.mk 3 0 none)) 1 1, Value.slice (some (Addr.mk 4 0 none)) 1 1, Value.int IntKind.i64 row, Value.int IntKind.i64 col]) (by kernel_rfl) (by kernel_rfl) ?_
  kernel_rfl
open Go.Fw Go.RowKit Go.Shelf Go.Lib

def ren105 : Ren :=
{
  f := fun x =>
    match x with
    | 105 => 45
    | 212 => 70
    | 99 => 71
    | 165 => 72
    | 166 => 73
    | 170 => 74
    | 169 => 75
    | 263 => 77
    | 264 => 78
    | 206 => 79
    | 240 => 80
    | 241 => 81
    | 276 => 82
    | 277 => 83
    | n => n,
  t := fun x =>
    match x with
    | 9 => 9
    | 3 => 3
    | 4 => 4
    | 20 => 20
    | 0 => 0
    | 46 => 115
    | 109 => 116
    | 5 => 5
    | 72 => 121
    | 76 => 125
    | 51 => 130
    | 146 => 131
    | 53 => 133
    | 148 => 134
    | 70 => 119
    | 37 => 111
    | 75 => 124
    | 127 => 136
    | 164 => 137
    | 80 => 127
    | n => n,
  g := fun x =>
    have n := x;
    n }
theorem lays105 : Go.Proofs.Lays.n105 Try.prog ren105 :=
{ mixed := Eq.refl true, f99 := Eq.trans Try.func71 (congrArg some (Eq.refl (Go.Proofs.Body.n99 ren105))),
  f105 := Eq.trans Try.func45 (congrArg some (Eq.refl (Go.Proofs.Body.n105 ren105))),
  f165 := Eq.trans Try.func72 (congrArg some (Eq.refl (Go.Proofs.Body.n165 ren105))),
  f166 := Eq.trans Try.func73 (congrArg some (Eq.refl (Go.Proofs.Body.n166 ren105))),
  f169 := Eq.trans Try.func75 (congrArg some (Eq.refl (Go.Proofs.Body.n169 ren105))),
  f170 := Eq.trans Try.func74 (congrArg some (Eq.refl (Go.Proofs.Body.n170 ren105))),
  f206 := Eq.trans Try.func79 (congrArg some (Eq.refl (Go.Proofs.Body.n206 ren105))),
  f212 := Eq.trans Try.func70 (congrArg some (Eq.refl (Go.Proofs.Body.n212 ren105))),
  f240 := Eq.trans Try.func80 (congrArg some (Eq.refl (Go.Proofs.Body.n240 ren105))),
  f241 := Eq.trans Try.func81 (congrArg some (Eq.refl (Go.Proofs.Body.n241 ren105))),
  f263 := Eq.trans Try.func77 (congrArg some (Eq.refl (Go.Proofs.Body.n263 ren105))),
  f264 := Eq.trans Try.func78 (congrArg some (Eq.refl (Go.Proofs.Body.n264 ren105))),
  f276 := Eq.trans Try.func82 (congrArg some (Eq.refl (Go.Proofs.Body.n276 ren105))),
  f277 := Eq.trans Try.func83 (congrArg some (Eq.refl (Go.Proofs.Body.n277 ren105))), t0 := Try.underlying0,
  a0 := Try.isAgg0, z0 := Try.sizeOf0, v0 := Try.zeroValue0, t3 := Try.underlying3, a3 := Try.isAgg3, z3 := Try.sizeOf3,
  v3 := Try.zeroValue3, t4 := Try.underlying4, a4 := Try.isAgg4, z4 := Try.sizeOf4, v4 := Try.zeroValue4,
  t5 := Try.underlying5, a5 := Try.isAgg5, z5 := Try.sizeOf5, v5 := Try.zeroValue5, t9 := Try.underlying9,
  a9 := Try.isAgg9, z9 := Try.sizeOf9, v9 := Try.zeroValue9, t20 := Try.underlying20, a20 := Try.isAgg20,
  z20 := Try.sizeOf20, v20 := Try.zeroValue20, t37 := Try.underlying111, a37 := Try.isAgg111, z37 := Try.sizeOf111,
  v37 := Try.zeroValue111, t46 := Try.underlying115, a46 := Try.isAgg115, z46 := Try.sizeOf115, v46 := Try.zeroValue115,
  t51 := Try.underlying130, a51 := Try.isAgg130, z51 := Try.sizeOf130, v51 := Try.zeroValue130,
  t53 := Try.underlying133, a53 := Try.isAgg133, z53 := Try.sizeOf133, v53 := Try.zeroValue133,
  t70 := Try.underlying119, a70 := Try.isAgg119, z70 := Try.sizeOf119, v70 := Try.zeroValue119,
  t72 := Try.underlying121, a72 := Try.isAgg121, z72 := Try.sizeOf121, v72 := Try.zeroValue121,
  t75 := Try.underlying124, a75 := Try.isAgg124, z75 := Try.sizeOf124, v75 := Try.zeroValue124,
  t76 := Try.underlying125, a76 := Try.isAgg125, z76 := Try.sizeOf125, v76 := Try.zeroValue125,
  t109 := Try.underlying116, a109 := Try.isAgg116, z109 := Try.sizeOf116, v109 := Try.zeroValue116,
  t127 := Try.underlying136, a127 := Try.isAgg136, z127 := Try.sizeOf136, v127 := Try.zeroValue136,
  t146 := Try.underlying131, a146 := Try.isAgg131, z146 := Try.sizeOf131, v146 := Try.zeroValue131,
  t148 := Try.underlying134, a148 := Try.isAgg134, z148 := Try.sizeOf134, v148 := Try.zeroValue134,
  t164 := Try.underlying137, a164 := Try.isAgg137, z164 := Try.sizeOf137, v164 := Try.zeroValue137 }
theorem extra105 : Go.Proofs.Builder.Extra Try.prog ren105 where
  sizeBuilder := by kernel_rfl
  liesBuilder := by kernel_rfl
  t5 := Try.underlying5
  a5 := Try.isAgg5
  z5 := Try.sizeOf5
  v5 := Try.zeroValue5
  infoByte := by kernel_rfl
  cellsByte := by kernel_rfl
  sizeByte := by kernel_rfl
  neB5 := by decide
/-- What strings.Repeat comes to. -/
def repS (s : ByteArray) (c : Nat) : ByteArray := ⟨(Go.Lib.repeatL s.data.toList c).toArray⟩
theorem f45 : E.funcs 45 = some Try.f45 := by kernel_rfl
theorem repeat45 (s : ByteArray) (c : Nat) (hc : c ≤ 9223372036854775807) (hlen : s.size * c ≤ 140737488355328) : Fun E 45 [.string s, .int .i64 c] (.string (repS s c)) :=
  Fun.lib f45 rfl rfl rfl rfl fun w => Go.Proofs.Any.strings_Repeat lays105 extra105 s c w hc hlen
def lib45 : List Value → Option Value
  | [.string s, .int .i64 c] => if 0 ≤ c ∧ c ≤ 1000000 ∧ s.size ≤ 1000000 then some (.string (repS s c.toNat)) else none
  | _ => none
def lib40 : List Value → Option Value
  | [.agg ⟨[.iface e1 (.iface n1 (.iface x1 (.agg ⟨[.string a]⟩))), .iface e2 (.iface n2 (.iface x2 (.agg ⟨[.string b]⟩))), .int .i64 _, .int .i64 _]⟩, .agg ⟨[.int .i64 op, .int .i64 row, .int .i64 col, .int .i64 _, .string _]⟩] =>
    if e1 = 9 ∧ n1 = 1 ∧ x1 = 0 ∧ e2 = 9 ∧ n2 = 1 ∧ x2 = 0 ∧ op = 0 then some (.agg #[FS 9 1 0 #[.string a], FS 9 1 0 #[.string b], .int .i64 row, .int .i64 col]) else none
  | _ => none
def lib : FuncId → List Value → Option Value := fun f args => if f = 45 then lib45 args else if f = 40 then lib40 args else none
theorem lib45_ok (args : List Value) (u : Value) (h : lib45 args = some u) : Fun E 45 args u := by
  unfold lib45 at h
  split at h
  · rename_i s c
    split at h
    · rename_i hc
      obtain rfl := Option.some.inj h
      obtain ⟨h1, h2, h3⟩ := hc
      obtain ⟨n, rfl⟩ : ∃ n : Nat, c = n := ⟨c.toNat, by omega⟩
      have hm : s.size * n ≤ 1000000 * 1000000 := Nat.mul_le_mul h3 (by omega)
      exact repeat45 s n (by omega) (by omega)
    · cases h
  · cases h
theorem lib40_ok (args : List Value) (u : Value) (h : lib40 args = some u) : Fun E 40 args u := by
  unfold lib40 at h
  split at h
  · split at h
    · rename_i hc
      obtain ⟨rfl, rfl, rfl, rfl, rfl, rfl, rfl⟩ := hc
      obtain rfl := Option.some.inj h
      exact move40 _ _ _ _ _ _ _ _
    · cases h
  · cases h
theorem lib_ok : ∀ f args u, lib f args = some u → Fun E f args u := by
  intro f args u h
  unfold lib at h
  split at h
  · rename_i hf
    subst hf
    exact lib45_ok args u h
  · split at h
    · rename_i hf
      subst hf
      exact lib40_ok args u h
    · cases h
theorem sane18 : Fun E 18 [] (.bool true) := Fun.closedX lib lib_ok 300 (.bool true) (by kernel_rfl)
end Go.Proofs.Ytlejgfeoffhjoaa.D
