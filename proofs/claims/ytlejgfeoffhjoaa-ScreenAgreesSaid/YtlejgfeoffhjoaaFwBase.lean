/- A machine of our own over Go's operations: abstract memory without capacities, draws or orders. This text: its memory, its operations, its code; more fuel tells the same. -/
import Derived.Calls
import Derived.Orders
namespace Go.Fw
structure Blk where
  elem : TypeId
  own : Bool
  cells : List Value
structure Heap where
  next : Nat
  get : Nat → Option Blk
def Heap.set (h : Heap) (b : Nat) (x : Option Blk) : Heap := { h with get := fun i => if i = b then x else h.get i }
def Heap.alloc (h : Heap) (x : Blk) : Heap := { next := h.next + 1, get := fun i => if i = h.next then some x else h.get i }
def Heap.ro (h : Heap) : Heap := { h with get := fun i => if i < h.next then (h.get i).map (fun x => { x with own := false }) else h.get i }
def Heap.merge (h h2 : Heap) : Heap := { next := h2.next, get := fun i => if i < h.next then h.get i else h2.get i }
theorem Heap.merge_ro (h : Heap) : h.merge h.ro = h := by
  cases h with
  | mk n g =>
    simp only [Heap.merge, Heap.ro, Heap.mk.injEq, true_and]
    funext i
    by_cases hi : i < n <;> simp [hi]
@[simp] theorem Heap.get_set (h : Heap) (b : Nat) (x : Option Blk) (i : Nat) : (h.set b x).get i = if i = b then x else h.get i := rfl
@[simp] theorem Heap.next_set (h : Heap) (b : Nat) (x : Option Blk) : (h.set b x).next = h.next := rfl
@[simp] theorem Heap.get_alloc (h : Heap) (x : Blk) (i : Nat) : (h.alloc x).get i = if i = h.next then some x else h.get i := rfl
@[simp] theorem Heap.next_alloc (h : Heap) (x : Blk) : (h.alloc x).next = h.next + 1 := rfl
structure TI where
  desc : TypeDesc
  size : Nat
  bytes : Nat
  zero : List Value
  eqs : Bool
structure Env where
  prog : Program
  types : TypeId → Option TI
  funcs : FuncId → Option Func
  frame : FuncId → Bool
def aggD : TypeDesc → Bool
  | .struct _ | .array _ _ => true
  | _ => false
def junk : Value := .chan none
def cellsOf : Value → Option (List Value)
  | .agg cs => some cs.toList
  | .tuple _ => none
  | .chan _ => none
  | v => some [v]
def cellsAt (cells : List Value) (off n : Nat) : Option (List Value) := if off + n ≤ cells.length then some ((cells.drop off).take n) else none
def setAll : List Value → Nat → List Value → List Value
  | cells, _, [] => cells
  | cells, off, x :: r => setAll (cells.set off x) (off + 1) r
abbrev AX : Value := .iface 0 (.bool true)
@[match_pattern] abbrev FS (e n x : Nat) (cells : Array Value) : Value := .iface e (.iface n (.iface x (.agg cells)))
@[match_pattern] abbrev FP (e off : Nat) (cells : Array Value) : Value := .iface e (.iface off (.agg cells))
def aload (E : Env) (t : TypeId) (a : Value) (h : Heap) : Option Value :=
  match E.types t, a with
  | some ti, .pointer (some ⟨b, off, none⟩) =>
    match h.get b with
    | some blk => if aggD ti.desc then (cellsAt blk.cells off ti.size).map fun cs => .agg cs.toArray else blk.cells[off]?
    | none => none
  | some ti, FP _ off cells => if aggD ti.desc then (cellsAt cells.toList off ti.size).map fun cs => .agg cs.toArray else cells.toList[off]?
  | _, _ => none
def awrite (b off : Nat) (xs : List Value) (h : Heap) : Option Heap :=
  match h.get b with
  | some blk => if blk.own = true ∧ off + xs.length ≤ blk.cells.length then some (h.set b (some { blk with cells := setAll blk.cells off xs })) else none
  | none => none
def astore (E : Env) (t : TypeId) (a x : Value) (h : Heap) : Option Heap :=
  match E.types t, a, cellsOf x with
  | some ti, .pointer (some ⟨b, off, none⟩), some xs => if xs.length = ti.size then awrite b off xs h else none
  | _, _, _ => none
def anew (t : TypeId) (cells : List Value) (h : Heap) : Value × Heap := (.pointer (some ⟨h.next, 0, none⟩), h.alloc ⟨t, true, cells⟩)
def aalloc (E : Env) (t : TypeId) (h : Heap) : Option (Value × Heap) :=
  match E.types t with
  | some ti => some (anew t ti.zero h)
  | none => none
def abox (t : TypeId) (x : Value) (h : Heap) : Option (Value × Heap) :=
  match cellsOf x with
  | some xs => some (anew t xs h)
  | none => none
def afill (place : Nat → Option (Nat × Nat)) (cells : List Value) : List (Nat × Value) → Option (List Value)
  | [] => some cells
  | (i, v) :: rest =>
    match place i, cellsOf v with
    | some (off, size), some xs => if xs.length = size ∧ off + xs.length ≤ cells.length then afill place (setAll cells off xs) rest else none
    | _, _ => none
def placesOf (E : Env) (fs : Array Field) (i : Nat) : Option (Nat × Nat) :=
  match fs[i]? with
  | some f => (E.types f.type).map fun ti => (f.offset, ti.size)
  | none => none
def abuild (E : Env) (t : TypeId) (parts : List (Nat × Value)) : Option Value :=
  match E.types t with
  | some ti =>
    match ti.desc with
    | .struct fs => if (fs.toList.all fun f => (E.types f.type).isSome) then (afill (placesOf E fs) ti.zero parts).map fun cs => .agg cs.toArray else none
    | .array _ e =>
      match E.types e with
      | some te => (afill (fun i => some (i * te.size, te.size)) ti.zero parts).map fun cs => .agg cs.toArray
      | none => none
    | _ => none
  | none => none
def zeros (zero : List Value) : Nat → List Value
  | 0 => []
  | n + 1 => zero ++ zeros zero n
def arow (e : TypeId) (n : Nat) (cells : List Value) (h : Heap) : Value × Heap := (.slice (some ⟨h.next, 0, none⟩) n n, h.alloc ⟨e, true, cells⟩)
def abuildSlice (E : Env) (t : TypeId) (len : Nat) (parts : List (Nat × Value)) (h : Heap) : Option (Value × Heap) :=
  match E.types t with
  | some ti =>
    match ti.desc with
    | .slice e =>
      match E.types e with
      | some te =>
        if len * te.size ≤ 16777216 then
          match afill (fun i => some (i * te.size, te.size)) (zeros te.zero len) parts with
          | some cs => some (arow e len cs h)
          | none => none
        else none
      | none => none
    | _ => none
  | none => none
def amakeSlice (E : Env) (t : TypeId) (l c : Value) (h : Heap) : Option (Value × Heap) :=
  match E.types t, l, c with
  | some ti, .int .i64 n, .int .i64 m =>
    match ti.desc with
    | .slice e =>
      match E.types e with
      | some te => if 0 ≤ n ∧ n = m ∧ te.bytes * n ≤ 281474976710656 ∧ n ≤ 9223372036854775807 then some (arow e n.toNat (zeros te.zero n.toNat) h) else none
      | none => none
    | _ => none
  | _, _, _ => none
def afieldAddr (E : Env) (t : TypeId) (x : Value) (f : Nat) : Option Value :=
  match E.types t, x with
  | some ti, .pointer (some ⟨b, off, none⟩) =>
    match ti.desc with
    | .struct fs =>
      match fs[f]? with
      | some fd =>
        match E.types fd.type with
        | some tf => if tf.size = 0 then none else some (.pointer (some ⟨b, off + fd.offset, none⟩))
        | none => none
      | none => none
    | _ => none
  | some ti, FP e off cells =>
    match ti.desc with
    | .struct fs =>
      match fs[f]? with
      | some fd =>
        match E.types fd.type with
        | some tf => if tf.size = 0 then none else some (FP e (off + fd.offset) cells)
        | none => none
      | none => none
    | _ => none
  | _, _ => none
def apart (E : Env) (t : TypeId) (cs : List Value) (off : Nat) : Option Value :=
  match E.types t with
  | some ti => if aggD ti.desc then (cellsAt cs off ti.size).map fun c => .agg c.toArray else cs[off]?
  | none => none
def afield (E : Env) (t : TypeId) (x : Value) (f : Nat) : Option Value :=
  match E.types t, x with
  | some ti, .agg cs =>
    match ti.desc with
    | .struct fs =>
      match fs[f]? with
      | some fd => apart E fd.type cs.toList fd.offset
      | none => none
    | _ => none
  | _, _ => none
def aindexAddr (E : Env) (t : TypeId) (x ix : Value) : Option Value :=
  match E.types t, x, ix with
  | some ti, .slice (some ⟨b, off, none⟩) n _, .int _ i =>
    match ti.desc with
    | .slice e =>
      match E.types e with
      | some te => if 0 ≤ i ∧ i < n then some (.pointer (some ⟨b, off + i.toNat * te.size, none⟩)) else none
      | none => none
    | _ => none
  | some ti, .pointer (some ⟨b, off, none⟩), .int _ i =>
    match ti.desc with
    | .array n e =>
      match E.types e with
      | some te => if 0 ≤ i ∧ i < n then some (.pointer (some ⟨b, off + i.toNat * te.size, none⟩)) else none
      | none => none
    | _ => none
  | some ti, FS e' n _ cells, .int _ i =>
    match ti.desc with
    | .slice e =>
      match E.types e with
      | some te => if e = e' then (if 0 ≤ i ∧ i < n then some (FP e' (i.toNat * te.size) cells) else none) else none
      | none => none
    | _ => none
  | some ti, FP e' off cells, .int _ i =>
    match ti.desc with
    | .array n e =>
      match E.types e with
      | some te => if 0 ≤ i ∧ i < n then some (FP e' (off + i.toNat * te.size) cells) else none
      | none => none
    | _ => none
  | _, _, _ => none
def aindex (E : Env) (t : TypeId) (x ix : Value) : Option Value :=
  match E.types t, x, ix with
  | some ti, .string s, .int _ i =>
    match ti.desc with
    | .string => if 0 ≤ i then (s[i.toNat]?).map fun b => .int .u8 b.toNat else none
    | _ => none
  | some ti, .agg cs, .int _ i =>
    match ti.desc with
    | .array n e =>
      match E.types e with
      | some te => if 0 ≤ i ∧ i < n then apart E e cs.toList (i.toNat * te.size) else none
      | none => none
    | _ => none
  | _, _, _ => none
def abound (y : Nat) : Option Value → Nat → Option Nat
  | none, d => some d
  | some (.int _ i), _ => if 0 ≤ i ∧ i ≤ y then some i.toNat else none
  | some _, _ => none
def rowOf (h : Heap) (e : TypeId) : Option Addr → Bool
  | none => true
  | some ⟨b, _, none⟩ => match h.get b with
    | some x => x.elem == e
    | none => false
  | some _ => false
def aslice (E : Env) (t : TypeId) (x : Value) (lo hi mx : Option Value) (h : Heap) : Option Value :=
  match E.types t, x with
  | some ti, .string s =>
    match ti.desc, mx with
    | .string, none =>
      match abound s.size hi s.size with
      | some r => (abound r lo 0).map fun l => .string (s.extract l r)
      | none => none
    | _, _ => none
  | some ti, .slice a n c =>
    match ti.desc with
    | .slice e =>
      if rowOf h e a = true then
        match E.types e with
        | some te =>
          match mx with
          | none =>
            match abound c hi n with
            | some r =>
              match abound r lo 0 with
              | some l => some (.slice (a.map fun p => ⟨p.block, p.off + l * te.size, none⟩) (r - l) (c - l))
              | none => none
            | none => none
          | some mv =>
            match abound c (some mv) 0, hi with
            | some m, some hv =>
              match abound m (some hv) 0 with
              | some r =>
                match abound r lo 0 with
                | some l => some (.slice (a.map fun p => ⟨p.block, p.off + l * te.size, none⟩) (r - l) (m - l))
                | none => none
              | none => none
            | _, _ => none
        | none => none
      else none
    | _ => none
  | some ti, FS e' n x cells =>
    match ti.desc with
    | .slice e =>
      if e = e' then
        match E.types e with
        | some te =>
          match mx with
          | none =>
            match abound n hi n with
            | some r =>
              match abound r lo 0 with
              | some l => some (FS e' (r - l) (if x = 2 then 2 else 0) ((cells.toList.drop (l * te.size)).take ((r - l) * te.size)).toArray)
              | none => none
            | none => none
          | some mv =>
            match abound n (some mv) 0, hi with
            | some m, some hv =>
              match abound m (some hv) 0 with
              | some r =>
                match abound r lo 0 with
                | some l => some (FS e' (r - l) (if x = 2 then 2 else if m = r then 1 else 0) ((cells.toList.drop (l * te.size)).take ((r - l) * te.size)).toArray)
                | none => none
              | none => none
            | _, _ => none
        | none => none
      else none
    | _ => none
  | _, _ => none
def aextract (x : Value) (i : Nat) : Option Value :=
  match x with
  | .tuple vs => vs[i]?
  | _ => none
def aun (op : UnOp) (x : Value) : Option Value :=
  match op, x with
  | .neg, .int k n => some (.int k (k.wrap (0 - n)))
  | .not, .bool b => some (.bool !b)
  | _, _ => none
def abits (k : IntKind) (op : BinOp) (x y : Int) : Option Value :=
  match op with
  | .and => some (.int k (k.wrap (BitVec.ofInt k.bits x &&& BitVec.ofInt k.bits y).toNat))
  | .or => some (.int k (k.wrap (BitVec.ofInt k.bits x ||| BitVec.ofInt k.bits y).toNat))
  | .xor => some (.int k (k.wrap (BitVec.ofInt k.bits x ^^^ BitVec.ofInt k.bits y).toNat))
  | .andNot => some (.int k (k.wrap (BitVec.ofInt k.bits x &&& ~~~(BitVec.ofInt k.bits y)).toNat))
  | _ => none
def aint (k : IntKind) (op : BinOp) (x y : Int) : Option Value :=
  match op with
  | .add => some (.int k (k.wrap (x + y)))
  | .sub => some (.int k (k.wrap (x - y)))
  | .mul => some (.int k (k.wrap (x * y)))
  | .quo => if y = 0 then none else some (.int k (k.wrap (x.tdiv y)))
  | .rem => if y = 0 then none else some (.int k (x.tmod y))
  | .and | .or | .xor | .andNot => abits k op x y
  | .eql => some (.bool (x == y))
  | .neq => some (.bool (x != y))
  | .lss => some (.bool (decide (x < y)))
  | .leq => some (.bool (decide (x ≤ y)))
  | .gtr => some (.bool (decide (x > y)))
  | .geq => some (.bool (decide (x ≥ y)))
  | _ => none
def astr (op : BinOp) (x y : ByteArray) : Option Value :=
  match op with
  | .add => if ((x.size + y.size : Nat) : Int) ≤ 9223372036854775807 then some (.string (x ++ y)) else none
  | .eql => some (.bool (x.toList == y.toList))
  | .neq => some (.bool !(x.toList == y.toList))
  | .lss => some (.bool (Op.bytesLess x.toList y.toList))
  | .leq => some (.bool (Op.bytesLess x.toList y.toList || x.toList == y.toList))
  | .gtr => some (.bool !(Op.bytesLess x.toList y.toList || x.toList == y.toList))
  | .geq => some (.bool !(Op.bytesLess x.toList y.toList))
  | _ => none
def aeq (d : TypeDesc) (x y : Value) : Option Bool :=
  match d, x, y with
  | .bool, .bool a, .bool b => some (a == b)
  | .pointer _, .pointer none, .pointer b => some b.isNone
  | .pointer _, .pointer (some _), .pointer none => some false
  | .slice _, .slice none _ _, .slice b _ _ => some b.isNone
  | .slice _, .slice (some _) _ _, .slice none _ _ => some false
  | .slice _, FS _ _ x _, .slice none _ _ => some (x == 2)
  | .slice _, .slice none _ _, FS _ _ x _ => some (x == 2)
  | .pointer _, FP _ _ _, .pointer none => some false
  | .pointer _, .pointer none, FP _ _ _ => some false
  | .func _ _ _, .nilFunc, .nilFunc => some true
  | .func _ _ _, .nilFunc, .func _ _ _ => some false
  | .func _ _ _, .func _ _ _, .nilFunc => some false
  | _, _, _ => none
def eqF (E : Env) (xs ys : List Value) : List Field → Option Bool
  | [] => some true
  | f :: r =>
    if (f.name == "_") = true then none else
    match E.types f.type with
    | some ti => match ti.desc, xs[f.offset]?, ys[f.offset]? with
      | .int _, some (.int k a), some (.int k' b) => if k = k' then (eqF E xs ys r).map fun q => (a == b) && q else none
      | .bool, some (.bool a), some (.bool b) => (eqF E xs ys r).map fun q => (a == b) && q
      | .string, some (.string a), some (.string b) => (eqF E xs ys r).map fun q => (a.toList == b.toList) && q
      | _, _, _ => none
    | none => none
def eqI (xs ys : List Value) : List Nat → Option Bool
  | [] => some true
  | i :: is => match xs[i]?, ys[i]? with
    | some (.int k a), some (.int k' b) => if k = k' then (eqI xs ys is).map fun q => (a == b) && q else none
    | _, _ => none
def intT (E : Env) (e : TypeId) : Bool := match E.types e with
  | some te => match te.desc with
    | .int _ => te.size == 1
    | _ => false
  | none => false
def aeqX (E : Env) (ti : TI) (x y : Value) : Option Bool :=
  match ti.desc, x, y with
  | .array n e, .agg xs, .agg ys => if ti.eqs = true ∧ intT E e = true then eqI xs.toList ys.toList (List.range n) else none
  | .struct fs, .agg xs, .agg ys => if ti.eqs = true then eqF E xs.toList ys.toList fs.toList else none
  | d, x, y => aeq d x y
def abin (E : Env) (op : BinOp) (t : TypeId) (x y : Value) : Option Value :=
  match x, y with
  | .int k a, .int k' b =>
    match op with
    | .shl => if b < 0 then none else some (.int k (k.wrap (a * 2 ^ min b.toNat k.bits)))
    | .shr => if b < 0 then none else some (.int k (a.fdiv (2 ^ min b.toNat k.bits)))
    | _ => if k = k' then aint k op a b else none
  | .string a, .string b => astr op a b
  | _, _ =>
    match E.types t, op with
    | some ti, .eql => (aeqX E ti x y).map Value.bool
    | some ti, .neq => (aeqX E ti x y).map fun b => .bool !b
    | _, _ => none
def byteCells (s : ByteArray) : List Value := s.data.toList.map fun b => .int .u8 b.toNat
def cellByte : Value → Option UInt8
  | .int .u8 n => some (UInt8.ofNat n.toNat)
  | _ => none
def cellBytes : List Value → Option (List UInt8)
  | [] => some []
  | v :: r => match cellByte v, cellBytes r with
    | some b, some l => some (b :: l)
    | _, _ => none
def aconvert (E : Env) (src dst : TypeId) (x : Value) (h : Heap) : Option (Value × Heap) :=
  match E.types src, E.types dst with
  | some ts, some td =>
    match ts.desc, td.desc, x with
    | .int _, .int k, .int _ n => some (.int k (k.wrap n), h)
    | .int _, .string, .int _ n => some (.string (Utf8.encode n), h)
    | .string, .string, .string s => some (.string s, h)
    | .string, .slice e, .string s =>
      match E.types e with
      | some te =>
        match te.desc with
        | .int .u8 => if te.size = 1 then some (arow e s.size (byteCells s) h) else none
        | _ => none
      | none => none
    | .slice e, .string, .slice none _ _ =>
      match E.types e with
      | some te =>
        match te.desc with
        | .int .u8 => some (.string .empty, h)
        | _ => none
      | none => none
    | .slice e, .string, .slice (some ⟨b, off, none⟩) n _ =>
      match E.types e, h.get b with
      | some te, some blk =>
        match te.desc with
        | .int .u8 =>
          match cellsAt blk.cells off n with
          | some cs => (cellBytes cs).map fun l => (.string ⟨l.toArray⟩, h)
          | none => none
        | _ => none
      | _, _ => none
    | .slice e, .string, FS e' _ _ cells =>
      if e = e' then
        match E.types e with
        | some te =>
          match te.desc with
          | .int .u8 => if te.size = 1 then (cellBytes cells.toList).map fun l => (.string ⟨l.toArray⟩, h) else none
          | _ => none
        | none => none
      else none
    | _, _, _ => none
  | _, _ => none
def asource (e : TypeId) (size : Nat) (x : Value) (h : Heap) : Option (Nat × List Value) :=
  match x with
  | .slice none _ _ => some (0, [])
  | .slice (some ⟨b, off, none⟩) n _ =>
    if n = 0 then some (0, []) else
    match h.get b with
    | some blk => (cellsAt blk.cells off (n * size)).map fun cs => (n, cs)
    | none => none
  | .string s => if size = 1 then some (s.size, byteCells s) else none
  | FS e' n _ cells => if e = e' then some (n, cells.toList) else none
  | _ => none
def aappend (E : Env) (ts : TypeId) (tx : TypeId) (s x : Value) (h : Heap) : Option (Value × Heap) :=
  match E.types ts, E.types tx with
  | some ti, some ux =>
    match ti.desc with
    | .slice e =>
      match E.types e with
      | some te =>
        match ux.desc with
        | .int _ => none
        | _ =>
          match asource e te.size x h with
          | some (m, new) =>
            match s with
            | .slice base n c =>
              if n + m ≤ c then
                if m = 0 then some (.slice base n c, h) else
                match base with
                | some ⟨b, off, none⟩ => (awrite b (off + n * te.size) new h).map fun h' => (.slice base (n + m) c, h')
                | _ => none
              else if 1 ≤ te.bytes ∧ (n + m) * te.bytes ≤ 140737488355328 ∧ te.zero.length = te.size ∧ n + m ≤ 9223372036854775807 then
                match base with
                | none => if n = 0 then some (arow e m new h) else none
                | some ⟨b, off, none⟩ =>
                  match h.get b with
                  | some blk => if blk.own = true ∧ blk.elem = e then (cellsAt blk.cells off (n * te.size)).map fun old => arow e (n + m) (old ++ new) (h.set b none) else none
                  | none => none
                | _ => none
              else none
            | FS e' n x cells =>
              if m = 0 then some (FS e' n x cells, h) else
              if (x = 1 ∨ x = 2) ∧ e = e' ∧ 1 ≤ te.bytes ∧ (n + m) * te.bytes ≤ 140737488355328 ∧ te.zero.length = te.size ∧ n + m ≤ 9223372036854775807 then some (arow e (n + m) (cells.toList ++ new) h) else none
            | _ => none
          | none => none
      | none => none
    | _ => none
  | _, _ => none
def acopy (E : Env) (ts : TypeId) (d x : Value) (h : Heap) : Option (Value × Heap) :=
  match E.types ts with
  | some ti =>
    match ti.desc with
    | .slice e =>
      match E.types e with
      | some te =>
        match d, asource e te.size x h with
        | .slice base n _, some (m, cs) =>
          if min m n = 0 then some (.int .i64 0, h) else
          match base with
          | some ⟨b, off, none⟩ => (awrite b off (cs.take (min m n * te.size)) h).map fun h' => (.int .i64 (min m n : Nat), h')
          | _ => none
        | _, _ => none
      | none => none
    | _ => none
  | none => none
def aclear (E : Env) (ts : TypeId) (d : Value) (h : Heap) : Option (Value × Heap) :=
  match E.types ts with
  | some ti =>
    match ti.desc, d with
    | .slice _, .slice none _ _ => some (.tuple #[], h)
    | .slice e, .slice (some ⟨b, off, none⟩) n _ =>
      if n = 0 then some (.tuple #[], h) else
      match E.types e with
      | some te => (awrite b off (zeros te.zero n) h).map fun h' => (.tuple #[], h')
      | none => none
    | _, _ => none
  | none => none
def alen (x : Value) : Option Value :=
  match x with
  | .string s => some (.int .i64 s.size)
  | .slice _ n _ => some (.int .i64 n)
  | _ => none
def amin : List Value → Option Value
  | [.int k x, .int k' y] => if k = k' then some (.int k (if y < x then y else x)) else none
  | _ => none
def amax : List Value → Option Value
  | [.int k x, .int k' y] => if k = k' then some (.int k (if y > x then y else x)) else none
  | _ => none
def abuiltin (E : Env) (b : Builtin) (tys : List TypeId) (args : List Value) (h : Heap) : Option (Value × Heap) :=
  match b, tys, args with
  | .len, [t], [x] =>
    match E.types t, x with
    | some ti, .string s => match ti.desc with | .string => some (.int .i64 s.size, h) | _ => none
    | some ti, .slice _ n _ => match ti.desc with | .slice _ => some (.int .i64 n, h) | _ => none
    | some ti, FS _ n _ _ => match ti.desc with | .slice _ => some (.int .i64 n, h) | _ => none
    | _, _ => none
  | .append, [t, u], [s, x] => aappend E t u s x h
  | .copy, [t, _], [d, x] => acopy E t d x h
  | .clear, [t], [d] => aclear E t d h
  | .min, _, xs => (amin xs).map fun v => (v, h)
  | .max, _, xs => (amax xs).map fun v => (v, h)
  | _, _, _ => none
def okConst : Value → Bool
  | .bool _ | .int _ _ | .string _ | .pointer none | .slice none 0 0 | .map none | .nilFunc | .nilIface => true
  | _ => false
def simple : Value → Bool
  | .bool _ | .int _ _ | .string _ | .pointer _ | .slice _ _ _ | .map _ | .nilFunc | .nilIface | .iface _ _ => true
  | _ => false
abbrev Slots := Nat → Value
def upd (s : Slots) (d : Nat) (v : Value) : Slots := fun i => if i = d then v else s i
def ev (s : Slots) : Operand → Option Value
  | .tmp t => some (s t)
  | .const v => if okConst v = true then some v else none
  | .func f => some (.func (.func f) #[] #[])
  | .global _ => none
def evs (s : Slots) : List Operand → Option (List Value)
  | [] => some []
  | x :: r => match ev s x, evs s r with
    | some v, some l => some (v :: l)
    | _, _ => none
def evo (s : Slots) : Option Operand → Option (Option Value)
  | none => some none
  | some x => (ev s x).map some
def evp (s : Slots) : List (Nat × Operand) → Option (List (Nat × Value))
  | [] => some []
  | (i, x) :: r => match ev s x, evp s r with
    | some v, some l => some ((i, v) :: l)
    | _, _ => none
abbrev CallF := FuncId → List Value → Heap → Option (Value × Heap)
def roCall (cf : CallF) : CallF := fun f args h =>
  match cf f args h.ro with
  | some (v, h2) => some (v, h.merge h2)
  | none => none
def Heap.none : Heap := ⟨0, fun _ => Option.none⟩
def flat : Value → Bool
  | .bool _ | .int _ _ | .string _ | .pointer none | .slice none _ _ | .map none | .nilFunc | .nilIface | .iface _ _ => true
  | _ => false
def noPtr : Value → Bool
  | .agg cs => cs.toList.all flat
  | .func _ a c => a.toList.all flat && c.toList.all flat
  | v => flat v
def mapO (f : Value → Option Value) : List Value → Option (List Value)
  | [] => some []
  | v :: r => match f v, mapO f r with
    | some u, some l => some (u :: l)
    | _, _ => none
def iceC (E : Env) (h : Heap) : Nat → Value → Option Value
  | n + 1, .slice (some ⟨b, off, none⟩) len _ =>
    match h.get b with
    | some ⟨el, true, cells⟩ =>
      match E.types el with
      | some ti =>
        match cellsAt cells off (len * ti.size) with
        | some cs =>
          match mapO (iceC E h n) cs with
          | some cs' => some (FS el len 0 cs'.toArray)
          | none => none
        | none => none
      | none => none
    | _ => none
  | _, .bool b => some (.bool b)
  | _, .int k i => some (.int k i)
  | _, .string s => some (.string s)
  | _, v => if flat v = true then some v else none
def iceW (E : Env) (h : Heap) : Value → Option Value
  | .agg cs => (mapO (iceC E h 4) cs.toList).map fun l => .agg l.toArray
  | v => iceC E h 4 v
def iceV (E : Env) (h : Heap) : Value → Option Value
  | .tuple vs => (mapO (iceW E h) vs.toList).map fun l => .tuple l.toArray
  | v => iceW E h v
def frameCall (E : Env) (cf : CallF) : CallF := fun f args h =>
  if args.all noPtr = true then
    match cf f args Heap.none with
    | some (v, h1) => match iceV E h1 v with
      | some u => some (u, h)
      | none => none
    | none => none
  else none
def callOf (E : Env) (cf : CallF) : CallF := fun g l h => if E.frame g = true then frameCall E cf g l h else cf g l h
def targetOf (f : Value) (args : List Value) : Option (FuncId × List Value) :=
  match f with
  | .func (.func g) first captured => some (g, first.toList ++ args ++ captured.toList)
  | _ => none
def keep (h : Heap) (o : Option Value) : Option (Value × Heap) :=
  match o with
  | some v => some (v, h)
  | none => none
def aop (E : Env) (cf : CallF) (op : Op) (s : Slots) (h : Heap) : Option (Value × Heap) :=
  match op with
  | .move x | .assign x => keep h (ev s x)
  | .pick c a b =>
    match ev s c with
    | some (.bool t) => keep h (if t then ev s a else ev s b)
    | _ => none
  | .alloc t => aalloc E t h
  | .box t x => match ev s x with
    | some v => abox t v h
    | none => none
  | .build t parts => match evp s parts.toList with
    | some l => keep h (abuild E t l)
    | none => none
  | .buildSlice t n parts => match evp s parts.toList with
    | some l => abuildSlice E t n l h
    | none => none
  | .load t a => match ev s a with
    | some v => keep h (aload E t v h)
    | none => none
  | .store t a x => match ev s a, ev s x with
    | some v, some u => match astore E t v u h with
      | some h' => some (undef, h')
      | none => none
    | _, _ => none
  | .nilCheck x => match ev s x with
    | some (.pointer (some a)) => some (.pointer (some a), h)
    | some (FP e off cells) => some (FP e off cells, h)
    | _ => none
  | .binOp op t x y _ => match ev s x, ev s y with
    | some v, some u => keep h (abin E op t v u)
    | _, _ => none
  | .unOp op _ x => match ev s x with
    | some v => keep h (aun op v)
    | none => none
  | .convert src dst x => match ev s x with
    | some v => aconvert E src dst v h
    | none => none
  | .makeFunc fn first captured => match evs s first.toList, evs s captured.toList with
    | some l, some r => if (l.all simple && r.all simple) = true then some (.func fn l.toArray r.toArray, h) else none
    | _, _ => none
  | .makeMap _ r => match r with
    | none => some (AX, h)
    | some _ => none
  | .makeSlice t l c => match ev s l, ev s c with
    | some v, some u => amakeSlice E t v u h
    | _, _ => none
  | .slice t x lo hi mx => match ev s x, evo s lo, evo s hi, evo s mx with
    | some v, some l, some r, some m => keep h (aslice E t v l r m h)
    | _, _, _, _ => none
  | .fieldAddr t x f => match ev s x with
    | some v => keep h (afieldAddr E t v f)
    | none => none
  | .field t x f => match ev s x with
    | some v => keep h (afield E t v f)
    | none => none
  | .indexAddr t x i => match ev s x, ev s i with
    | some v, some u => keep h (aindexAddr E t v u)
    | _, _ => none
  | .index t x i => match ev s x, ev s i with
    | some v, some u => keep h (aindex E t v u)
    | _, _ => none
  | .extract x i => match ev s x with
    | some v => keep h (aextract v i)
    | none => none
  | .call c =>
    match c.callee, evs s c.args.toList with
    | .builtin b, some args => abuiltin E b c.argTypes.toList args h
    | .value f, some args =>
      match ev s f with
      | some fv =>
        match targetOf fv args with
        | some (g, l) => callOf E cf g l h
        | none => none
      | none => none
    | _, _ => none
  | _ => none
def wants (ops : Array Oper) (o : Oper) (s : Slots) : Bool :=
  match o.guard with
  | none => true
  | some (j, w) =>
    match (ops[j]?).bind (·.dst) with
    | some t => match s t with
      | .bool b => b == w
      | _ => false
    | none => false
def put (o : Oper) (v : Value) (s : Slots) : Slots :=
  match o.dst with
  | some d => upd s d v
  | none => s
inductive Cls where
  | pure | read | make | write
  deriving DecidableEq
def clsOf (E : Env) : Op → Cls
  | .load .. => .read
  | .slice t _ _ _ _ => match E.types t with
    | some x => match x.desc with
      | .string => .pure
      | _ => .read
    | none => .write
  | .convert a b _ => match E.types a, E.types b with
    | some x, some y => match x.desc, y.desc with
      | .int _, .int _ | .int _, .string | .string, .string => .pure
      | .string, .slice _ => .make
      | .slice _, .string => .read
      | _, _ => .write
    | _, _ => .write
  | .alloc _ | .box .. | .buildSlice .. | .makeSlice .. => .make
  | .store .. => .write
  | .call { callee := .builtin b, .. } => match b with
    | .len | .min | .max => .pure
    | _ => .write
  | .call { callee := .value (.func g), .. } => if E.frame g = true then .pure else .write
  | .call _ => .write
  | .move _ | .assign _ | .pick .. | .build .. | .nilCheck _ | .binOp .. | .unOp .. | .makeFunc .. | .makeMap .. | .fieldAddr .. | .field .. | .indexAddr .. | .index .. | .extract .. => .pure
  | _ => .write
def isCall (E : Env) : Op → Bool
  | .call { callee := .value (.func g), .. } => !E.frame g
  | .call { callee := .value _, .. } => true
  | _ => false
def insN (i : Nat) (l : List Nat) : List Nat := if l.contains i = true then l else i :: l
def aheadOf (acc : List (List Nat)) (o : Oper) : List Nat := o.after.toList.foldr (fun e l => if Region.binds .any e = true then (if l.contains e.on = true then l else e.on :: (acc.getD e.on []).foldr insN l) else l) []
def aheads (ops : List Oper) : List (List Nat) := ops.foldl (fun acc o => acc ++ [aheadOf acc o]) []
def looks (ops : List Oper) (o : Oper) : List Nat :=
  (o.op.operands.toList.filterMap fun | .tmp t => some t | _ => none) ++
  (match o.guard with
   | some (g, _) => ((ops[g]?).bind (·.dst)).toList
   | none => [])
def roAt (E : Env) (A : List (List Nat)) (ops : List Oper) (i : Nat) (o : Oper) : Bool :=
  isCall E o.op && (List.range ops.length).any fun j =>
    match ops[j]? with
    | some p => clsOf E p.op == .read && !(A.getD i []).contains j && !(A.getD j []).contains i
    | none => false
def clsAt (E : Env) (A : List (List Nat)) (ops : List Oper) (i : Nat) (o : Oper) : Cls :=
  if roAt E A ops i o then .make else clsOf E o.op
def clash (E : Env) (A : List (List Nat)) (ops : List Oper) (i j : Nat) (x y : Oper) : Bool :=
  (match x.dst with | some d => (looks ops y).contains d || y.dst == some d | none => false) ||
  (match y.dst with | some d => (looks ops x).contains d | none => false) ||
  (match clsAt E A ops i x, clsAt E A ops j y with
   | .make, .make | .make, .write | .write, .make | .write, .write | .write, .read | .read, .write => true
   | _, _ => false)
def orderOk (E : Env) (ops : List Oper) : Bool :=
  let A := aheads ops
  (List.range ops.length).all fun j =>
    match ops[j]? with
    | some y =>
      (y.after.toList.all fun e => !Region.binds .any e || e.on < j) &&
      (List.range j).all fun i =>
        match ops[i]? with
        | some x => !clash E A ops i j x y || (A.getD j []).contains i
        | none => true
    | none => true
def dstOk (n : Nat) (o : Oper) : Bool := match o.dst with | some d => decide (d < n) | none => true
def clear (ops : Array Oper) (o : Oper) (s : Slots) : Bool :=
  match o.guard with
  | none => true
  | some (j, _) =>
    match (ops[j]?).bind (·.dst) with
    | some t => match s t with
      | .chan _ => false
      | _ => true
    | none => true
def okAt (n : Nat) (ops : Array Oper) (o : Oper) (s : Slots) : Bool := dstOk n o && clear ops o s
def aops (E : Env) (cf : Nat → CallF) (draw : Bool) (A : List (List Nat)) (n : Nat) (ops : Array Oper) : List Oper → Nat → Slots → Heap → Option (Slots × Heap)
  | [], _, s, h => some (s, h)
  | o :: r, i, s, h =>
    if okAt n ops o s = true then
      if wants ops o s then
        match aop E (if draw && roAt E A ops.toList i o then roCall (cf i) else cf i) o.op s h with
        | some (v, h') => aops E cf draw A n ops r (i + 1) (put o v s) h'
        | none => none
      else aops E cf draw A n ops r (i + 1) (put o undef s) h
    else none
inductive AExit where
  | normal
  | exit (id : Nat)
  | ret
abbrev Out := AExit × Slots × Heap
def acode (E : Env) (cf : CallF) (n : Nat) : Nat → Code → Slots → Heap → Option Out
  | 0, _, _, _ => none
  | k + 1, c, s, h =>
    match c with
    | .skip | .label _ => some (.normal, s, h)
    | .region _ ops draw =>
      if draw = true ∧ orderOk E ops.toList = false then none else
      match aops E (fun _ => cf) draw (if draw then aheads ops.toList else []) n ops ops.toList 0 s h with
      | some (s', h') => some (.normal, s', h')
      | none => none
    | .seq a b =>
      match acode E cf n k a s h with
      | some (.normal, s', h') => acode E cf n k b s' h'
      | some (e, s', h') => some (e, s', h')
      | none => none
    | .cond c a b =>
      match ev s c with
      | some (.bool t) => acode E cf n k (if t then a else b) s h
      | _ => none
    | .block id body =>
      match acode E cf n k body s h with
      | some (.exit j, s', h') => if j = id then some (.normal, s', h') else some (.exit j, s', h')
      | r => r
    | .loop body =>
      match acode E cf n k body s h with
      | some (.normal, s', h') => acode E cf n k (.loop body) s' h'
      | r => r
    | .exit id => some (.exit id, s, h)
    | .ret => some (.ret, s, h)
    | _ => none
def isTuple : Value → Bool
  | .tuple _ => true
  | .chan _ => true
  | _ => false
def ares1 (E : Env) (s : Slots) (h : Heap) : ResultVar → Option Value
  | .tmp t => if isTuple (s t) = true then none else some (s t)
  | .cell a t => match aload E t (s a) h with
    | some v => if isTuple v = true then none else some v
    | none => none
def ares (E : Env) (s : Slots) (h : Heap) : List ResultVar → Option (List Value)
  | [] => some []
  | r :: l => match ares1 E s h r, ares E s h l with
    | some v, some vs => some (v :: vs)
    | _, _ => none
def outOf (vs : List Value) : Value :=
  match vs with
  | [v] => v
  | _ => .tuple vs.toArray
def slots0 (args : List Value) : Slots := fun i => args.getD i undef
def finish (E : Env) (fn : Func) : Option Out → Option (Value × Heap)
  | some (.normal, s, h) | some (.ret, s, h) => match ares E s h fn.results.toList with
    | some vs => some (outOf vs, h)
    | none => none
  | _ => none
def acall (E : Env) : Nat → CallF
  | 0, _, _, _ => none
  | k + 1, f, args, h =>
    match E.funcs f with
    | some fn =>
      match fn.body with
      | some c => if args.length ≤ fn.ntmps then finish E fn (acode E (acall E k) fn.ntmps k c (slots0 args) h) else none
      | none => none
    | none => none
end Go.Fw
