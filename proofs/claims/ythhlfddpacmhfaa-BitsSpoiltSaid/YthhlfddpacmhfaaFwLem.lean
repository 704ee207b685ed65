/- Rules by the operation's kind, for proofs that are printed. -/
import Derived.Test.YthhlfddpacmhfaaFwWp
import Derived.KernelRfl
namespace Go.Fw
open Go.RowKit

section
variable {E : Env} {n : Nat} {s : Slots} {h : Heap}
variable {draw : Bool} {A : List (List Nat)} {ops : Array Oper} {i : Nat} {K : Slots → Heap → Prop}
/-- A value, memory as it was. -/
theorem WpOps.keep {o : Oper} {l : List Oper} (d : Nat) (v : Value) (ho : o.dst = some d) (hd : dstOk n o = true) (hw : wants ops o s = true) (hr : WpOps E n draw A ops l (i + 1) (upd s d v) h K) (hop : ∀ cf, aop E cf o.op s h = some (v, h)) : WpOps E n draw A ops (o :: l) i s h K :=
  WpOps.cons hop hd hw (by rw [put_some ho]; exact hr)
/-- A value, memory changed. -/
theorem WpOps.chg {o : Oper} {l : List Oper} (d : Nat) (v : Value) (h1 : Heap) (ho : o.dst = some d) (hd : dstOk n o = true) (hw : wants ops o s = true) (hr : WpOps E n draw A ops l (i + 1) (upd s d v) h1 K) (hop : ∀ cf, aop E cf o.op s h = some (v, h1)) : WpOps E n draw A ops (o :: l) i s h K :=
  WpOps.cons hop hd hw (by rw [put_some ho]; exact hr)
/-- A new block. -/
theorem WpOps.made {o : Oper} {l : List Oper} (d : Nat) (v : Value) (x : Blk) (ho : o.dst = some d) (hd : dstOk n o = true) (hw : wants ops o s = true) (hr : WpOps E n draw A ops l (i + 1) (upd s d v) (h.alloc x) K) (hop : ∀ cf, aop E cf o.op s h = some (v, h.alloc x)) : WpOps E n draw A ops (o :: l) i s h K :=
  WpOps.cons hop hd hw (by rw [put_some ho]; exact hr)
/-- No value. -/
theorem WpOps.chg0 {o : Oper} {l : List Oper} (v : Value) (h1 : Heap) (ho : o.dst = none) (hd : dstOk n o = true) (hw : wants ops o s = true) (hr : WpOps E n draw A ops l (i + 1) s h1 K) (hop : ∀ cf, aop E cf o.op s h = some (v, h1)) : WpOps E n draw A ops (o :: l) i s h K :=
  WpOps.cons hop hd hw (by rw [put_none ho]; exact hr)
theorem WpOps.laid {o : Oper} {l : List Oper} (v : Value) (b : Nat) (x : Blk) (ho : o.dst = none) (hd : dstOk n o = true) (hw : wants ops o s = true) (hr : WpOps E n draw A ops l (i + 1) s (h.set b (some x)) K) (hop : ∀ cf, aop E cf o.op s h = some (v, h.set b (some x))) : WpOps E n draw A ops (o :: l) i s h K :=
  WpOps.cons hop hd hw (by rw [put_none ho]; exact hr)
theorem WpOps.unmet {o : Oper} {l : List Oper} (d : Nat) (ho : o.dst = some d) (hd : dstOk n o = true) (hw : wants ops o s = false) (hr : WpOps E n draw A ops l (i + 1) (upd s d undef) h K) : WpOps E n draw A ops (o :: l) i s h K :=
  WpOps.skip hw hd (by rw [put_some ho]; exact hr)
theorem WpOps.unmet0 {o : Oper} {l : List Oper} (ho : o.dst = none) (hd : dstOk n o = true) (hw : wants ops o s = false) (hr : WpOps E n draw A ops l (i + 1) s h K) : WpOps E n draw A ops (o :: l) i s h K :=
  WpOps.skip hw hd (by rw [put_none ho]; exact hr)
theorem WpOps.called {o : Oper} {l : List Oper} (d : Nat) (f : FuncId) (args : List Value) (ho : o.dst = some d) (hd : dstOk n o = true) (hw : wants ops o s = true) (hro : (draw && roAt E A ops.toList i o) = false) (hop : ∀ cf : CallF, aop E cf o.op s h = cf f args h) (hc : WpCall E f args h fun v h1 => WpOps E n draw A ops l (i + 1) (upd s d v) h1 K) : WpOps E n draw A ops (o :: l) i s h K :=
  WpOps.call hop hro hd hw (by simpa only [put_some ho] using hc)
theorem WpOps.called0 {o : Oper} {l : List Oper} (f : FuncId) (args : List Value) (ho : o.dst = none) (hd : dstOk n o = true) (hw : wants ops o s = true) (hro : (draw && roAt E A ops.toList i o) = false) (hop : ∀ cf : CallF, aop E cf o.op s h = cf f args h) (hc : WpCall E f args h fun _ h1 => WpOps E n draw A ops l (i + 1) s h1 K) : WpOps E n draw A ops (o :: l) i s h K :=
  WpOps.call hop hro hd hw (by simpa only [put_none ho] using hc)
theorem WpOps.framed {o : Oper} {l : List Oper} (d : Nat) (f : FuncId) (args : List Value) (ho : o.dst = some d) (hd : dstOk n o = true) (hw : wants ops o s = true) (hro : (draw && roAt E A ops.toList i o) = false) (hf : args.all flat = true) (hop : ∀ cf : CallF, aop E cf o.op s h = frameCall cf f args h) (hc : WpCall E f args Heap.none fun v _ => noPtr v = true ∧ WpOps E n draw A ops l (i + 1) (upd s d v) h K) : WpOps E n draw A ops (o :: l) i s h K :=
  WpOps.frame hop hf hro hd hw (by simpa only [put_some ho] using hc)
theorem WpOps.calledro {o : Oper} {l : List Oper} (d : Nat) (f : FuncId) (args : List Value) (ho : o.dst = some d) (hd : dstOk n o = true) (hw : wants ops o s = true) (hro : (draw && roAt E A ops.toList i o) = true) (hop : ∀ cf : CallF, aop E cf o.op s h = cf f args h) (hc : WpCall E f args h.ro fun v h1 => WpOps E n draw A ops l (i + 1) (upd s d v) (h.merge h1) K) : WpOps E n draw A ops (o :: l) i s h K :=
  WpOps.call_ro hop hro hd hw (by simpa only [put_some ho] using hc)
end

section
variable {E : Env} {n : Nat} {s : Slots} {h : Heap} {K : AExit → Slots → Heap → Prop}
theorem thenK_at {N : Slots → Heap → Prop} (hk : N s h) : thenK N K .normal s h := hk
theorem thenK_exit {N : Slots → Heap → Prop} {i : Nat} (hk : K (.exit i) s h) : thenK N K (.exit i) s h := hk
theorem thenK_ret {N : Slots → Heap → Prop} (hk : K .ret s h) : thenK N K .ret s h := hk
theorem blockK_norm {id : Nat} (hk : K .normal s h) : blockK id K .normal s h := hk
theorem blockK_ret {id : Nat} (hk : K .ret s h) : blockK id K .ret s h := hk
theorem blockK_hit {id : Nat} (hk : K .normal s h) : blockK id K (.exit id) s h := by simp only [blockK, if_true]; exact hk
theorem blockK_miss {id i : Nat} (hi : i ≠ id) (hk : K (.exit i) s h) : blockK id K (.exit i) s h := by simp only [blockK, if_neg hi]; exact hk
theorem endK_norm {fn : Func} {K : Value → Heap → Prop} (vs : List Value) (hv : ares E s h fn.results.toList = some vs) (hk : K (outOf vs) h) : endK E fn K .normal s h := ⟨vs, hv, hk⟩
theorem endK_retn {fn : Func} {K : Value → Heap → Prop} (vs : List Value) (hv : ares E s h fn.results.toList = some vs) (hk : K (outOf vs) h) : endK E fn K .ret s h := ⟨vs, hv, hk⟩
theorem Wp.on {c : Operand} {a b : Code} (hc : ev s c = some (.bool true)) (hw : Wp E n a s h K) : Wp E n (.cond c a b) s h K := Wp.cond hc hw
theorem Wp.off {c : Operand} {a b : Code} (hc : ev s c = some (.bool false)) (hw : Wp E n b s h K) : Wp E n (.cond c a b) s h K := Wp.cond hc hw
theorem Wp.unroll {b : Code} (hw : Wp E n b s h (thenK (fun s h => Wp E n (.loop b) s h K) K)) : Wp E n (.loop b) s h K := by
  obtain ⟨x, s1, h1, r, k⟩ := hw
  cases x with
  | normal =>
    obtain ⟨x, s2, h2, r2, k2⟩ := k
    exact ⟨x, s2, h2, r.loop r2, k2⟩
  | exit id => exact ⟨_, s1, h1, r.loop_exit, k⟩
  | ret => exact ⟨_, s1, h1, r.loop_ret, k⟩
end

theorem by_fact {e c : Bool} {X : Option (Value × Heap)} {h : Heap} (hf : e = c) (hx : X = some (.bool e, h)) : X = some (.bool c, h) := by rw [← hf]; exact hx

/-- Slots that hold these. -/
def lay : List (Nat × Value) → Slots → Slots
  | [], s => s
  | (d, v) :: r, s => upd (lay r s) d v
def Holds (s : Slots) : List (Nat × Value) → Prop
  | [] => True
  | (d, v) :: r => s d = v ∧ Holds s r
theorem lay_self {s : Slots} : ∀ {l : List (Nat × Value)}, Holds s l → s = lay l s
  | [], _ => rfl
  | (d, v) :: r, h => by
    obtain ⟨h1, h2⟩ := h
    have ih := lay_self h2
    simp only [lay]
    rw [← ih]
    funext i
    simp only [upd]
    split
    · rename_i e; subst e; exact h1
    · rfl

/-! ## operations with a test -/
def vSlice : Option Value → Option (Option Addr × Nat)
  | Option.some (.slice a n _) => Option.some (a, n)
  | _ => Option.none
def vInt : Option Value → Option Int
  | Option.some (.int _ i) => Option.some i
  | _ => Option.none
theorem vSlice_eq {o : Option Value} {a : Option Addr} {n : Nat} (ho : vSlice o = some (a, n)) : ∃ c, o = some (.slice a n c) := by
  unfold vSlice at ho
  split at ho
  · cases ho; exact ⟨_, rfl⟩
  · cases ho
theorem vInt_eq {o : Option Value} {i : Int} (ho : vInt o = some i) : ∃ k, o = some (.int k i) := by
  unfold vInt at ho
  split at ho
  · cases ho; exact ⟨_, rfl⟩
  · cases ho

section
variable {E : Env} {cf : CallF} {s : Slots} {h : Heap} {x y : Operand} {t p : TypeId} {k : IntKind} {a b : Int}
theorem o_rem (h0 : ¬ b = 0) (hx : ev s x = some (.int k a)) (hy : ev s y = some (.int k b)) : aop E cf (.binOp .rem t x y p) s h = some (.int k (a.tmod b), h) := by
  simp only [aop, hx, hy, abin, aint, if_true, if_neg h0, keep_some_eq]
theorem o_quo (h0 : ¬ b = 0) (hx : ev s x = some (.int k a)) (hy : ev s y = some (.int k b)) : aop E cf (.binOp .quo t x y p) s h = some (.int k (k.wrap (a.tdiv b)), h) := by
  simp only [aop, hx, hy, abin, aint, if_true, if_neg h0, keep_some_eq]
theorem o_shl (h0 : ¬ b < 0) (hx : ev s x = some (.int k a)) (hy' : vInt (ev s y) = some b) : aop E cf (.binOp .shl t x y p) s h = some (.int k (k.wrap (a * 2 ^ min b.toNat k.bits)), h) := by
  obtain ⟨k', hy⟩ := vInt_eq hy'
  simp only [aop, hx, hy, abin, if_neg h0, keep_some_eq]
theorem o_shr (h0 : ¬ b < 0) (hx : ev s x = some (.int k a)) (hy' : vInt (ev s y) = some b) : aop E cf (.binOp .shr t x y p) s h = some (.int k (a.fdiv (2 ^ min b.toNat k.bits)), h) := by
  obtain ⟨k', hy⟩ := vInt_eq hy'
  simp only [aop, hx, hy, abin, if_neg h0, keep_some_eq]
theorem o_indexAddr {bl off size : Nat} (e : TypeId) (m : Nat) (h0 : 0 ≤ a ∧ a < m) (hx' : vSlice (ev s x) = some (some ⟨bl, off, none⟩, m)) (hy' : vInt (ev s y) = some a) (ht : (E.types t).map TI.desc = some (.slice e)) (he : (E.types e).map TI.size = some size) : aop E cf (.indexAddr t x y) s h = some (.pointer (some ⟨bl, off + a.toNat * size, none⟩), h) := by
  obtain ⟨ti, h1, h2⟩ := Option.map_eq_some_iff.1 ht
  obtain ⟨te, h3, h4⟩ := Option.map_eq_some_iff.1 he
  subst h4
  obtain ⟨c, hx⟩ := vSlice_eq hx'
  obtain ⟨k, hy⟩ := vInt_eq hy'
  simp only [aop, hx, hy, aindexAddr, h1, h2, h3, if_pos h0, keep_some_eq]
theorem o_load1 {v : Value} {cells : List Value} (bl off : Nat) (hv : cells[off]? = some v) (hx : ev s x = some (.pointer (some ⟨bl, off, none⟩))) (ht : (E.types t).map (fun i => aggD i.desc) = some false) (hb : (h.get bl).map Blk.cells = some cells) : aop E cf (.load t x) s h = some (v, h) := by
  obtain ⟨ti, h1, h2⟩ := Option.map_eq_some_iff.1 ht
  obtain ⟨blk, h3, h4⟩ := Option.map_eq_some_iff.1 hb
  subst h4
  simp only [aop, hx, aload, h1, h3, h2, Bool.false_eq_true, if_false, hv, keep_some_eq]
theorem o_store1 (bl off : Nat) {v : Value} {cells : List Value} {el : TypeId} (hl' : true = true ∧ off + [v].length ≤ cells.length) (hx : ev s x = some (.pointer (some ⟨bl, off, none⟩))) (hy : ev s y = some v) (hc : cellsOf v = some [v]) (ht : (E.types t).map TI.size = some 1) (hb : h.get bl = some ⟨el, true, cells⟩) : aop E cf (.store t x y) s h = some (undef, h.set bl (some ⟨el, true, cells.set off v⟩)) := by
  obtain ⟨ti, h1, h2⟩ := Option.map_eq_some_iff.1 ht
  have : True ∧ off + 1 ≤ cells.length := ⟨trivial, hl'.2⟩
  simp only [aop, hx, hy, astore, h1, hc, h2, List.length_singleton, if_true, awrite, hb]
  rw [if_pos this]
  rfl
theorem o_bytes {src dst : TypeId} (e : TypeId) (bl off m : Nat) {l : List UInt8} {cells : List Value} (hl : off + m ≤ cells.length) (hc : cellBytes ((cells.drop off).take m) = some l) (hx' : vSlice (ev s x) = some (some ⟨bl, off, none⟩, m)) (hs : (E.types src).map TI.desc = some (.slice e)) (hd : (E.types dst).map TI.desc = some .string) (he : (E.types e).map TI.desc = some (.int .u8)) (hb : (h.get bl).map Blk.cells = some cells) : aop E cf (.convert src dst x) s h = some (.string ⟨l.toArray⟩, h) := by
  obtain ⟨ts, h1, h2⟩ := Option.map_eq_some_iff.1 hs
  obtain ⟨td, h5, h6⟩ := Option.map_eq_some_iff.1 hd
  obtain ⟨te, h3, h4⟩ := Option.map_eq_some_iff.1 he
  obtain ⟨blk, h7, h8⟩ := Option.map_eq_some_iff.1 hb
  subst h8
  obtain ⟨c, hx⟩ := vSlice_eq hx'
  simp only [aop, hx, aconvert, h1, h2, h5, h6, h3, h4, h7, cellsAt, if_pos hl, hc, Option.map_some]
theorem o_indexStr {b' : UInt8} {str : ByteArray} (h0 : 0 ≤ a) (hb : str[a.toNat]? = some b') (hx : ev s x = some (.string str)) (hy' : vInt (ev s y) = some a) (ht : (E.types t).map TI.desc = some .string) : aop E cf (.index t x y) s h = some (.int .u8 b'.toNat, h) := by
  obtain ⟨ti, h1, h2⟩ := Option.map_eq_some_iff.1 ht
  obtain ⟨k, hy⟩ := vInt_eq hy'
  simp only [aop, hx, hy, aindex, h1, h2, if_pos h0, hb, Option.map_some, keep_some_eq]
theorem o_add {u v : ByteArray} (hs : ((u.size + v.size : Nat) : Int) ≤ 9223372036854775807) (hx : ev s x = some (.string u)) (hy : ev s y = some (.string v)) : aop E cf (.binOp .add t x y p) s h = some (.string (u ++ v), h) := by
  simp only [aop, hx, hy, abin, astr, if_pos hs, keep_some_eq]
theorem o_cut_hi {str : ByteArray} (h0 : 0 ≤ a ∧ a ≤ str.size) (hx : ev s x = some (.string str)) (hy' : vInt (ev s y) = some a) (ht : (E.types t).map TI.desc = some .string) : aop E cf (.slice t x none (some y) none) s h = some (.string (str.extract 0 a.toNat), h) := by
  obtain ⟨ti, h1, h2⟩ := Option.map_eq_some_iff.1 ht
  obtain ⟨k, hy⟩ := vInt_eq hy'
  simp only [aop, hx, hy, evo, Option.map_some, aslice, h1, h2, abound, if_pos h0, keep_some_eq]
theorem o_cut_lo {str : ByteArray} (h0 : 0 ≤ a ∧ a ≤ str.size) (hx : ev s x = some (.string str)) (hy' : vInt (ev s y) = some a) (ht : (E.types t).map TI.desc = some .string) : aop E cf (.slice t x (some y) none none) s h = some (.string (str.extract a.toNat str.size), h) := by
  obtain ⟨ti, h1, h2⟩ := Option.map_eq_some_iff.1 ht
  obtain ⟨k, hy⟩ := vInt_eq hy'
  simp only [aop, hx, hy, evo, Option.map_some, aslice, h1, h2, abound, if_pos h0, keep_some_eq]
end

end Go.Fw
