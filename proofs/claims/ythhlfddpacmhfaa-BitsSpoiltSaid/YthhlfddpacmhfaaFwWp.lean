/- Steps through code, towards what is wanted at the end. -/
import Derived.Test.YthhlfddpacmhfaaFwRun
namespace Go.Fw
open Go.RowKit

/-- The environment of a program. -/
def envOf (P : Program) : Env where
  types t := match P.underlying t, P.info? t with
    | some d, some i => match i.zero with
      | some z => if z.cells.toList.length = i.size ∧ z.cells.toList.all okConst = true then some ⟨d, i.size, i.bytes, z.cells.toList⟩ else none
      | none => none
    | _, _ => none
  funcs f := match P.funcs[f]? with
    | some fn => if (fn.name == "runtime.NumGoroutine") = true then none else some fn
    | none => none
  frame _ := false

/-- The same; the calls of these functions run in memories of their own. -/
def envWith (P : Program) (fs : List FuncId) : Env := { envOf P with frame := fun f => fs.contains f }

theorem envOf_ok {P : Program} (hm : P.follows .mixedOrders = true) (fs : List FuncId) : EnvOk (envWith P fs) P := by
  show EnvOk { envOf P with frame := fun f => fs.contains f } P
  refine ⟨fun t i hi => ?_, fun f fn hf => ?_, hm⟩
  · simp only [envOf] at hi
    split at hi
    · rename_i d ti h1 h2
      split at hi
      · rename_i z hz
        split at hi
        · rename_i hc
          obtain rfl := Option.some.inj hi
          exact ⟨h1, ti, z, h2, rfl, rfl, hz, rfl, hc.1, hc.2⟩
        · cases hi
      · cases hi
    · cases hi
  · simp only [envOf] at hf
    split at hf
    · rename_i fn' h1
      split at hf
      · cases hf
      · rename_i hn
        obtain rfl := Option.some.inj hf
        exact ⟨h1, by simpa using hn⟩
    · cases hf

section
variable (E : Env) (n : Nat)

def Wp (c : Code) (s : Slots) (h : Heap) (K : AExit → Slots → Heap → Prop) : Prop := ∃ x s' h', Run E n c s h (x, s', h') ∧ K x s' h'
def WpOps (draw : Bool) (A : List (List Nat)) (ops : Array Oper) (l : List Oper) (i : Nat) (s : Slots) (h : Heap) (K : Slots → Heap → Prop) : Prop := ∃ s' h', RunOps E draw A n ops l i s h (s', h') ∧ K s' h'
def WpCall (f : FuncId) (args : List Value) (h : Heap) (K : Value → Heap → Prop) : Prop := ∃ v h', Call E f args h (v, h') ∧ K v h'
end

section
variable {E : Env} {n : Nat} {s : Slots} {h : Heap} {K : AExit → Slots → Heap → Prop}

theorem Wp.mono {c : Code} {K' : AExit → Slots → Heap → Prop} (hw : Wp E n c s h K) (hk : ∀ x s h, K x s h → K' x s h) : Wp E n c s h K' := let ⟨x, s', h', r, k⟩ := hw; ⟨x, s', h', r, hk _ _ _ k⟩
theorem WpCall.mono {f : FuncId} {args : List Value} {K K' : Value → Heap → Prop} (hw : WpCall E f args h K) (hk : ∀ v h, K v h → K' v h) : WpCall E f args h K' := let ⟨v, h', r, k⟩ := hw; ⟨v, h', r, hk _ _ k⟩

/-- What follows, if nothing left. -/
def thenK (N : Slots → Heap → Prop) (K : AExit → Slots → Heap → Prop) : AExit → Slots → Heap → Prop
  | .normal, s, h => N s h
  | x, s, h => K x s h
def blockK (id : Nat) (K : AExit → Slots → Heap → Prop) : AExit → Slots → Heap → Prop
  | .exit i, s, h => if i = id then K .normal s h else K (.exit i) s h
  | x, s, h => K x s h

theorem Wp.skip (hk : K .normal s h) : Wp E n .skip s h K := ⟨_, _, _, Run.skip, hk⟩
theorem Wp.label {l : Nat} (hk : K .normal s h) : Wp E n (.label l) s h K := ⟨_, _, _, Run.label, hk⟩
theorem Wp.exit {id : Nat} (hk : K (.exit id) s h) : Wp E n (.exit id) s h K := ⟨_, _, _, Run.exit, hk⟩
theorem Wp.ret (hk : K .ret s h) : Wp E n .ret s h K := ⟨_, _, _, Run.ret, hk⟩
theorem Wp.seq {a b : Code} (hw : Wp E n a s h (thenK (fun s h => Wp E n b s h K) K)) : Wp E n (.seq a b) s h K := by
  obtain ⟨x, s1, h1, r, k⟩ := hw
  cases x with
  | normal =>
    obtain ⟨x, s2, h2, r2, k2⟩ := k
    exact ⟨x, s2, h2, r.seq r2, k2⟩
  | exit id => exact ⟨_, s1, h1, r.seq_exit, k⟩
  | ret => exact ⟨_, s1, h1, r.seq_ret, k⟩
theorem Wp.cond {c : Operand} {a b : Code} {t : Bool} (hc : ev s c = some (.bool t)) (hw : Wp E n (bif t then a else b) s h K) : Wp E n (.cond c a b) s h K := by
  obtain ⟨x, s1, h1, r, k⟩ := hw
  exact ⟨x, s1, h1, Run.cond hc r, k⟩
theorem Wp.block {id : Nat} {b : Code} (hw : Wp E n b s h (blockK id K)) : Wp E n (.block id b) s h K := by
  obtain ⟨x, s1, h1, r, k⟩ := hw
  cases x with
  | normal => exact ⟨_, s1, h1, r.block_normal, k⟩
  | ret => exact ⟨_, s1, h1, r.block_ret, k⟩
  | exit i =>
    refine ⟨_, s1, h1, r.block_exit, ?_⟩
    simp only [blockK] at k
    split
    · rename_i hi
      rwa [if_pos hi] at k
    · rename_i hi
      rwa [if_neg hi] at k
/-- A loop: what holds at the head of each round, and a number that falls. -/
theorem Wp.loop {b : Code} (I : Nat → Slots → Heap → Prop) (m : Nat) (h0 : I m s h) (hr : ∀ m s h, I m s h → Wp E n b s h (thenK (fun s h => ∃ m', m' < m ∧ I m' s h) K)) : Wp E n (.loop b) s h K := by
  induction m using Nat.strongRecOn generalizing s h with
  | _ m ih =>
    obtain ⟨x, s1, h1, r, k⟩ := hr m s h h0
    cases x with
    | normal =>
      obtain ⟨m', hm, hI⟩ := k
      obtain ⟨x, s2, h2, r2, k2⟩ := ih m' hm hI
      exact ⟨x, s2, h2, r.loop r2, k2⟩
    | exit id => exact ⟨_, s1, h1, r.loop_exit, k⟩
    | ret => exact ⟨_, s1, h1, r.loop_ret, k⟩
theorem Wp.region {id : Nat} {ops : Array Oper} {draw : Bool} (ho : (!draw || orderOk E ops.toList) = true) (hw : WpOps E n draw (if draw then aheads ops.toList else []) ops ops.toList 0 s h (fun s h => K .normal s h)) : Wp E n (.region id ops draw) s h K := by
  obtain ⟨s1, h1, r, k⟩ := hw
  exact ⟨_, s1, h1, Run.region ho r, k⟩
/-- A region in the text's order. -/
theorem Wp.text {id : Nat} {ops : Array Oper} (hw : WpOps E n false [] ops ops.toList 0 s h (fun s h => K .normal s h)) : Wp E n (.region id ops false) s h K := Wp.region rfl hw

section
variable {draw : Bool} {A : List (List Nat)} {ops : Array Oper} {i : Nat} {K : Slots → Heap → Prop}
theorem WpOps.nil (hk : K s h) : WpOps E n draw A ops [] i s h K := ⟨_, _, RunOps.nil, hk⟩
theorem WpOps.cons {o : Oper} {l : List Oper} {v : Value} {h1 : Heap} (hop : ∀ cf, aop E cf o.op s h = some (v, h1)) (hd : dstOk n o = true) (hw : wants ops o s = true) (hr : WpOps E n draw A ops l (i + 1) (put o v s) h1 K) : WpOps E n draw A ops (o :: l) i s h K := by
  obtain ⟨s1, h2, r, k⟩ := hr
  exact ⟨s1, h2, RunOps.cons hd hw (RunOp.of hop) r, k⟩
theorem WpOps.skip {o : Oper} {l : List Oper} (hw : wants ops o s = false) (hd : dstOk n o = true) (hr : WpOps E n draw A ops l (i + 1) (put o undef s) h K) : WpOps E n draw A ops (o :: l) i s h K := by
  obtain ⟨s1, h2, r, k⟩ := hr
  exact ⟨s1, h2, RunOps.skip hd hw r, k⟩
theorem WpOps.call {o : Oper} {l : List Oper} {f : FuncId} {args : List Value} (hop : ∀ cf : CallF, aop E cf o.op s h = cf f args h) (hro : (draw && roAt E A ops.toList i o) = false) (hd : dstOk n o = true) (hw : wants ops o s = true) (hc : WpCall E f args h fun v h1 => WpOps E n draw A ops l (i + 1) (put o v s) h1 K) : WpOps E n draw A ops (o :: l) i s h K := by
  obtain ⟨v, h1, rc, s1, h2, r, k⟩ := hc
  exact ⟨s1, h2, RunOps.cons hd hw (by rw [hro]; exact RunOp.call hop rc) r, k⟩
theorem WpOps.frame {o : Oper} {l : List Oper} {f : FuncId} {args : List Value} (hop : ∀ cf : CallF, aop E cf o.op s h = frameCall cf f args h) (hf : args.all flat = true) (hro : (draw && roAt E A ops.toList i o) = false) (hd : dstOk n o = true) (hw : wants ops o s = true) (hc : WpCall E f args Heap.none fun v _ => noPtr v = true ∧ WpOps E n draw A ops l (i + 1) (put o v s) h K) : WpOps E n draw A ops (o :: l) i s h K := by
  obtain ⟨v, h1, rc, hv, s1, h2, r, k⟩ := hc
  exact ⟨s1, h2, RunOps.cons hd hw (by rw [hro]; exact RunOp.framed hop hf rc hv) r, k⟩
theorem WpOps.call_ro {o : Oper} {l : List Oper} {f : FuncId} {args : List Value} (hop : ∀ cf : CallF, aop E cf o.op s h = cf f args h) (hro : (draw && roAt E A ops.toList i o) = true) (hd : dstOk n o = true) (hw : wants ops o s = true) (hc : WpCall E f args h.ro fun v h1 => WpOps E n draw A ops l (i + 1) (put o v s) (h.merge h1) K) : WpOps E n draw A ops (o :: l) i s h K := by
  obtain ⟨v, h1, rc, s1, h2, r, k⟩ := hc
  exact ⟨s1, h2, RunOps.cons hd hw (by rw [hro]; exact RunOp.call_ro hop rc) r, k⟩
end

/-- At a function's end. -/
def endK (E : Env) (fn : Func) (K : Value → Heap → Prop) : AExit → Slots → Heap → Prop
  | .normal, s, h | .ret, s, h => ∃ vs, ares E s h fn.results.toList = some vs ∧ K (outOf vs) h
  | .exit _, _, _ => False

theorem WpCall.of {f : FuncId} {fn : Func} {c : Code} {args : List Value} {K : Value → Heap → Prop} (hf : E.funcs f = some fn) (hb : fn.body = some c) (hl : args.length ≤ fn.ntmps) (hw : Wp E fn.ntmps c (slots0 args) h (endK E fn K)) : WpCall E f args h K := by
  obtain ⟨x, s, h1, r, k⟩ := hw
  cases x with
  | normal =>
    obtain ⟨vs, hv, k⟩ := k
    exact ⟨_, _, Call.of hf hb hl r (.inl rfl) hv, k⟩
  | ret =>
    obtain ⟨vs, hv, k⟩ := k
    exact ⟨_, _, Call.of hf hb hl r (.inr rfl) hv, k⟩
  | exit => exact k.elim

theorem WpCall.calls {P : Program} (ok : EnvOk E P) {f : FuncId} {args : List Value} {K : Value → Heap → Prop} (hc : WpCall E f args h K) {μ : Place} {base : Nat} {w : World} {args' : Array Value} (R : Rel E h μ w.heap base) (hbase : base ≤ w.heap.size) (ha : All2 (VRel E h μ w.heap) args args'.toList) :
    Calls P f args' w fun e w' => ∃ v h' v' μ', K v h' ∧ e = .returned v' ∧ Rel E h' μ' w'.heap base ∧ Ext h μ w.heap h' μ' w'.heap ∧ Below base w w' ∧ VRel E h' μ' w'.heap v v' := by
  obtain ⟨v, h', hc, k⟩ := hc
  exact Calls.mono (hc.calls ok R hbase ha) fun e w' ⟨v', μ', h1, h2⟩ => ⟨v, h', v', μ', k, h1, h2⟩
end

theorem keep_some_eq (h : Heap) (v : Value) : keep h (some v) = some (v, h) := rfl
theorem put_none {o : Oper} {v : Value} {s : Slots} (ho : o.dst = none) : put o v s = s := by unfold put; rw [ho]
theorem put_some {o : Oper} {v : Value} {s : Slots} {d : Nat} (ho : o.dst = some d) : put o v s = upd s d v := by unfold put; rw [ho]

end Go.Fw
