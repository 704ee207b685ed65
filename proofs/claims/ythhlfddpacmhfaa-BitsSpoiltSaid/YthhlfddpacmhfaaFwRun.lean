/- What our machine comes to, whatever the fuel, if there is enough. -/
import Derived.Test.YthhlfddpacmhfaaFwCode
namespace Go.Fw
open Go.RowKit

section
variable {E : Env} {n : Nat}

/-- A call comes to r. -/
def Call (E : Env) (f : FuncId) (args : List Value) (h : Heap) (r : Value × Heap) : Prop := ∃ N, ∀ k, N ≤ k → acall E k f args h = some r
/-- Code comes to o. -/
def Run (E : Env) (n : Nat) (c : Code) (s : Slots) (h : Heap) (o : Out) : Prop := ∃ N, ∀ k j, N ≤ k → N ≤ j → acode E (acall E j) n k c s h = some o
/-- An operation. -/
def RunOp (E : Env) (ro : Bool) (op : Op) (s : Slots) (h : Heap) (r : Value × Heap) : Prop := ∃ N, ∀ j, N ≤ j → aop E (if ro then roCall (acall E j) else acall E j) op s h = some r
/-- Operations. -/
def RunOps (E : Env) (draw : Bool) (A : List (List Nat)) (n : Nat) (ops : Array Oper) (l : List Oper) (i : Nat) (s : Slots) (h : Heap) (r : Slots × Heap) : Prop := ∃ N, ∀ j, N ≤ j → aops E (acall E j) draw A n ops l i s h = some r

theorem Run.skip {s : Slots} {h : Heap} : Run E n .skip s h (.normal, s, h) := ⟨1, fun k j hk _ => by obtain ⟨k, rfl⟩ : ∃ m, k = m + 1 := ⟨k - 1, by omega⟩; rfl⟩
theorem Run.label {l : Nat} {s : Slots} {h : Heap} : Run E n (.label l) s h (.normal, s, h) := ⟨1, fun k j hk _ => by obtain ⟨k, rfl⟩ : ∃ m, k = m + 1 := ⟨k - 1, by omega⟩; rfl⟩
theorem Run.exit {id : Nat} {s : Slots} {h : Heap} : Run E n (.exit id) s h (.exit id, s, h) := ⟨1, fun k j hk _ => by obtain ⟨k, rfl⟩ : ∃ m, k = m + 1 := ⟨k - 1, by omega⟩; rfl⟩
theorem Run.ret {s : Slots} {h : Heap} : Run E n .ret s h (.ret, s, h) := ⟨1, fun k j hk _ => by obtain ⟨k, rfl⟩ : ∃ m, k = m + 1 := ⟨k - 1, by omega⟩; rfl⟩
theorem Run.seq {a b : Code} {s s1 : Slots} {h h1 : Heap} {o : Out} (ha : Run E n a s h (.normal, s1, h1)) (hb : Run E n b s1 h1 o) : Run E n (.seq a b) s h o := by
  obtain ⟨N, ha⟩ := ha
  obtain ⟨M, hb⟩ := hb
  refine ⟨N + M + 1, fun k j hk hj => ?_⟩
  obtain ⟨k, rfl⟩ : ∃ m, k = m + 1 := ⟨k - 1, by omega⟩
  simp only [acode, ha k j (by omega) (by omega)]
  exact hb k j (by omega) (by omega)
theorem Run.seq_exit {a b : Code} {s s1 : Slots} {h h1 : Heap} {id : Nat} (ha : Run E n a s h (.exit id, s1, h1)) : Run E n (.seq a b) s h (.exit id, s1, h1) := by
  obtain ⟨N, ha⟩ := ha
  refine ⟨N + 1, fun k j hk hj => ?_⟩
  obtain ⟨k, rfl⟩ : ∃ m, k = m + 1 := ⟨k - 1, by omega⟩
  simp only [acode, ha k j (by omega) (by omega)]
theorem Run.seq_ret {a b : Code} {s s1 : Slots} {h h1 : Heap} (ha : Run E n a s h (.ret, s1, h1)) : Run E n (.seq a b) s h (.ret, s1, h1) := by
  obtain ⟨N, ha⟩ := ha
  refine ⟨N + 1, fun k j hk hj => ?_⟩
  obtain ⟨k, rfl⟩ : ∃ m, k = m + 1 := ⟨k - 1, by omega⟩
  simp only [acode, ha k j (by omega) (by omega)]
theorem Run.cond {c : Operand} {a b : Code} {t : Bool} {s : Slots} {h : Heap} {o : Out} (hc : ev s c = some (.bool t)) (hr : Run E n (bif t then a else b) s h o) : Run E n (.cond c a b) s h o := by
  obtain ⟨N, hr⟩ := hr
  refine ⟨N + 1, fun k j hk hj => ?_⟩
  obtain ⟨k, rfl⟩ : ∃ m, k = m + 1 := ⟨k - 1, by omega⟩
  have := hr k j (by omega) (by omega)
  simp only [acode, hc]
  cases t <;> exact this
theorem Run.block_normal {id : Nat} {b : Code} {s s1 : Slots} {h h1 : Heap} (hr : Run E n b s h (.normal, s1, h1)) : Run E n (.block id b) s h (.normal, s1, h1) := by
  obtain ⟨N, hr⟩ := hr
  refine ⟨N + 1, fun k j hk hj => ?_⟩
  obtain ⟨k, rfl⟩ : ∃ m, k = m + 1 := ⟨k - 1, by omega⟩
  simp only [acode, hr k j (by omega) (by omega)]
theorem Run.block_ret {id : Nat} {b : Code} {s s1 : Slots} {h h1 : Heap} (hr : Run E n b s h (.ret, s1, h1)) : Run E n (.block id b) s h (.ret, s1, h1) := by
  obtain ⟨N, hr⟩ := hr
  refine ⟨N + 1, fun k j hk hj => ?_⟩
  obtain ⟨k, rfl⟩ : ∃ m, k = m + 1 := ⟨k - 1, by omega⟩
  simp only [acode, hr k j (by omega) (by omega)]
theorem Run.block_exit {id i : Nat} {b : Code} {s s1 : Slots} {h h1 : Heap} (hr : Run E n b s h (.exit i, s1, h1)) : Run E n (.block id b) s h (if i = id then .normal else .exit i, s1, h1) := by
  obtain ⟨N, hr⟩ := hr
  refine ⟨N + 1, fun k j hk hj => ?_⟩
  obtain ⟨k, rfl⟩ : ∃ m, k = m + 1 := ⟨k - 1, by omega⟩
  simp only [acode, hr k j (by omega) (by omega)]
  by_cases hi : i = id <;> simp [hi]
theorem Run.loop {b : Code} {s s1 : Slots} {h h1 : Heap} {o : Out} (hb : Run E n b s h (.normal, s1, h1)) (hl : Run E n (.loop b) s1 h1 o) : Run E n (.loop b) s h o := by
  obtain ⟨N, hb⟩ := hb
  obtain ⟨M, hl⟩ := hl
  refine ⟨N + M + 1, fun k j hk hj => ?_⟩
  obtain ⟨k, rfl⟩ : ∃ m, k = m + 1 := ⟨k - 1, by omega⟩
  simp only [acode, hb k j (by omega) (by omega)]
  exact hl k j (by omega) (by omega)
theorem Run.loop_exit {b : Code} {s s1 : Slots} {h h1 : Heap} {id : Nat} (hb : Run E n b s h (.exit id, s1, h1)) : Run E n (.loop b) s h (.exit id, s1, h1) := by
  obtain ⟨N, hb⟩ := hb
  refine ⟨N + 1, fun k j hk hj => ?_⟩
  obtain ⟨k, rfl⟩ : ∃ m, k = m + 1 := ⟨k - 1, by omega⟩
  simp only [acode, hb k j (by omega) (by omega)]
theorem Run.loop_ret {b : Code} {s s1 : Slots} {h h1 : Heap} (hb : Run E n b s h (.ret, s1, h1)) : Run E n (.loop b) s h (.ret, s1, h1) := by
  obtain ⟨N, hb⟩ := hb
  refine ⟨N + 1, fun k j hk hj => ?_⟩
  obtain ⟨k, rfl⟩ : ∃ m, k = m + 1 := ⟨k - 1, by omega⟩
  simp only [acode, hb k j (by omega) (by omega)]
theorem Run.region {id : Nat} {ops : Array Oper} {draw : Bool} {s s1 : Slots} {h h1 : Heap} (ho : (!draw || orderOk E ops.toList) = true) (hr : RunOps E draw (if draw then aheads ops.toList else []) n ops ops.toList 0 s h (s1, h1)) : Run E n (.region id ops draw) s h (.normal, s1, h1) := by
  obtain ⟨N, hr⟩ := hr
  refine ⟨N + 1, fun k j hk hj => ?_⟩
  obtain ⟨k, rfl⟩ : ∃ m, k = m + 1 := ⟨k - 1, by omega⟩
  simp only [acode]
  rw [if_neg (by rintro ⟨rfl, h2⟩; simp [h2] at ho), hr j (by omega)]

section
variable {draw : Bool} {A : List (List Nat)} {ops : Array Oper} {i : Nat} {s : Slots} {h : Heap}
theorem RunOps.nil : RunOps E draw A n ops [] i s h (s, h) := ⟨0, fun _ _ => rfl⟩
theorem RunOps.cons {o : Oper} {l : List Oper} {v : Value} {h1 : Heap} {r : Slots × Heap} (hd : dstOk n o = true) (hw : wants ops o s = true) (hop : RunOp E (draw && roAt E A ops.toList i o) o.op s h (v, h1)) (hr : RunOps E draw A n ops l (i + 1) (put o v s) h1 r) : RunOps E draw A n ops (o :: l) i s h r := by
  obtain ⟨N, hop⟩ := hop
  obtain ⟨M, hr⟩ := hr
  refine ⟨N + M, fun j hj => ?_⟩
  simp only [aops]
  rw [if_pos hd, if_pos hw, hop j (by omega)]
  exact hr j (by omega)
theorem RunOps.skip {o : Oper} {l : List Oper} {r : Slots × Heap} (hd : dstOk n o = true) (hw : wants ops o s = false) (hr : RunOps E draw A n ops l (i + 1) (put o undef s) h r) : RunOps E draw A n ops (o :: l) i s h r := by
  obtain ⟨M, hr⟩ := hr
  refine ⟨M, fun j hj => ?_⟩
  simp only [aops]
  rw [if_pos hd, if_neg (by simp [hw])]
  exact hr j (by omega)

/-- No call. -/
theorem RunOp.of {ro : Bool} {op : Op} {r : Value × Heap} (hop : ∀ cf, aop E cf op s h = some r) : RunOp E ro op s h r := ⟨0, fun _ _ => hop _⟩
theorem RunOp.framed {op : Op} {f : FuncId} {args : List Value} {v : Value} {h2 : Heap} (hop : ∀ cf : CallF, aop E cf op s h = frameCall cf f args h) (hf : args.all flat = true) (hc : Call E f args Heap.none (v, h2)) (hv : noPtr v = true) : RunOp E false op s h (v, h) := by
  obtain ⟨N, hc⟩ := hc
  exact ⟨N, fun j hj => by simp only [Bool.false_eq_true, if_false]; rw [hop, frameCall, if_pos hf, hc j hj]; simp only [hv, if_true]⟩
theorem RunOp.call {op : Op} {f : FuncId} {args : List Value} {r : Value × Heap} (hop : ∀ cf : CallF, aop E cf op s h = cf f args h) (hc : Call E f args h r) : RunOp E false op s h r := by
  obtain ⟨N, hc⟩ := hc
  exact ⟨N, fun j hj => by simp only [Bool.false_eq_true, if_false]; rw [hop, hc j hj]⟩
theorem RunOp.call_ro {op : Op} {f : FuncId} {args : List Value} {v : Value} {h2 : Heap} (hop : ∀ cf : CallF, aop E cf op s h = cf f args h) (hc : Call E f args h.ro (v, h2)) : RunOp E true op s h (v, h.merge h2) := by
  obtain ⟨N, hc⟩ := hc
  exact ⟨N, fun j hj => by simp only [if_true]; rw [hop, roCall, hc j hj]⟩
end

theorem Call.of {f : FuncId} {fn : Func} {c : Code} {args : List Value} {s : Slots} {h h1 : Heap} {x : AExit} {vs : List Value} (hf : E.funcs f = some fn) (hb : fn.body = some c) (hl : args.length ≤ fn.ntmps) (hr : Run E fn.ntmps c (slots0 args) h (x, s, h1)) (hx : x = .normal ∨ x = .ret) (hv : ares E s h1 fn.results.toList = some vs) : Call E f args h (outOf vs, h1) := by
  obtain ⟨N, hr⟩ := hr
  refine ⟨N + 1, fun k hk => ?_⟩
  obtain ⟨k, rfl⟩ : ∃ m, k = m + 1 := ⟨k - 1, by omega⟩
  simp only [acall, hf, hb]
  rw [if_pos hl, hr k k (by omega) (by omega)]
  rcases hx with rfl | rfl <;> simp only [finish, hv]

/-- In Go's machine. -/
theorem Call.calls {P : Program} (ok : EnvOk E P) {f : FuncId} {args : List Value} {h : Heap} {v : Value} {h' : Heap} (hc : Call E f args h (v, h')) {μ : Place} {base : Nat} {w : World} {args' : Array Value} (R : Rel E h μ w.heap base) (hbase : base ≤ w.heap.size) (ha : All2 (VRel E h μ w.heap) args args'.toList) :
    Calls P f args' w fun e w' => ∃ v' μ', e = .returned v' ∧ Rel E h' μ' w'.heap base ∧ Ext h μ w.heap h' μ' w'.heap ∧ Below base w w' ∧ VRel E h' μ' w'.heap v v' := by
  obtain ⟨N, hc⟩ := hc
  exact (acall_sim ok N f args h v h' (hc N (Nat.le_refl _))).2 μ base w args' R hbase ha

end
end Go.Fw
