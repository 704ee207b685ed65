/- Rules by the operation's kind, for proofs that are printed. -/
import Derived.Test.YtlejgfeoffhjoaaFwFam
namespace Go.Fw
open Go.RowKit
theorem keep_some_eq (h : Heap) (v : Value) : keep h (some v) = some (v, h) := rfl
theorem put_none {o : Oper} {v : Value} {s : Slots} (ho : o.dst = none) : put o v s = s := by unfold put; rw [ho]
theorem put_some {o : Oper} {v : Value} {s : Slots} {d : Nat} (ho : o.dst = some d) : put o v s = upd s d v := by unfold put; rw [ho]
section
variable {E : Env} {n : Nat} {s : Slots} {h : Heap}
variable {draw : Bool} {A : List (List Nat)} {ops : Array Oper} {i : Nat} {K : Slots → Heap → Prop}
theorem WpOps.keep {o : Oper} {l : List Oper} (d : Nat) (v : Value) (ho : o.dst = some d) (hd : okAt n ops o s = true) (hw : wants ops o s = true) (hr : WpOps E n draw A ops l (i + 1) (upd s d v) h K) (hop : ∀ cf, aop E cf o.op s h = some (v, h)) : WpOps E n draw A ops (o :: l) i s h K :=
  WpOps.cons hop hd hw (by rw [put_some ho]; exact hr)
theorem WpOps.chg {o : Oper} {l : List Oper} (d : Nat) (v : Value) (h1 : Heap) (ho : o.dst = some d) (hd : okAt n ops o s = true) (hw : wants ops o s = true) (hr : WpOps E n draw A ops l (i + 1) (upd s d v) h1 K) (hop : ∀ cf, aop E cf o.op s h = some (v, h1)) : WpOps E n draw A ops (o :: l) i s h K :=
  WpOps.cons hop hd hw (by rw [put_some ho]; exact hr)
theorem WpOps.made {o : Oper} {l : List Oper} (d : Nat) (v : Value) (x : Blk) (ho : o.dst = some d) (hd : okAt n ops o s = true) (hw : wants ops o s = true) (hr : WpOps E n draw A ops l (i + 1) (upd s d v) (h.alloc x) K) (hop : ∀ cf, aop E cf o.op s h = some (v, h.alloc x)) : WpOps E n draw A ops (o :: l) i s h K :=
  WpOps.cons hop hd hw (by rw [put_some ho]; exact hr)
theorem WpOps.realloc {o : Oper} {l : List Oper} (d : Nat) (v : Value) (b : Nat) (x : Blk) (ho : o.dst = some d) (hd : okAt n ops o s = true) (hw : wants ops o s = true) (hr : WpOps E n draw A ops l (i + 1) (upd s d v) ((h.set b none).alloc x) K) (hop : ∀ cf, aop E cf o.op s h = some (v, (h.set b none).alloc x)) : WpOps E n draw A ops (o :: l) i s h K :=
  WpOps.chg d v _ ho hd hw hr hop
theorem WpOps.chg0 {o : Oper} {l : List Oper} (v : Value) (h1 : Heap) (ho : o.dst = none) (hd : okAt n ops o s = true) (hw : wants ops o s = true) (hr : WpOps E n draw A ops l (i + 1) s h1 K) (hop : ∀ cf, aop E cf o.op s h = some (v, h1)) : WpOps E n draw A ops (o :: l) i s h K :=
  WpOps.cons hop hd hw (by rw [put_none ho]; exact hr)
theorem WpOps.laid {o : Oper} {l : List Oper} (v : Value) (b : Nat) (x : Blk) (ho : o.dst = none) (hd : okAt n ops o s = true) (hw : wants ops o s = true) (hr : WpOps E n draw A ops l (i + 1) s (h.set b (some x)) K) (hop : ∀ cf, aop E cf o.op s h = some (v, h.set b (some x))) : WpOps E n draw A ops (o :: l) i s h K :=
  WpOps.cons hop hd hw (by rw [put_none ho]; exact hr)
theorem WpOps.unmet {o : Oper} {l : List Oper} (d : Nat) (ho : o.dst = some d) (hd : okAt n ops o s = true) (hw : wants ops o s = false) (hr : WpOps E n draw A ops l (i + 1) (upd s d undef) h K) : WpOps E n draw A ops (o :: l) i s h K :=
  WpOps.skip hw hd (by rw [put_some ho]; exact hr)
theorem WpOps.unmet0 {o : Oper} {l : List Oper} (ho : o.dst = none) (hd : okAt n ops o s = true) (hw : wants ops o s = false) (hr : WpOps E n draw A ops l (i + 1) s h K) : WpOps E n draw A ops (o :: l) i s h K :=
  WpOps.skip hw hd (by rw [put_none ho]; exact hr)
theorem WpOps.called {o : Oper} {l : List Oper} (d : Nat) (f : FuncId) (args : List Value) (ho : o.dst = some d) (hd : okAt n ops o s = true) (hw : wants ops o s = true) (hro : (draw && roAt E A ops.toList i o) = false) (hop : ∀ cf : CallF, aop E cf o.op s h = cf f args h) (hc : WpCall E f args h fun v h1 => WpOps E n draw A ops l (i + 1) (upd s d v) h1 K) : WpOps E n draw A ops (o :: l) i s h K :=
  WpOps.call hop hro hd hw (by simpa only [put_some ho] using hc)
theorem WpOps.called0 {o : Oper} {l : List Oper} (f : FuncId) (args : List Value) (ho : o.dst = none) (hd : okAt n ops o s = true) (hw : wants ops o s = true) (hro : (draw && roAt E A ops.toList i o) = false) (hop : ∀ cf : CallF, aop E cf o.op s h = cf f args h) (hc : WpCall E f args h fun _ h1 => WpOps E n draw A ops l (i + 1) s h1 K) : WpOps E n draw A ops (o :: l) i s h K :=
  WpOps.call hop hro hd hw (by simpa only [put_none ho] using hc)
theorem WpOps.framed {o : Oper} {l : List Oper} (d : Nat) (f : FuncId) (args : List Value) (ho : o.dst = some d) (hd : okAt n ops o s = true) (hw : wants ops o s = true) (hro : (draw && roAt E A ops.toList i o) = false) (hf : args.all noPtr = true) (hop : ∀ cf : CallF, aop E cf o.op s h = frameCall E cf f args h) (hc : WpFun E f args fun v => WpOps E n draw A ops l (i + 1) (upd s d v) h K) : WpOps E n draw A ops (o :: l) i s h K :=
  WpOps.frame hop hf hro hd hw (by simpa only [put_some ho] using hc)
theorem WpOps.calledro {o : Oper} {l : List Oper} (d : Nat) (f : FuncId) (args : List Value) (ho : o.dst = some d) (hd : okAt n ops o s = true) (hw : wants ops o s = true) (hro : (draw && roAt E A ops.toList i o) = true) (hop : ∀ cf : CallF, aop E cf o.op s h = cf f args h) (hc : WpCall E f args h.ro fun v h1 => WpOps E n draw A ops l (i + 1) (upd s d v) (h.merge h1) K) : WpOps E n draw A ops (o :: l) i s h K :=
  WpOps.call_ro hop hro hd hw (by simpa only [put_some ho] using hc)
end
section
variable {E : Env} {n : Nat} {s : Slots} {h : Heap} {K : AExit → Slots → Heap → Prop}
theorem thenK_at {N : Slots → Heap → Prop} (hk : N s h) : thenK N K .normal s h := hk
theorem thenK_exit {N : Slots → Heap → Prop} {i : Nat} (hk : K (.exit i) s h) : thenK N K (.exit i) s h := hk
theorem thenK_ret {N : Slots → Heap → Prop} (hk : K .ret s h) : thenK N K .ret s h := hk
theorem blockK_norm {id : Nat} (hk : K .normal s h) : blockK id K .normal s h := hk
theorem blockK_ret {id : Nat} (hk : K .ret s h) : blockK id K .ret s h := hk
theorem blockK_hit {id : Nat} (hk : K .normal s h) : blockK id K (.exit id) s h := by simp only [blockK, if_true]; exact hk
theorem blockK_miss {id i : Nat} (hi : i ≠ id) (hk : K (.exit i) s h) : blockK id K (.exit i) s h := by simp only [blockK, if_neg hi]; exact hk
theorem endK_norm {fn : Func} {K : Value → Heap → Prop} (vs : List Value) (out : Value) (hv : ares E s h fn.results.toList = some vs) (ho : outOf vs = out) (hk : K out h) : endK E fn K .normal s h := ⟨vs, hv, by rw [ho]; exact hk⟩
theorem endK_retn {fn : Func} {K : Value → Heap → Prop} (vs : List Value) (out : Value) (hv : ares E s h fn.results.toList = some vs) (ho : outOf vs = out) (hk : K out h) : endK E fn K .ret s h := ⟨vs, hv, by rw [ho]; exact hk⟩
variable {L : Nat}
theorem Wp.on {c : Operand} {a b : Code} (hc : ev s c = some (.bool true)) (hw : Wp L E n a s h K) : Wp L E n (.cond c a b) s h K := Wp.cond hc hw
theorem Wp.off {c : Operand} {a b : Code} (hc : ev s c = some (.bool false)) (hw : Wp L E n b s h K) : Wp L E n (.cond c a b) s h K := Wp.cond hc hw
end
theorem iceC_row {E : Env} {hp : Heap} {b n c e size : Nat} {cells : List Value} (m : Nat) (he : (E.types e).map TI.size = some size) (hb : hp.get b = some ⟨e, true, cells⟩) (hn : n * size = cells.length) (hf : cells.all flat = true) : iceC E hp (m + 1) (.slice (some ⟨b, 0, none⟩) n c) = some (FS e n 0 cells.toArray) := by
  obtain ⟨ti, h1, rfl⟩ := Option.map_eq_some_iff.1 he
  have hc : cellsAt cells 0 (n * ti.size) = some cells := by
    simp only [cellsAt, Nat.zero_add, hn, Nat.le_refl, if_true, List.drop_zero]
    rw [List.take_of_length_le (Nat.le_refl _)]
  unfold iceC
  simp only [hb, h1, hc, mapO_id fun v hv => flat_ice (E := E) (h := hp) (List.all_eq_true.1 hf v hv) m]
theorem wants_tt {ops : Array Oper} {o : Oper} {s : Slots} {e : Bool} (hg : e = true) (h : wants ops o s = (e == true) := by kernel_rfl) : wants ops o s = true := by rw [h, hg]; rfl
theorem wants_ff {ops : Array Oper} {o : Oper} {s : Slots} {e : Bool} (hg : e = false) (h : wants ops o s = (e == false) := by kernel_rfl) : wants ops o s = true := by rw [h, hg]; rfl
theorem wants_ft {ops : Array Oper} {o : Oper} {s : Slots} {e : Bool} (hg : e = false) (h : wants ops o s = (e == true) := by kernel_rfl) : wants ops o s = false := by rw [h, hg]; rfl
theorem wants_tf {ops : Array Oper} {o : Oper} {s : Slots} {e : Bool} (hg : e = true) (h : wants ops o s = (e == false) := by kernel_rfl) : wants ops o s = false := by rw [h, hg]; rfl
theorem ev_fact {s : Slots} {x : Operand} {e c : Bool} (hg : e = c) (h : ev s x = some (.bool e) := by kernel_rfl) : ev s x = some (.bool c) := by rw [h, hg]
theorem Wp.split {L : Nat} {E : Env} {n : Nat} {s : Slots} {h : Heap} {K : AExit → Slots → Heap → Prop} {c : Operand} {a b : Code} (t : Bool) (hc : ev s c = some (.bool t)) (h1 : t = true → Wp L E n a s h K) (h2 : t = false → Wp L E n b s h K) : Wp L E n (.cond c a b) s h K := by
  refine Wp.cond hc ?_
  cases t with
  | true => exact h1 rfl
  | false => exact h2 rfl
def Agree (ds : List Nat) (s' s : Slots) : Prop := ∀ i, ds.contains i = false → s' i = s i
theorem Agree.refl {ds : List Nat} {s : Slots} : Agree ds s s := fun _ _ => rfl
theorem Agree.upd {ds : List Nat} {s' s : Slots} {d : Nat} {v : Value} (hd : ds.contains d = true) (h : Agree ds s' s) : Agree ds (upd s' d v) s := by
  intro i hi
  simp only [Fw.upd]
  split
  · rename_i e
    subst e
    rw [hd] at hi
    cases hi
  · exact h i hi
def mix (ds : List Nat) (f s : Slots) : Slots := fun i => if ds.contains i = true then f i else s i
theorem Agree.mix {ds sub : List Nat} {f s' s : Slots} (hs : (sub.all fun i => ds.contains i) = true) (h : Agree ds s' s) : Agree ds (mix sub f s') s := by
  intro i hi
  simp only [Fw.mix]
  split
  · rename_i hc
    have := List.all_eq_true.1 hs i (by simpa using hc)
    rw [this] at hi
    cases hi
  · exact h i hi
section
variable {E : Env} {n : Nat} {s : Slots} {h : Heap}
variable {draw : Bool} {A : List (List Nat)} {ops : Array Oper} {i : Nat} {K : Slots → Heap → Prop}
theorem aops_append {cf : Nat → CallF} : ∀ (l1 l2 : List Oper) (i : Nat) (s : Slots) (h : Heap), aops E cf draw A n ops (l1 ++ l2) i s h = (aops E cf draw A n ops l1 i s h).bind fun r => aops E cf draw A n ops l2 (i + l1.length) r.1 r.2
  | [], l2, i, s, h => rfl
  | o :: r, l2, i, s, h => by
    have e : i + (o :: r).length = i + 1 + r.length := by simp; omega
    simp only [List.cons_append, aops, e]
    by_cases h1 : okAt n ops o s = true
    · rw [if_pos h1, if_pos h1]
      by_cases h2 : wants ops o s = true
      · rw [if_pos h2, if_pos h2]
        cases aop E (if (draw && roAt E A ops.toList i o) = true then roCall (cf i) else cf i) o.op s h with
        | none => rfl
        | some p => exact aops_append r l2 (i + 1) _ _
      · rw [if_neg h2, if_neg h2]
        exact aops_append r l2 (i + 1) _ _
    · rw [if_neg h1, if_neg h1]; rfl
theorem aops_congr_lt {cf cf' : Nat → CallF} : ∀ (l : List Oper) (i : Nat) (s : Slots) (h : Heap), (∀ j, i ≤ j → j < i + l.length → cf j = cf' j) → aops E cf draw A n ops l i s h = aops E cf' draw A n ops l i s h
  | [], _, _, _, _ => rfl
  | o :: r, i, s, h, hj => by
    have ih := fun s h => aops_congr_lt (cf := cf) (cf' := cf') r (i + 1) s h fun j h1 h2 => hj j (by omega) (by simp only [List.length_cons]; omega)
    simp only [aops, ih, hj i (Nat.le_refl _) (by simp only [List.length_cons]; omega)]
theorem WpOps.append {l1 l2 : List Oper} (hw : WpOps E n draw A ops l1 i s h (fun s' h' => WpOps E n draw A ops l2 (i + l1.length) s' h' K)) : WpOps E n draw A ops (l1 ++ l2) i s h K := by
  intro ok
  obtain ⟨cf1, c1, s1, h1, r1, k1⟩ := hw ok
  obtain ⟨cf2, c2, s2, h2, r2, k2⟩ := k1 ok
  refine ⟨fun j => if j < i + l1.length then cf1 j else cf2 j, fun j => ?_, s2, h2, ?_, k2⟩
  · by_cases hj : j < i + l1.length
    · simp only [hj, if_true]; exact c1 j
    · simp only [hj, if_false]; exact c2 j
  · rw [aops_append, aops_congr_lt (cf' := cf1) l1 i s h fun j _ hj => by simp only [hj, if_true], r1]
    show aops E _ draw A n ops l2 _ s1 h1 = _
    rw [aops_congr (cf' := cf2) l2 _ _ _ fun j hj => by rw [if_neg (by omega)]]
    exact r2
theorem WpOps.fork {l : List Oper} (m : Nat) (g : Bool) (ds : List Nat) (d : Nat) (x y : Bool) (hm : (l.take m).length = m)
    (ht : g = true → WpOps E n draw A ops (l.take m) i s h fun s' h' => h' = h ∧ Agree ds s' s ∧ s' d = .bool x)
    (hf : g = false → WpOps E n draw A ops (l.take m) i s h fun s' h' => h' = h ∧ Agree ds s' s ∧ s' d = .bool y)
    (hk : ∀ (f : Slots) (b : Bool), b = cond g x y → WpOps E n draw A ops (l.drop m) (i + m) (upd (mix ds f s) d (.bool b)) h K) : WpOps E n draw A ops l i s h K := by
  have key : ∀ z, z = cond g x y → WpOps E n draw A ops (l.take m) i s h (fun s' h' => h' = h ∧ Agree ds s' s ∧ s' d = .bool z) → WpOps E n draw A ops l i s h K := fun z hz hw => by
    have : WpOps E n draw A ops (l.take m ++ l.drop m) i s h K := by
      refine WpOps.append ?_
      intro ok
      obtain ⟨cf, c, s', h', r, rfl, h2, h3⟩ := hw ok
      refine ⟨cf, c, s', h', r, ?_⟩
      rw [hm]
      have hs : s' = upd (mix ds s' s) d (.bool z) := by
        funext j
        simp only [upd, mix]
        split
        · rename_i e; subst e; exact h3
        · split
          · rfl
          · rename_i hj; exact h2 j (by simpa using hj)
      have := hk s' z hz
      rwa [← hs] at this
    rwa [List.take_append_drop] at this
  cases g with
  | true => exact key x rfl (ht rfl)
  | false => exact key y rfl (hf rfl)
theorem WpOps.forkE {l : List Oper} (m : Nat) (g : Bool) (ds : List Nat) (d : Nat) (x y : Bool) (hm : (l.take m).length = m)
    (ht : g = true → WpOps E n draw A ops (l.take m) i s h fun s' h' => h' = h ∧ Agree ds s' s ∧ s' d = .bool x)
    (hf : g = false → WpOps E n draw A ops (l.take m) i s h fun s' h' => h' = h ∧ Agree ds s' s ∧ s' d = .bool y)
    (hk : ∀ (f : Slots), WpOps E n draw A ops (l.drop m) (i + m) (upd (mix ds f s) d (.bool (cond g x y))) h K) : WpOps E n draw A ops l i s h K :=
  WpOps.fork m g ds d x y hm ht hf fun f b hb => by rw [hb]; exact hk f
end
theorem not_true_of {e : Bool} (h : e = false) : ¬ (e = true) := by rw [h]; exact Bool.false_ne_true
theorem by_fact {e c : Bool} {X : Option (Value × Heap)} {h : Heap} (hf : e = c) (hx : X = some (.bool e, h) := by kernel_rfl) : X = some (.bool c, h) := by rw [← hf]; exact hx
def vSlice : Option Value → Option (Option Addr × Nat)
  | Option.some (.slice a n _) => Option.some (a, n)
  | _ => Option.none
def vInt : Option Value → Option Int
  | Option.some (.int _ i) => Option.some i
  | _ => Option.none
theorem vSlice_eq {o : Option Value} {a : Option Addr} {n : Nat} (ho : vSlice o = some (a, n)) : ∃ c, o = some (.slice a n c) := by
  unfold vSlice at ho
  split at ho
  · cases ho; exact ⟨_, rfl⟩
  · cases ho
theorem vInt_eq {o : Option Value} {i : Int} (ho : vInt o = some i) : ∃ k, o = some (.int k i) := by
  unfold vInt at ho
  split at ho
  · cases ho; exact ⟨_, rfl⟩
  · cases ho
section
variable {E : Env} {cf : CallF} {s : Slots} {h : Heap} {x y : Operand} {t p : TypeId} {k : IntKind} {a b : Int}
theorem o_rem (h0 : ¬ b = 0) (hx : ev s x = some (.int k a) := by kernel_rfl) (hy : ev s y = some (.int k b) := by kernel_rfl) : aop E cf (.binOp .rem t x y p) s h = some (.int k (a.tmod b), h) := by
  simp only [aop, hx, hy, abin, aint, if_true, if_neg h0, keep_some_eq]
theorem o_quo (h0 : ¬ b = 0) (hx : ev s x = some (.int k a) := by kernel_rfl) (hy : ev s y = some (.int k b) := by kernel_rfl) : aop E cf (.binOp .quo t x y p) s h = some (.int k (k.wrap (a.tdiv b)), h) := by
  simp only [aop, hx, hy, abin, aint, if_true, if_neg h0, keep_some_eq]
theorem o_shl (h0 : ¬ b < 0) (hx : ev s x = some (.int k a) := by kernel_rfl) (hy' : vInt (ev s y) = some b := by kernel_rfl) : aop E cf (.binOp .shl t x y p) s h = some (.int k (k.wrap (a * 2 ^ min b.toNat k.bits)), h) := by
  obtain ⟨k', hy⟩ := vInt_eq hy'
  simp only [aop, hx, hy, abin, if_neg h0, keep_some_eq]
theorem o_shr (h0 : ¬ b < 0) (hx : ev s x = some (.int k a) := by kernel_rfl) (hy' : vInt (ev s y) = some b := by kernel_rfl) : aop E cf (.binOp .shr t x y p) s h = some (.int k (a.fdiv (2 ^ min b.toNat k.bits)), h) := by
  obtain ⟨k', hy⟩ := vInt_eq hy'
  simp only [aop, hx, hy, abin, if_neg h0, keep_some_eq]
theorem o_indexAddr {bl off size : Nat} (e : TypeId) (m : Nat) (h0 : 0 ≤ a ∧ a < m) (hx' : vSlice (ev s x) = some (some ⟨bl, off, none⟩, m) := by kernel_rfl) (hy' : vInt (ev s y) = some a := by kernel_rfl) (ht : (E.types t).map TI.desc = some (.slice e) := by kernel_rfl) (he : (E.types e).map TI.size = some size := by kernel_rfl) : aop E cf (.indexAddr t x y) s h = some (.pointer (some ⟨bl, off + a.toNat * size, none⟩), h) := by
  obtain ⟨ti, h1, h2⟩ := Option.map_eq_some_iff.1 ht
  obtain ⟨te, h3, h4⟩ := Option.map_eq_some_iff.1 he
  subst h4
  obtain ⟨c, hx⟩ := vSlice_eq hx'
  obtain ⟨k, hy⟩ := vInt_eq hy'
  simp only [aop, hx, hy, aindexAddr, h1, h2, h3, if_pos h0, keep_some_eq]
theorem o_indexAddrP {bl off size : Nat} (e : TypeId) (m : Nat) (h0 : 0 ≤ a ∧ a < m) (hx : ev s x = some (.pointer (some ⟨bl, off, none⟩)) := by kernel_rfl) (hy' : vInt (ev s y) = some a := by kernel_rfl) (ht : (E.types t).map TI.desc = some (.array m e) := by kernel_rfl) (he : (E.types e).map TI.size = some size := by kernel_rfl) : aop E cf (.indexAddr t x y) s h = some (.pointer (some ⟨bl, off + a.toNat * size, none⟩), h) := by
  obtain ⟨ti, h1, h2⟩ := Option.map_eq_some_iff.1 ht
  obtain ⟨te, h3, h4⟩ := Option.map_eq_some_iff.1 he
  subst h4
  obtain ⟨k, hy⟩ := vInt_eq hy'
  simp only [aop, hx, hy, aindexAddr, h1, h2, h3, if_pos h0, keep_some_eq]
theorem o_load1 {v : Value} {cells : List Value} (bl off : Nat) (hv : cells[off]? = some v) (hx : ev s x = some (.pointer (some ⟨bl, off, none⟩)) := by kernel_rfl) (ht : (E.types t).map (fun i => aggD i.desc) = some false := by kernel_rfl) (hb : (h.get bl).map Blk.cells = some cells := by kernel_rfl) : aop E cf (.load t x) s h = some (v, h) := by
  obtain ⟨ti, h1, h2⟩ := Option.map_eq_some_iff.1 ht
  obtain ⟨blk, h3, h4⟩ := Option.map_eq_some_iff.1 hb
  subst h4
  simp only [aop, hx, aload, h1, h3, h2, Bool.false_eq_true, if_false, hv, keep_some_eq]
theorem o_store1 (bl off : Nat) {v : Value} {cells : List Value} {el : TypeId} (hl' : true = true ∧ off + [v].length ≤ cells.length) (hx : ev s x = some (.pointer (some ⟨bl, off, none⟩)) := by kernel_rfl) (hy : ev s y = some v := by kernel_rfl) (hc : cellsOf v = some [v] := by kernel_rfl) (ht : (E.types t).map TI.size = some 1 := by kernel_rfl) (hb : h.get bl = some ⟨el, true, cells⟩ := by kernel_rfl) : aop E cf (.store t x y) s h = some (undef, h.set bl (some ⟨el, true, cells.set off v⟩)) := by
  obtain ⟨ti, h1, h2⟩ := Option.map_eq_some_iff.1 ht
  have : True ∧ off + 1 ≤ cells.length := ⟨trivial, hl'.2⟩
  simp only [aop, hx, hy, astore, h1, hc, h2, List.length_singleton, if_true, awrite, hb]
  rw [if_pos this]
  rfl
theorem o_bytes {src dst : TypeId} (e : TypeId) (bl off m : Nat) {l : List UInt8} {cells cs : List Value} (hl : cellsAt cells off m = some cs) (hc : cellBytes cs = some l) (hx' : vSlice (ev s x) = some (some ⟨bl, off, none⟩, m) := by kernel_rfl) (hs : (E.types src).map TI.desc = some (.slice e) := by kernel_rfl) (hd : (E.types dst).map TI.desc = some .string := by kernel_rfl) (he : (E.types e).map TI.desc = some (.int .u8) := by kernel_rfl) (hb : (h.get bl).map Blk.cells = some cells := by kernel_rfl) : aop E cf (.convert src dst x) s h = some (.string ⟨l.toArray⟩, h) := by
  obtain ⟨ts, h1, h2⟩ := Option.map_eq_some_iff.1 hs
  obtain ⟨td, h5, h6⟩ := Option.map_eq_some_iff.1 hd
  obtain ⟨te, h3, h4⟩ := Option.map_eq_some_iff.1 he
  obtain ⟨blk, h7, h8⟩ := Option.map_eq_some_iff.1 hb
  subst h8
  obtain ⟨c, hx⟩ := vSlice_eq hx'
  simp only [aop, hx, aconvert, h1, h2, h5, h6, h3, h4, h7, hl, hc, Option.map_some]
theorem o_indexStr {b' : UInt8} {str : ByteArray} (h0 : 0 ≤ a) (hb : str[a.toNat]? = some b') (hx : ev s x = some (.string str) := by kernel_rfl) (hy' : vInt (ev s y) = some a := by kernel_rfl) (ht : (E.types t).map TI.desc = some .string := by kernel_rfl) : aop E cf (.index t x y) s h = some (.int .u8 b'.toNat, h) := by
  obtain ⟨ti, h1, h2⟩ := Option.map_eq_some_iff.1 ht
  obtain ⟨k, hy⟩ := vInt_eq hy'
  simp only [aop, hx, hy, aindex, h1, h2, if_pos h0, hb, Option.map_some, keep_some_eq]
theorem o_add {u v : ByteArray} (hs : ((u.size + v.size : Nat) : Int) ≤ 9223372036854775807) (hx : ev s x = some (.string u) := by kernel_rfl) (hy : ev s y = some (.string v) := by kernel_rfl) : aop E cf (.binOp .add t x y p) s h = some (.string (u ++ v), h) := by
  simp only [aop, hx, hy, abin, astr, if_pos hs, keep_some_eq]
theorem o_cut_hi {str : ByteArray} (h0 : 0 ≤ a ∧ a ≤ str.size) (hx : ev s x = some (.string str) := by kernel_rfl) (hy' : vInt (ev s y) = some a := by kernel_rfl) (ht : (E.types t).map TI.desc = some .string := by kernel_rfl) : aop E cf (.slice t x none (some y) none) s h = some (.string (str.extract 0 a.toNat), h) := by
  obtain ⟨ti, h1, h2⟩ := Option.map_eq_some_iff.1 ht
  obtain ⟨k, hy⟩ := vInt_eq hy'
  simp only [aop, hx, hy, evo, Option.map_some, aslice, h1, h2, abound, if_pos h0, keep_some_eq]
theorem o_cut_lo {str : ByteArray} (h0 : 0 ≤ a ∧ a ≤ str.size) (hx : ev s x = some (.string str) := by kernel_rfl) (hy' : vInt (ev s y) = some a := by kernel_rfl) (ht : (E.types t).map TI.desc = some .string := by kernel_rfl) : aop E cf (.slice t x (some y) none none) s h = some (.string (str.extract a.toNat str.size), h) := by
  obtain ⟨ti, h1, h2⟩ := Option.map_eq_some_iff.1 ht
  obtain ⟨k, hy⟩ := vInt_eq hy'
  simp only [aop, hx, hy, evo, Option.map_some, aslice, h1, h2, abound, if_pos h0, keep_some_eq]
theorem o_pickT {c u1 u2 : Operand} {e : Bool} {v : Value} (hg : e = true) (hc : ev s c = some (.bool e) := by kernel_rfl) (hv : ev s u1 = some v := by kernel_rfl) : aop E cf (.pick c u1 u2) s h = some (v, h) := by
  simp only [aop, hc, hg, if_true, hv, keep_some_eq]
theorem o_pickF {c u1 u2 : Operand} {e : Bool} {v : Value} (hg : e = false) (hc : ev s c = some (.bool e) := by kernel_rfl) (hv : ev s u2 = some v := by kernel_rfl) : aop E cf (.pick c u1 u2) s h = some (v, h) := by
  simp only [aop, hc, hg, Bool.false_eq_true, if_false, hv, keep_some_eq]
def vFS : Option Value → Option (TypeId × Nat × Array Value)
  | Option.some (FS e n _ cells) => Option.some (e, n, cells)
  | _ => Option.none
def vFP : Option Value → Option (Nat × List Value)
  | Option.some (FP _ off cells) => Option.some (off, cells.toList)
  | _ => Option.none
theorem vFS_eq {o : Option Value} {e n : Nat} {l : Array Value} (ho : vFS o = some (e, n, l)) : ∃ x, o = some (FS e n x l) := by
  unfold vFS at ho
  split at ho
  · cases ho; exact ⟨_, rfl⟩
  · cases ho
theorem vFP_eq {o : Option Value} {off : Nat} {l : List Value} (ho : vFP o = some (off, l)) : ∃ e cells, o = some (FP e off cells) ∧ cells.toList = l := by
  unfold vFP at ho
  split at ho
  · cases ho; exact ⟨_, _, rfl, rfl⟩
  · cases ho
theorem o_indexI {e size m : Nat} {cells : Array Value} (h0 : 0 ≤ a ∧ a < m) (hx' : vFS (ev s x) = some (e, m, cells) := by kernel_rfl) (hy' : vInt (ev s y) = some a := by kernel_rfl) (ht : (E.types t).map TI.desc = some (.slice e) := by kernel_rfl) (he : (E.types e).map TI.size = some size := by kernel_rfl) : aop E cf (.indexAddr t x y) s h = some (FP e (a.toNat * size) cells, h) := by
  obtain ⟨ti, h1, h2⟩ := Option.map_eq_some_iff.1 ht
  obtain ⟨te, h3, h4⟩ := Option.map_eq_some_iff.1 he
  subst h4
  obtain ⟨k, hy⟩ := vInt_eq hy'
  obtain ⟨x0, hx⟩ := vFS_eq hx'
  simp only [aop, hx, hy, aindexAddr, h1, h2, h3, if_true, if_pos h0, keep_some_eq]
theorem o_loadI1 {v : Value} {l : List Value} (off : Nat) (hv : l[off]? = some v) (hx' : vFP (ev s x) = some (off, l) := by kernel_rfl) (ht : (E.types t).map (fun i => aggD i.desc) = some false := by kernel_rfl) : aop E cf (.load t x) s h = some (v, h) := by
  obtain ⟨ti, h1, h2⟩ := Option.map_eq_some_iff.1 ht
  obtain ⟨e, cells, hx, rfl⟩ := vFP_eq hx'
  simp only [aop, hx, aload, h1, h2, Bool.false_eq_true, if_false, hv, keep_some_eq]
theorem o_loadIA {cs l : List Value} {size : Nat} (off : Nat) (hv : cellsAt l off size = some cs) (hx' : vFP (ev s x) = some (off, l) := by kernel_rfl) (ht : (E.types t).map (fun i => (aggD i.desc, i.size)) = some (true, size) := by kernel_rfl) : aop E cf (.load t x) s h = some (.agg cs.toArray, h) := by
  obtain ⟨ti, h1, h2⟩ := Option.map_eq_some_iff.1 ht
  have h3 : aggD ti.desc = true := congrArg Prod.fst h2
  obtain rfl : ti.size = size := congrArg Prod.snd h2
  obtain ⟨e, cells, hx, rfl⟩ := vFP_eq hx'
  simp only [aop, hx, aload, h1, h3, if_true, hv, Option.map_some, keep_some_eq]
theorem o_loadA {cs cells : List Value} {size : Nat} (bl off : Nat) (hv : cellsAt cells off size = some cs) (hx : ev s x = some (.pointer (some ⟨bl, off, none⟩)) := by kernel_rfl) (ht : (E.types t).map (fun i => (aggD i.desc, i.size)) = some (true, size) := by kernel_rfl) (hb : (h.get bl).map Blk.cells = some cells := by kernel_rfl) : aop E cf (.load t x) s h = some (.agg cs.toArray, h) := by
  obtain ⟨ti, h1, h2⟩ := Option.map_eq_some_iff.1 ht
  obtain ⟨blk, h3, h4⟩ := Option.map_eq_some_iff.1 hb
  subst h4
  have h3' : aggD ti.desc = true := congrArg Prod.fst h2
  obtain rfl : ti.size = size := congrArg Prod.snd h2
  simp only [aop, hx, aload, h1, h3, h3', if_true, hv, Option.map_some, keep_some_eq]
theorem o_load1H {v : Value} {cells : List Value} {el : TypeId} {own : Bool} (bl off : Nat) (hb : h.get bl = some ⟨el, own, cells⟩) (hv : cells[off]? = some v := by kernel_rfl) (hx : ev s x = some (.pointer (some ⟨bl, off, none⟩)) := by kernel_rfl) (ht : (E.types t).map (fun i => aggD i.desc) = some false := by kernel_rfl) : aop E cf (.load t x) s h = some (v, h) :=
  o_load1 bl off hv hx ht (by rw [hb]; rfl)
theorem o_loadAH {cs cells : List Value} {size : Nat} {el : TypeId} {own : Bool} (bl off : Nat) (hb : h.get bl = some ⟨el, own, cells⟩) (hv : cellsAt cells off size = some cs := by kernel_rfl) (hx : ev s x = some (.pointer (some ⟨bl, off, none⟩)) := by kernel_rfl) (ht : (E.types t).map (fun i => (aggD i.desc, i.size)) = some (true, size) := by kernel_rfl) : aop E cf (.load t x) s h = some (.agg cs.toArray, h) :=
  o_loadA bl off hv hx ht (by rw [hb]; rfl)
theorem o_storeH {v : Value} {xs cells cells2 : List Value} {el : TypeId} (bl off : Nat) (hb : h.get bl = some ⟨el, true, cells⟩) (hl : true = true ∧ off + xs.length ≤ cells.length) (hx : ev s x = some (.pointer (some ⟨bl, off, none⟩)) := by kernel_rfl) (hy : ev s y = some v := by kernel_rfl) (hc : cellsOf v = some xs := by kernel_rfl) (ht : (E.types t).map TI.size = some xs.length := by kernel_rfl) (he : setAll cells off xs = cells2 := by kernel_rfl) : aop E cf (.store t x y) s h = some (undef, h.set bl (some ⟨el, true, cells2⟩)) := by
  obtain ⟨ti, h1, h2⟩ := Option.map_eq_some_iff.1 ht
  have h3 : True ∧ off + xs.length ≤ cells.length := ⟨trivial, hl.2⟩
  simp only [aop, hx, hy, astore, h1, hc, h2, if_true, awrite, hb]
  rw [if_pos h3, he]
theorem o_cutLH {str : ByteArray} {lo hi : Operand} {b' : Int} (h1 : 0 ≤ b' ∧ b' ≤ str.size) (h2 : 0 ≤ a ∧ a ≤ b'.toNat) (hx : ev s x = some (.string str) := by kernel_rfl) (hy' : vInt (ev s lo) = some a := by kernel_rfl) (hz' : vInt (ev s hi) = some b' := by kernel_rfl) (ht : (E.types t).map TI.desc = some .string := by kernel_rfl) : aop E cf (.slice t x (some lo) (some hi) none) s h = some (.string (str.extract a.toNat b'.toNat), h) := by
  obtain ⟨ti, g1, g2⟩ := Option.map_eq_some_iff.1 ht
  obtain ⟨k, hy⟩ := vInt_eq hy'
  obtain ⟨k2, hz⟩ := vInt_eq hz'
  simp only [aop, hx, hy, hz, evo, Option.map_some, aslice, g1, g2, abound, if_pos h1, if_pos h2, keep_some_eq]
theorem o_cutF_hi {e n xx size : Nat} {cells : Array Value} (h0 : 0 ≤ a ∧ a ≤ n) (hx : ev s x = some (FS e n xx cells) := by kernel_rfl) (hy' : vInt (ev s y) = some a := by kernel_rfl) (ht : (E.types t).map TI.desc = some (.slice e) := by kernel_rfl) (he : (E.types e).map TI.size = some size := by kernel_rfl) :
    aop E cf (.slice t x none (some y) none) s h = some (FS e (a.toNat - 0) (if xx = 2 then 2 else 0) ((cells.toList.drop (0 * size)).take ((a.toNat - 0) * size)).toArray, h) := by
  obtain ⟨ti, h1, h2⟩ := Option.map_eq_some_iff.1 ht
  obtain ⟨te, h3, h4⟩ := Option.map_eq_some_iff.1 he
  obtain ⟨k, hy⟩ := vInt_eq hy'
  simp only [aop, hx, hy, evo, Option.map_some, aslice, h1, h2, h3, h4, abound, if_pos h0, if_true, keep_some_eq]
theorem o_cutF_lo {e n xx size : Nat} {cells : Array Value} (h0 : 0 ≤ a ∧ a ≤ n) (hx : ev s x = some (FS e n xx cells) := by kernel_rfl) (hy' : vInt (ev s y) = some a := by kernel_rfl) (ht : (E.types t).map TI.desc = some (.slice e) := by kernel_rfl) (he : (E.types e).map TI.size = some size := by kernel_rfl) :
    aop E cf (.slice t x (some y) none none) s h = some (FS e (n - a.toNat) (if xx = 2 then 2 else 0) ((cells.toList.drop (a.toNat * size)).take ((n - a.toNat) * size)).toArray, h) := by
  obtain ⟨ti, h1, h2⟩ := Option.map_eq_some_iff.1 ht
  obtain ⟨te, h3, h4⟩ := Option.map_eq_some_iff.1 he
  obtain ⟨k, hy⟩ := vInt_eq hy'
  simp only [aop, hx, hy, evo, Option.map_some, aslice, h1, h2, h3, h4, abound, if_pos h0, if_true, keep_some_eq]
theorem o_cutS_lo {bl off n c e size : Nat} (h0 : 0 ≤ a ∧ a ≤ n) (hx : ev s x = some (.slice (some ⟨bl, off, none⟩) n c) := by kernel_rfl) (hy' : vInt (ev s y) = some a := by kernel_rfl) (ht : (E.types t).map TI.desc = some (.slice e) := by kernel_rfl) (he : (E.types e).map TI.size = some size := by kernel_rfl) (hr : rowOf h e (some ⟨bl, off, none⟩) = true := by kernel_rfl) :
    aop E cf (.slice t x (some y) none none) s h = some (.slice (some ⟨bl, off + a.toNat * size, none⟩) (n - a.toNat) (c - a.toNat), h) := by
  obtain ⟨ti, h1, h2⟩ := Option.map_eq_some_iff.1 ht
  obtain ⟨te, h3, h4⟩ := Option.map_eq_some_iff.1 he
  obtain ⟨k, hy⟩ := vInt_eq hy'
  subst h4
  simp only [aop, hx, hy, evo, Option.map_some, aslice, h1, h2, h3, hr, abound, if_pos h0, if_true, keep_some_eq]
theorem o_makeSlice {e bytes : Nat} {z : List Value} (h0 : 0 ≤ a ∧ a = b ∧ (bytes : Int) * a ≤ 281474976710656 ∧ a ≤ 9223372036854775807) (hx : ev s x = some (.int .i64 a) := by kernel_rfl) (hy : ev s y = some (.int .i64 b) := by kernel_rfl) (ht : (E.types t).map TI.desc = some (.slice e) := by kernel_rfl) (he : (E.types e).map (fun i => (i.bytes, i.zero)) = some (bytes, z) := by kernel_rfl) :
    aop E cf (.makeSlice t x y) s h = some (arow e a.toNat (zeros z a.toNat) h) := by
  obtain ⟨ti, h1, h2⟩ := Option.map_eq_some_iff.1 ht
  obtain ⟨te, h3, h4⟩ := Option.map_eq_some_iff.1 he
  obtain ⟨rfl, rfl⟩ := Prod.mk.inj h4
  simp only [aop, hx, hy, amakeSlice, h1, h2, h3]
  rw [if_pos h0]
theorem o_cutS_hi {bl off n c e size : Nat} (h0 : 0 ≤ a ∧ a ≤ c) (hx : ev s x = some (.slice (some ⟨bl, off, none⟩) n c) := by kernel_rfl) (hy' : vInt (ev s y) = some a := by kernel_rfl) (ht : (E.types t).map TI.desc = some (.slice e) := by kernel_rfl) (he : (E.types e).map TI.size = some size := by kernel_rfl) (hr : rowOf h e (some ⟨bl, off, none⟩) = true := by kernel_rfl) :
    aop E cf (.slice t x none (some y) none) s h = some (.slice (some ⟨bl, off + 0 * size, none⟩) (a.toNat - 0) (c - 0), h) := by
  obtain ⟨ti, h1, h2⟩ := Option.map_eq_some_iff.1 ht
  obtain ⟨te, h3, h4⟩ := Option.map_eq_some_iff.1 he
  obtain ⟨k, hy⟩ := vInt_eq hy'
  subst h4
  simp only [aop, hx, hy, evo, Option.map_some, aslice, h1, h2, h3, hr, abound, if_pos h0, if_true, keep_some_eq]
theorem o_cutF_LH {e n xx size : Nat} {cells : Array Value} {lo hi : Operand} {b' : Int} (h1 : 0 ≤ b' ∧ b' ≤ n) (h2 : 0 ≤ a ∧ a ≤ b'.toNat) (hx : ev s x = some (FS e n xx cells) := by kernel_rfl) (hy' : vInt (ev s lo) = some a := by kernel_rfl) (hz' : vInt (ev s hi) = some b' := by kernel_rfl) (ht : (E.types t).map TI.desc = some (.slice e) := by kernel_rfl) (he : (E.types e).map TI.size = some size := by kernel_rfl) :
    aop E cf (.slice t x (some lo) (some hi) none) s h = some (FS e (b'.toNat - a.toNat) (if xx = 2 then 2 else 0) ((cells.toList.drop (a.toNat * size)).take ((b'.toNat - a.toNat) * size)).toArray, h) := by
  obtain ⟨ti, g1, g2⟩ := Option.map_eq_some_iff.1 ht
  obtain ⟨te, g3, g4⟩ := Option.map_eq_some_iff.1 he
  obtain ⟨k, hy⟩ := vInt_eq hy'
  obtain ⟨k2, hz⟩ := vInt_eq hz'
  simp only [aop, hx, hy, hz, evo, Option.map_some, aslice, g1, g2, g3, g4, abound, if_pos h1, if_pos h2, if_true, keep_some_eq]
def vArgs (o : Option (List Value)) : Option (Option Addr × Nat × Nat) := match o with
  | Option.some [.slice a n c, _] => Option.some (a, n, c)
  | _ => Option.none
def vSource (e : TypeId) (size : Nat) (o : Option (List Value)) (h : Heap) : Option (Nat × List Value) := match o with
  | Option.some [_, x] => asource e size x h
  | _ => Option.none
def vSrc (o : Option (List Value)) : Option (Option Addr × Nat) := match o with
  | Option.some [_, .slice a n _] => Option.some (a, n)
  | _ => Option.none
theorem src_of {e size b off n : Nat} {o : Option (List Value)} {h : Heap} {cells cs : List Value} (ho : vSrc o = some (some ⟨b, off, none⟩, n) := by kernel_rfl) (hn : (n == 0) = false := by kernel_rfl) (hb : (h.get b).map Blk.cells = some cells := by kernel_rfl) (hc : cellsAt cells off (n * size) = some cs := by kernel_rfl) : vSource e size o h = some (n, cs) := by
  unfold vSrc at ho
  split at ho
  · cases ho
    obtain ⟨blk, h3, h4⟩ := Option.map_eq_some_iff.1 hb
    subst h4
    have hn' : ¬ n = 0 := by simpa using hn
    simp only [vSource, asource, if_neg hn', h3, hc, Option.map_some]
  · cases ho
def vTys (E : Env) (tys : List TypeId) (e : TypeId) : Bool := match tys with
  | [t, u] => match E.types t, E.types u with
    | Option.some ti, Option.some ux => (match ti.desc with | .slice e' => e' == e | _ => false) && (match ux.desc with | .int _ => false | _ => true)
    | _, _ => false
  | _ => false
theorem vTys_eq {E : Env} {tys : List TypeId} {e : TypeId} (h : vTys E tys e = true) : ∃ t u ti ux, tys = [t, u] ∧ E.types t = some ti ∧ ti.desc = .slice e ∧ E.types u = some ux ∧ ∀ k, ux.desc ≠ .int k := by
  unfold vTys at h
  split at h
  · rename_i t u
    split at h
    · rename_i ti ux h1 h2
      simp only [Bool.and_eq_true] at h
      obtain ⟨h3, h4⟩ := h
      split at h3
      · rename_i e' hd
        refine ⟨t, u, ti, ux, rfl, h1, ?_, h2, fun k hk => ?_⟩
        · rw [hd]; simp at h3; rw [h3]
        · rw [hk] at h4; cases h4
      · cases h3
    · cases h
  · cases h
def vOwn (e : TypeId) (o : Option Blk) (off n : Nat) : Option (List Value) := match o with
  | Option.some ⟨e', true, cells⟩ => if e' = e then cellsAt cells off n else Option.none
  | _ => Option.none
theorem o_append {args : Array Operand} {tys : Array TypeId} {e : TypeId} (bl off n m c : Nat) {size bytes zl : Nat} {old new : List Value} (h1 : ¬ (n + m ≤ c)) (h2 : 1 ≤ bytes ∧ (n + m) * bytes ≤ 140737488355328 ∧ zl = size ∧ n + m ≤ 9223372036854775807)
    (ho : vOwn e (h.get bl) off (n * size) = some old := by kernel_rfl) (ha : vArgs (evs s args.toList) = some (some ⟨bl, off, none⟩, n, c) := by kernel_rfl) (htys : vTys E tys.toList e = true := by kernel_rfl)
    (he : (E.types e).map (fun i => (i.size, i.bytes, i.zero.length)) = some (size, bytes, zl) := by kernel_rfl) (hs : vSource e size (evs s args.toList) h = some (m, new) := by kernel_rfl) :
    aop E cf (.call { callee := .builtin .append, args := args, argTypes := tys }) s h = some (arow e (n + m) (old ++ new) (h.set bl none)) := by
  obtain ⟨t, u, ti, ux, hty2, g1, g2, g3, g4⟩ := vTys_eq htys
  obtain ⟨te, g5, g6⟩ := Option.map_eq_some_iff.1 he
  simp only [Prod.mk.injEq] at g6
  obtain ⟨rfl, rfl, rfl⟩ := g6
  unfold vArgs at ha
  split at ha
  · rename_i a n' c' xv hev
    cases ha
    rw [hev] at hs
    simp only [vSource] at hs
    unfold vOwn at ho
    split at ho
    · rename_i e' cells hb
      split at ho
      · rename_i he'
        subst he'
        have hop : aop E cf (.call { callee := .builtin .append, args := args, argTypes := tys }) s h = aappend E t u (.slice (some ⟨bl, off, none⟩) n c) xv h := by
          simp only [aop, hev, hty2, abuiltin]
        rw [hop]
        unfold aappend
        cases hux : ux.desc with
        | int k => exact absurd hux (g4 k)
        | _ => simp only [g1, g3, g2, g5, hux, hs, if_neg h1, if_pos h2, hb, and_self, if_true, ho, Option.map_some]
      · cases ho
    · cases ho
  · cases ha
theorem src_ofH {e size n : Nat} {o : Option (List Value)} {h : Heap} {cells cs : List Value} {el : TypeId} {own : Bool} (b off : Nat) (hb : h.get b = some ⟨el, own, cells⟩) (ho : vSrc o = some (some ⟨b, off, none⟩, n) := by kernel_rfl) (hn : (n == 0) = false := by kernel_rfl) (hc : cellsAt cells off (n * size) = some cs := by kernel_rfl) : vSource e size o h = some (n, cs) :=
  src_of ho hn (by rw [hb]; rfl) hc
theorem own_ofH {e bl off k : Nat} {h : Heap} {cells old : List Value} (hb : h.get bl = some ⟨e, true, cells⟩) (hc : cellsAt cells off k = some old := by kernel_rfl) : vOwn e (h.get bl) off k = some old := by
  rw [hb]
  unfold vOwn
  simp [hc]
theorem o_append0 {args : Array Operand} {tys : Array TypeId} {e : TypeId} (m : Nat) {size bytes zl : Nat} {new : List Value} (h1 : ¬ (0 + m ≤ 0)) (h2 : 1 ≤ bytes ∧ (0 + m) * bytes ≤ 140737488355328 ∧ zl = size ∧ 0 + m ≤ 9223372036854775807)
    (ha : vArgs (evs s args.toList) = some (none, 0, 0) := by kernel_rfl) (htys : vTys E tys.toList e = true := by kernel_rfl)
    (he : (E.types e).map (fun i => (i.size, i.bytes, i.zero.length)) = some (size, bytes, zl) := by kernel_rfl) (hs : vSource e size (evs s args.toList) h = some (m, new) := by kernel_rfl) :
    aop E cf (.call { callee := .builtin .append, args := args, argTypes := tys }) s h = some (arow e m new h) := by
  obtain ⟨t, u, ti, ux, hty2, g1, g2, g3, g4⟩ := vTys_eq htys
  obtain ⟨te, g5, g6⟩ := Option.map_eq_some_iff.1 he
  simp only [Prod.mk.injEq] at g6
  obtain ⟨rfl, rfl, rfl⟩ := g6
  unfold vArgs at ha
  split at ha
  · rename_i a n' c' xv hev
    cases ha
    rw [hev] at hs
    simp only [vSource] at hs
    have hop : aop E cf (.call { callee := .builtin .append, args := args, argTypes := tys }) s h = aappend E t u (.slice none 0 0) xv h := by
      simp only [aop, hev, hty2, abuiltin]
    rw [hop]
    unfold aappend
    cases hux : ux.desc with
    | int k => exact absurd hux (g4 k)
    | _ => simp only [g1, g3, g2, g5, hux, hs, if_neg h1, if_pos h2, if_true]
  · cases ha
end
section
variable {E : Env} {n : Nat} {s : Slots} {h : Heap}
variable {draw : Bool} {A : List (List Nat)} {ops : Array Oper} {i : Nat} {K : Slots → Heap → Prop}
theorem kp {o : Oper} {l : List Oper} (d : Nat) (v : Value) (hr : WpOps E n draw A ops l (i + 1) (upd s d v) h K) (ho : o.dst = some d := by kernel_rfl) (hd : okAt n ops o s = true := by kernel_rfl) (hw : wants ops o s = true := by kernel_rfl) (hop : ∀ cf, aop E cf o.op s h = some (v, h) := by intro _; kernel_rfl) : WpOps E n draw A ops (o :: l) i s h K :=
  WpOps.keep d v ho hd hw hr hop
theorem md {o : Oper} {l : List Oper} (d : Nat) (v : Value) (x : Blk) (hr : WpOps E n draw A ops l (i + 1) (upd s d v) (h.alloc x) K) (ho : o.dst = some d := by kernel_rfl) (hd : okAt n ops o s = true := by kernel_rfl) (hw : wants ops o s = true := by kernel_rfl) (hop : ∀ cf, aop E cf o.op s h = some (v, h.alloc x) := by intro _; kernel_rfl) : WpOps E n draw A ops (o :: l) i s h K :=
  WpOps.made d v x ho hd hw hr hop
theorem ra {o : Oper} {l : List Oper} (d : Nat) (v : Value) (b : Nat) (x : Blk) (hr : WpOps E n draw A ops l (i + 1) (upd s d v) ((h.set b none).alloc x) K) (ho : o.dst = some d := by kernel_rfl) (hd : okAt n ops o s = true := by kernel_rfl) (hw : wants ops o s = true := by kernel_rfl) (hop : ∀ cf, aop E cf o.op s h = some (v, (h.set b none).alloc x) := by intro _; kernel_rfl) : WpOps E n draw A ops (o :: l) i s h K :=
  WpOps.chg d v _ ho hd hw hr hop
theorem cg {o : Oper} {l : List Oper} (d : Nat) (v : Value) (h1 : Heap) (hr : WpOps E n draw A ops l (i + 1) (upd s d v) h1 K) (ho : o.dst = some d := by kernel_rfl) (hd : okAt n ops o s = true := by kernel_rfl) (hw : wants ops o s = true := by kernel_rfl) (hop : ∀ cf, aop E cf o.op s h = some (v, h1) := by intro _; kernel_rfl) : WpOps E n draw A ops (o :: l) i s h K :=
  WpOps.chg d v h1 ho hd hw hr hop
theorem cg0 {o : Oper} {l : List Oper} (v : Value) (h1 : Heap) (hr : WpOps E n draw A ops l (i + 1) s h1 K) (ho : o.dst = none := by kernel_rfl) (hd : okAt n ops o s = true := by kernel_rfl) (hw : wants ops o s = true := by kernel_rfl) (hop : ∀ cf, aop E cf o.op s h = some (v, h1) := by intro _; kernel_rfl) : WpOps E n draw A ops (o :: l) i s h K :=
  WpOps.chg0 v h1 ho hd hw hr hop
theorem ld {o : Oper} {l : List Oper} (v : Value) (b : Nat) (x : Blk) (hr : WpOps E n draw A ops l (i + 1) s (h.set b (some x)) K) (ho : o.dst = none := by kernel_rfl) (hd : okAt n ops o s = true := by kernel_rfl) (hw : wants ops o s = true := by kernel_rfl) (hop : ∀ cf, aop E cf o.op s h = some (v, h.set b (some x)) := by intro _; kernel_rfl) : WpOps E n draw A ops (o :: l) i s h K :=
  WpOps.laid v b x ho hd hw hr hop
theorem um {o : Oper} {l : List Oper} (d : Nat) (hr : WpOps E n draw A ops l (i + 1) (upd s d undef) h K) (ho : o.dst = some d := by kernel_rfl) (hd : okAt n ops o s = true := by kernel_rfl) (hw : wants ops o s = false := by kernel_rfl) : WpOps E n draw A ops (o :: l) i s h K :=
  WpOps.unmet d ho hd hw hr
theorem um0 {o : Oper} {l : List Oper} (hr : WpOps E n draw A ops l (i + 1) s h K) (ho : o.dst = none := by kernel_rfl) (hd : okAt n ops o s = true := by kernel_rfl) (hw : wants ops o s = false := by kernel_rfl) : WpOps E n draw A ops (o :: l) i s h K :=
  WpOps.unmet0 ho hd hw hr
theorem cl {o : Oper} {l : List Oper} (d : Nat) (f : FuncId) (args : List Value) (hc : WpCall E f args h fun v h1 => WpOps E n draw A ops l (i + 1) (upd s d v) h1 K) (ho : o.dst = some d := by kernel_rfl) (hd : okAt n ops o s = true := by kernel_rfl) (hw : wants ops o s = true := by kernel_rfl) (hro : (draw && roAt E A ops.toList i o) = false := by kernel_rfl) (hop : ∀ cf : CallF, aop E cf o.op s h = cf f args h := by intro _; kernel_rfl) : WpOps E n draw A ops (o :: l) i s h K :=
  WpOps.called d f args ho hd hw hro hop hc
theorem cl0 {o : Oper} {l : List Oper} (f : FuncId) (args : List Value) (hc : WpCall E f args h fun _ h1 => WpOps E n draw A ops l (i + 1) s h1 K) (ho : o.dst = none := by kernel_rfl) (hd : okAt n ops o s = true := by kernel_rfl) (hw : wants ops o s = true := by kernel_rfl) (hro : (draw && roAt E A ops.toList i o) = false := by kernel_rfl) (hop : ∀ cf : CallF, aop E cf o.op s h = cf f args h := by intro _; kernel_rfl) : WpOps E n draw A ops (o :: l) i s h K :=
  WpOps.called0 f args ho hd hw hro hop hc
theorem fr {o : Oper} {l : List Oper} (d : Nat) (f : FuncId) (args : List Value) (hc : WpFun E f args fun v => WpOps E n draw A ops l (i + 1) (upd s d v) h K) (ho : o.dst = some d := by kernel_rfl) (hd : okAt n ops o s = true := by kernel_rfl) (hw : wants ops o s = true := by kernel_rfl) (hro : (draw && roAt E A ops.toList i o) = false := by kernel_rfl) (hf : args.all noPtr = true := by kernel_rfl) (hop : ∀ cf : CallF, aop E cf o.op s h = frameCall E cf f args h := by intro _; kernel_rfl) : WpOps E n draw A ops (o :: l) i s h K :=
  WpOps.framed d f args ho hd hw hro hf hop hc
theorem clr {o : Oper} {l : List Oper} (d : Nat) (f : FuncId) (args : List Value) (hc : WpCall E f args h.ro fun v h1 => WpOps E n draw A ops l (i + 1) (upd s d v) (h.merge h1) K) (ho : o.dst = some d := by kernel_rfl) (hd : okAt n ops o s = true := by kernel_rfl) (hw : wants ops o s = true := by kernel_rfl) (hro : (draw && roAt E A ops.toList i o) = true := by kernel_rfl) (hop : ∀ cf : CallF, aop E cf o.op s h = cf f args h := by intro _; kernel_rfl) : WpOps E n draw A ops (o :: l) i s h K :=
  WpOps.calledro d f args ho hd hw hro hop hc
end
section
variable {L : Nat} {E : Env} {n : Nat} {s : Slots} {h : Heap} {K : AExit → Slots → Heap → Prop}
theorem on' {c : Operand} {a b : Code} (hw : Wp L E n a s h K) (hc : ev s c = some (.bool true) := by kernel_rfl) : Wp L E n (.cond c a b) s h K := Wp.on hc hw
theorem off' {c : Operand} {a b : Code} (hw : Wp L E n b s h K) (hc : ev s c = some (.bool false) := by kernel_rfl) : Wp L E n (.cond c a b) s h K := Wp.off hc hw
end
end Go.Fw
