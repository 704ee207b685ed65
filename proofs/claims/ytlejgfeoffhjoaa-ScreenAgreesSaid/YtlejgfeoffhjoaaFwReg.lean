/- A region: its operations one behind the other, in the text's order or in any that the edges allow. -/
import Derived.Test.YtlejgfeoffhjoaaFwOpy
namespace Go.Fw
open Go.RowKit
def astep (E : Env) (cf : Nat → CallF) (draw : Bool) (A : List (List Nat)) (n : Nat) (ops : Array Oper) (i : Nat) (s : Slots) (h : Heap) : Option (Slots × Heap) :=
  match ops[i]? with
  | none => some (s, h)
  | some o =>
    if okAt n ops o s = true then
      if wants ops o s then
        match aop E (if draw && roAt E A ops.toList i o then roCall (cf i) else cf i) o.op s h with
        | some (v, h') => some (put o v s, h')
        | none => none
      else some (put o undef s, h)
    else none
def arun (E : Env) (cf : Nat → CallF) (draw : Bool) (A : List (List Nat)) (n : Nat) (ops : Array Oper) : List Nat → Slots → Heap → Option (Slots × Heap)
  | [], s, h => some (s, h)
  | i :: r, s, h =>
    match astep E cf draw A n ops i s h with
    | some (s', h') => arun E cf draw A n ops r s' h'
    | none => none
theorem aops_arun (E : Env) (cf : Nat → CallF) (draw : Bool) (A : List (List Nat)) (n : Nat) (ops : Array Oper) : ∀ (l : List Oper) (i : Nat) (s : Slots) (h : Heap), l = ops.toList.drop i → aops E cf draw A n ops l i s h = arun E cf draw A n ops (List.range' i l.length) s h
  | [], i, s, h, _ => rfl
  | o :: r, i, s, h, hl => by
    have ho : ops[i]? = some o := by
      have : (ops.toList.drop i)[0]? = some o := by rw [← hl]; rfl
      rwa [List.getElem?_drop, Nat.add_zero, Array.getElem?_toList] at this
    have hr : r = ops.toList.drop (i + 1) := by
      rw [← List.drop_drop, ← hl]; rfl
    simp only [aops, List.length_cons, List.range'_succ, arun, astep, ho]
    have ih := aops_arun E cf draw A n ops r (i + 1)
    by_cases h1 : okAt n ops o s = true
    · rw [if_pos h1, if_pos h1]
      by_cases h2 : wants ops o s = true
      · rw [if_pos h2, if_pos h2]
        cases hx : aop E (if (draw && roAt E A ops.toList i o) = true then roCall (cf i) else cf i) o.op s h with
        | none => rfl
        | some p => exact ih _ _ hr
      · rw [if_neg h2, if_neg h2]
        exact ih _ _ hr
    · rw [if_neg h1, if_neg h1]
structure St (E : Env) (n base : Nat) (h : Heap) (μ : Place) (w : World) (s : Slots) (a : Act) : Prop where
  rel : Rel E h μ w.heap base
  base_le : base ≤ w.heap.size
  sl : SlotsRel E h μ w.heap s a.tmps
  size : a.tmps.size = n
  defers : a.defers = []
structure To (base : Nat) (h : Heap) (μ : Place) (w : World) (h' : Heap) (μ' : Place) (w' : World) : Prop where
  ext : Ext h μ w.heap h' μ' w'.heap
  below : Below base w w'
theorem To.refl (base : Nat) (h : Heap) (μ : Place) (w : World) : To base h μ w h μ w := ⟨Ext.refl _ _ _, Below.refl _ _⟩
theorem To.trans {base : Nat} {h h1 h2 : Heap} {μ μ1 μ2 : Place} {w w1 w2 : World} (a : To base h μ w h1 μ1 w1) (b : To base h1 μ1 w1 h2 μ2 w2) : To base h μ w h2 μ2 w2 := ⟨a.ext.trans b.ext, a.below.trans b.below⟩
section
variable {E : Env} {P : Program} {h : Heap} {μ : Place} {base n : Nat} {w : World} {s : Slots} {a : Act} {cf : Nat → CallF} {ops : Array Oper}
theorem VRel.inv_bool' {H : Mem} {v : Value} {b : Bool} (r : VRel E h μ H v (.bool b)) (hj : v ≠ junk) : v = .bool b := by
  cases r with
  | any => exact absurd rfl hj
  | w r => cases r with
    | c r => cases r with
      | s r => cases r with
        | bool => rfl
        | ice r => cases r
theorem wants_rel {H : Mem} (hs : SlotsRel E h μ H s a.tmps) (o : Oper) (hcl : clear ops o s = true) : Region.wanted o (yielded ops a.tmps) = wants ops o s := by
  unfold Region.wanted wants
  unfold clear at hcl
  cases hg : o.guard with
  | none => rfl
  | some g =>
    obtain ⟨j, want⟩ := g
    simp only [yielded]
    cases hd : (ops[j]?).bind (·.dst) with
    | none => simp
    | some t =>
      simp only [Option.bind_some]
      have ht := hs t
      rw [Array.getD_eq_getD_getElem?] at ht
      have hnj : ∀ v', s t ≠ .chan v' := fun v' e => by simp [hg, hd, e] at hcl
      cases hv : a.tmps[t]? with
      | none =>
        rw [hv] at ht
        have : s t = undef := by
          cases hst : s t with
          | tuple vs =>
            rw [hst] at ht
            obtain ⟨a', ha, h2⟩ := ht.inv_tuple
            simp only [Option.getD_none, undef] at ha
            cases ha
            cases hvs : vs.toList with
            | nil => simp only [undef]; congr 1; exact Array.toList_eq_nil_iff.1 hvs
            | cons x r => rw [hvs] at h2; cases h2
          | chan v => exact absurd hst (hnj v)
          | _ =>
            rw [hst] at ht
            simp only [Option.getD_none, undef] at ht
            cases ht with
            | w r => cases r with
              | c r => cases r with
                | s r => first | (cases r; done) | (cases r with | ice r => cases r)
        rw [this]
        rfl
      | some v =>
        rw [hv, Option.getD_some] at ht
        by_cases hb : ∃ b, v = .bool b
        · obtain ⟨b, rfl⟩ := hb
          rw [ht.inv_bool' (hnj _)]
          simp
        · have : ∀ b, s t ≠ .bool b := fun b hb2 => by
            rw [hb2] at ht
            exact hb ⟨b, ht.inv_bool⟩
          split
          · rename_i b hx
            exact absurd ⟨b, Option.some.inj hx⟩ hb
          · split
            · rename_i b hx
              exact absurd hx (this b)
            · rfl
theorem okAt_dst {ops : Array Oper} {o : Oper} (h : okAt n ops o s = true) : dstOk n o = true := by
  unfold okAt at h
  simp only [Bool.and_eq_true] at h
  exact h.1
theorem okAt_clear {ops : Array Oper} {o : Oper} (h : okAt n ops o s = true) : clear ops o s = true := by
  unfold okAt at h
  simp only [Bool.and_eq_true] at h
  exact h.2
theorem St.put {o : Oper} {v v' : Value} (S : St E n base h μ w s a) (hd : dstOk n o = true) (hv : VRel E h μ w.heap v v') : St E n base h μ w (put o v s) (a.put o.dst v') := by
  refine ⟨S.rel, S.base_le, ?_, ?_, ?_⟩
  · intro i
    unfold Fw.put Act.put
    cases ho : o.dst with
    | none => exact S.sl i
    | some d =>
      simp only [dstOk, ho] at hd
      have hlt : d < a.tmps.size := by rw [S.size]; simpa using hd
      simp only [upd]
      split
      · rename_i e
        subst e
        rw [Array.getD_eq_getD_getElem?, Array.getElem?_setIfInBounds_self_of_lt hlt]
        exact hv
      · rename_i e
        rw [Array.getD_eq_getD_getElem?, Array.getElem?_setIfInBounds_ne (fun h => e h.symm), ← Array.getD_eq_getD_getElem?]
        exact S.sl i
  · rw [← S.size]
    unfold Act.put
    cases o.dst <;> simp
  · rw [← S.defers]
    unfold Act.put
    cases o.dst <;> rfl
theorem St.go {h' : Heap} {μ' : Place} {w' : World} (S : St E n base h μ w s a) (R : Rel E h' μ' w'.heap base) (t : To base h μ w h' μ' w') : St E n base h' μ' w' s a :=
  ⟨R, Nat.le_trans S.base_le t.below.size, S.sl.mono t.ext, S.size, S.defers⟩
theorem step_sim (ok : EnvOk E P) (hc : ∀ i, CallSim E P (cf i)) {draw : Bool} {A : List (List Nat)} {i : Nat} {s' : Slots} {h' : Heap} {K : Act → World → Prop} {Q : Exit → Act → World → Prop} (S : St E n base h μ w s a) (hl : astep E cf draw A n ops i s h = some (s', h'))
    (hK : ∀ a' w' μ', St E n base h' μ' w' s' a' → To base h μ w h' μ' w' → K a' w') : wpOp P ops Q i K a w := by
  unfold astep at hl
  unfold wpOp
  split at hl
  · rename_i ho
    simp only [Option.some.injEq, Prod.mk.injEq] at hl
    obtain ⟨rfl, rfl⟩ := hl
    rw [ho]
    exact hK a w μ S (To.refl _ _ _ _)
  · rename_i o ho
    rw [ho]
    split at hl
    · rename_i hok
      have hd := okAt_dst hok
      simp only [wants_rel (ops := ops) S.sl o (okAt_clear hok)]
      split at hl
      · rename_i hw
        split at hl
        · rename_i v h2 hop
          simp only [Option.some.injEq, Prod.mk.injEq] at hl
          obtain ⟨rfl, rfl⟩ := hl
          rw [if_pos hw]
          have hc2 : CallSim E P (if (draw && roAt E A ops.toList i o) = true then roCall (cf i) else cf i) := by
            split
            · exact (hc i).ro
            · exact hc i
          refine .inl (op_sim ok hc2 S.rel S.base_le S.sl hop fun v' w' μ' q1 q2 q3 q4 => ?_)
          have t : To base h μ w h2 μ' w' := ⟨q2, q3⟩
          exact hK _ w' μ' ((S.go q1 t).put hd q4) t
        · cases hl
      · rename_i hw
        simp only [Option.some.injEq, Prod.mk.injEq] at hl
        obtain ⟨rfl, rfl⟩ := hl
        rw [if_neg hw]
        exact hK _ w μ (S.put hd VRel.undef) (To.refl _ _ _ _)
    · cases hl
theorem run_sim (ok : EnvOk E P) (hc : ∀ i, CallSim E P (cf i)) {draw : Bool} {A : List (List Nat)} {Q : Exit → Act → World → Prop} : ∀ (l : List Nat) {h : Heap} {μ : Place} {w : World} {s : Slots} {a : Act} {s' : Slots} {h' : Heap}, St E n base h μ w s a → arun E cf draw A n ops l s h = some (s', h') →
    (∀ a' w' μ', St E n base h' μ' w' s' a' → To base h μ w h' μ' w' → Q .normal a' w') → wpOps P ops Q l a w
  | [], h, μ, w, s, a, s', h', S, hl, hQ => by
    simp only [arun, Option.some.injEq, Prod.mk.injEq] at hl
    obtain ⟨rfl, rfl⟩ := hl
    exact hQ a w μ S (To.refl _ _ _ _)
  | i :: r, h, μ, w, s, a, s', h', S, hl, hQ => by
    simp only [arun] at hl
    split at hl
    · rename_i s1 h1 h2
      rw [wpOps_cons]
      refine step_sim ok hc S h2 fun a1 w1 μ1 S1 t1 => ?_
      exact run_sim ok hc r S1 hl fun a' w' μ' S' t' => hQ a' w' μ' S' (t1.trans t')
    · cases hl
end
end Go.Fw
