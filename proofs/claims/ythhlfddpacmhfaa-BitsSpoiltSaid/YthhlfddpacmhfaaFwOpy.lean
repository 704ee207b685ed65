/- One operation, whichever it is. -/
import Derived.Test.YthhlfddpacmhfaaFwOpx
namespace Go.Fw
open Go.RowKit

/-- What a call of the machine's comes to in Go's. -/
def CallSim (E : Env) (P : Program) (cf : CallF) : Prop := ∀ f args h v h', cf f args h = some (v, h') →
  (∃ fn, E.funcs f = some fn ∧ fn.body.isSome = true) ∧
  ∀ (μ : Place) (base : Nat) (w : World) (args' : Array Value), Rel E h μ w.heap base → base ≤ w.heap.size → All2 (VRel E h μ w.heap) args args'.toList →
    Calls P f args' w fun e w' => ∃ v' μ', e = .returned v' ∧ Rel E h' μ' w'.heap base ∧ Ext h μ w.heap h' μ' w'.heap ∧ Below base w w' ∧ VRel E h' μ' w'.heap v v'

section
variable {E : Env} {P : Program} {h : Heap} {μ : Place} {base : Nat} {w : World}

theorem Ext.ro (h : Heap) (μ : Place) (H : Mem) : Ext0 h μ H h.ro μ H := by
  refine ⟨Nat.le_refl _, fun _ _ => rfl, fun b x' hb hx => ?_, fun k cs T fr hk => ⟨cs, fr, hk, rfl⟩⟩
  · have hb' : b < h.next := hb
    simp only [Heap.ro, hb', if_true] at hx
    obtain ⟨x, h1, rfl⟩ := Option.map_eq_some_iff.1 hx
    exact ⟨x, h1, rfl⟩

theorem Rel.ro {H : Mem} (R : Rel E h μ H base) (base' : Nat) : Rel E h.ro μ H base' := by
  have key : ∀ b x, h.ro.get b = some x → ∃ y, h.get b = some y ∧ x = { y with own := false } := fun b x hx => by
    have hn : h.ro.get b = if b < h.next then (h.get b).map (fun x => { x with own := false }) else h.get b := rfl
    rw [hn] at hx
    split at hx
    · obtain ⟨y, h1, rfl⟩ := Option.map_eq_some_iff.1 hx
      exact ⟨y, h1, rfl⟩
    · rename_i hb
      exact absurd (R.blk b x hx).1 hb
  refine ⟨fun b x hx => ?_, fun b b' x x' h1 h2 hne ho => ?_⟩
  · obtain ⟨y, hy, rfl⟩ := key b x hx
    obtain ⟨hlt, cs, fr, hH, hl, hc, _⟩ := R.blk b y hy
    exact ⟨hlt, cs, fr, hH, hl, fun i v hi => let ⟨v', a1, a2⟩ := hc i v hi; ⟨v', a1, a2.mono0 (Ext.ro h μ H)⟩, fun ho => by cases ho⟩
  · obtain ⟨y, hy, rfl⟩ := key b x h1
    cases ho

/-- A call that wrote nothing: what was there may go on being written. -/
theorem CallSim.ro {cf : CallF} (c : CallSim E P cf) : CallSim E P (roCall cf) := by
  intro f args h v h' hl
  unfold roCall at hl
  split at hl
  · rename_i v2 h2 hcf
    simp only [Option.some.injEq, Prod.mk.injEq] at hl
    obtain ⟨rfl, rfl⟩ := hl
    obtain ⟨hf, hc⟩ := c f args h.ro v2 h2 hcf
    refine ⟨hf, fun μ base w args' R hbase ha => ?_⟩
    refine Calls.mono (hc μ w.heap.size w args' (R.ro _) (Nat.le_refl _) (ha.mono fun _ _ r => r.mono0 (Ext.ro h μ w.heap))) fun e w' he => ?_
    obtain ⟨v', μ', rfl, R', ex, bl, hv⟩ := he
    have hnx : h.next ≤ h2.next := ex.next
    have old : ∀ b x, b < h.next → h.get b = some x → h2.get b = some { x with own := false } := fun b x hb hx => ex.keep b { x with own := false } hb (by simp only [Heap.ro, hb, if_true, hx, Option.map_some]) rfl
    have e1 : Ext0 h2 μ' w'.heap (h.merge h2) μ' w'.heap := by
      refine ⟨Nat.le_refl _, fun _ _ => rfl, fun b x' hb hx => ?_, fun k cs T fr hk => ⟨cs, fr, hk, rfl⟩⟩
      simp only [Heap.merge] at hx
      split at hx
      · rename_i hb2
        exact ⟨_, old b x' hb2 hx, rfl⟩
      · exact ⟨x', hx, rfl⟩
    have e2 : Ext h μ w.heap (h.merge h2) μ' w'.heap := by
      refine ⟨hnx, ex.mu, fun b x' hb hx => ?_, fun b x hb hx ho => ?_, fun b x h1 h2' hx => ?_, ex.mem⟩
      · simp only [Heap.merge, hb, if_true] at hx
        exact ⟨x', hx, rfl, rfl⟩
      · simp only [Heap.merge, hb, if_true]
        exact hx
      · simp only [Heap.merge, Nat.not_lt.2 h1, if_false] at hx
        exact ex.fresh b x h1 h2' hx
    have inb : ∀ (k : Nat) o, w.heap[k]? = some o → k < w.heap.size := fun k o hk => by
      rcases Nat.lt_or_ge k w.heap.size with h | h
      · exact h
      · rw [Array.getElem?_eq_none h] at hk; cases hk
    refine ⟨v', μ', rfl, ⟨fun b x hx => ?_, fun b b' x x' h1 h2' hne ho => ?_⟩, e2, bl.mono hbase, hv.mono0 e1⟩
    · by_cases hb : b < h.next
      · simp only [Heap.merge, hb, if_true] at hx
        obtain ⟨hlt, cs, fr, hH, hl, hc, hown⟩ := R.blk b x hx
        refine ⟨Nat.lt_of_lt_of_le hlt hnx, cs, fr, ?_, ?_, fun i v hi => ?_, ?_⟩
        · rw [ex.mu b hb, bl.block _ (inb _ _ hH)]; exact hH
        · rw [ex.mu b hb]; exact hl
        · obtain ⟨u, a1, a2⟩ := hc i v hi
          exact ⟨u, by rw [ex.mu b hb]; exact a1, a2.mono e2⟩
        · rw [ex.mu b hb]; exact hown
      · simp only [Heap.merge, hb, if_false] at hx
        obtain ⟨hlt, cs, fr, hH, hl, hc, hown⟩ := R'.blk b x hx
        exact ⟨hlt, cs, fr, hH, hl, fun i v hi => let ⟨u, a1, a2⟩ := hc i v hi; ⟨u, a1, a2.mono0 e1⟩, fun ho => ⟨Nat.le_trans hbase (hown ho).1, (hown ho).2⟩⟩
    · -- two blocks
      have lo : ∀ c y, c < h.next → h.get c = some y → (μ' c).1 < w.heap.size := fun c y hc hy => by
        obtain ⟨_, cs, fr, hH, _⟩ := R.blk c y hy
        rw [ex.mu c hc]
        exact inb _ _ hH
      by_cases hb : b < h.next
      · simp only [Heap.merge, hb, if_true] at h1
        by_cases hb' : b' < h.next
        · simp only [Heap.merge, hb', if_true] at h2'
          rw [ex.mu b hb, ex.mu b' hb']
          exact R.inj b b' x x' h1 h2' hne ho
        · simp only [Heap.merge, hb', if_false] at h2'
          have h3 := lo b x hb h1
          have h4 := ((R'.blk b' x' h2').2)
          obtain ⟨_, _, _, _, _, ho2⟩ := h4
          have := (ho2 (ex.fresh b' x' (Nat.not_lt.1 hb') (R'.blk b' x' h2').1 h2')).1
          omega
      · simp only [Heap.merge, hb, if_false] at h1
        by_cases hb' : b' < h.next
        · simp only [Heap.merge, hb', if_true] at h2'
          exact R'.inj b b' x _ h1 (old b' x' hb' h2') hne ho
        · simp only [Heap.merge, hb', if_false] at h2'
          exact R'.inj b b' x x' h1 h2' hne ho
  · cases hl

theorem Rel.none {H : Mem} (μ : Place) (base : Nat) : Rel E Heap.none μ H base := by
  refine ⟨fun b x hx => ?_, fun b b' x x' h1 => ?_⟩
  · cases hx
  · cases h1

theorem Rel.stay {H H' : Mem} (R : Rel E h μ H base) (hs : ∀ k, k < H.size → H'[k]? = H[k]?) : Rel E h μ H' base ∧ Ext h μ H h μ H' := by
  have inb : ∀ (k : Nat) o, H[k]? = some o → k < H.size := fun k o hk => by
    rcases Nat.lt_or_ge k H.size with h | h
    · exact h
    · rw [Array.getElem?_eq_none h] at hk; cases hk
  have e : Ext h μ H h μ H' := ⟨Nat.le_refl _, fun _ _ => rfl, fun _ x' _ hx => ⟨x', hx, rfl, rfl⟩, fun _ _ _ hx _ => hx, fun _ _ h1 h2 _ => absurd h2 (Nat.not_lt.2 h1), fun k cs T fr hk => ⟨cs, fr, by rw [hs k (inb _ _ hk)]; exact hk, rfl⟩⟩
  refine ⟨⟨fun b x hx => ?_, R.inj⟩, e⟩
  obtain ⟨hlt, cs, fr, hH, hl, hc, hown⟩ := R.blk b x hx
  exact ⟨hlt, cs, fr, by rw [hs _ (inb _ _ hH)]; exact hH, hl, fun i v hi => let ⟨v', a1, a2⟩ := hc i v hi; ⟨v', a1, a2.mono e⟩, hown⟩

theorem flat_s {h2 : Heap} {μ2 : Place} {H H2 : Mem} {v v' : Value} (hf : flat v = true) (r : VRel E h μ H v v') : VRel E h2 μ2 H2 v v' := by
  cases v <;> simp only [flat] at hf <;> try (cases hf; done)
  case bool b => rw [r.inv_bool]; exact .bool b
  case int k n => rw [r.inv_int]; exact .int k n
  case string s => rw [r.inv_string]; exact .string s
theorem flat_w {h2 : Heap} {μ2 : Place} {H H2 : Mem} {v v' : Value} (hf : flat v = true) (r : WRel E h μ H v v') : WRel E h2 μ2 H2 v v' := by
  have := flat_s (h2 := h2) (μ2 := μ2) (H2 := H2) hf (VRel.w r)
  cases this with
  | w r => exact r
  | tuple => cases hf
theorem noPtr_rel {h2 : Heap} {μ2 : Place} {H H2 : Mem} {v v' : Value} (hf : noPtr v = true) (r : VRel E h μ H v v') : VRel E h2 μ2 H2 v v' := by
  cases v <;> simp only [noPtr] at hf <;> try (cases hf; done)
  case bool b => rw [r.inv_bool]; exact .bool b
  case int k n => rw [r.inv_int]; exact .int k n
  case string s => rw [r.inv_string]; exact .string s
  case tuple vs =>
    obtain ⟨a', rfl, h1⟩ := r.inv_tuple
    refine .tuple ?_
    have key : ∀ (l m : List Value), l.all flat = true → All2 (WRel E h μ H) l m → All2 (WRel E h2 μ2 H2) l m := by
      intro l m hl hr
      induction hr with
      | nil => exact .nil
      | cons h1 _ ih =>
        simp only [List.all_cons, Bool.and_eq_true] at hl
        exact .cons (flat_w hl.1 h1) (ih hl.2)
    exact key _ _ hf h1

theorem CallSim.framed {cf : CallF} (c : CallSim E P cf) : CallSim E P (callOf E cf) := by
  intro f args h v h' hl
  unfold callOf at hl
  split at hl
  · unfold frameCall at hl
    split at hl
    · rename_i hfl
      split at hl
      · rename_i v2 h2 hcf
        split at hl
        · rename_i hnp
          simp only [Option.some.injEq, Prod.mk.injEq] at hl
          obtain ⟨rfl, rfl⟩ := hl
          obtain ⟨hf, hc⟩ := c f args Heap.none v2 h2 hcf
          refine ⟨hf, fun μ base w args' R hbase ha => ?_⟩
          have key : ∀ (l m : List Value), l.all flat = true → All2 (VRel E h μ w.heap) l m → All2 (VRel E Heap.none μ w.heap) l m := by
            intro l m hl hr
            induction hr with
            | nil => exact .nil
            | cons h1 _ ih =>
              simp only [List.all_cons, Bool.and_eq_true] at hl
              exact .cons (flat_s hl.1 h1) (ih hl.2)
          refine Calls.mono (hc μ w.heap.size w args' (Rel.none _ _) (Nat.le_refl _) (key _ _ hfl ha)) fun e w' he => ?_
          obtain ⟨v', μ', rfl, _, _, bl, hv⟩ := he
          obtain ⟨R2, e2⟩ := R.stay (H' := w'.heap) fun k hk => bl.block k hk
          exact ⟨v', μ, rfl, R2, e2, bl.mono hbase, noPtr_rel hnp hv⟩
        · cases hl
      · cases hl
    · cases hl
  · exact c f args h v h' hl

theorem run_asBool (b : Bool) : (asBool (.bool b)).run P w = .ok b w := rfl

/-- From what an operation yields. -/
theorem of_sim {o : Oper} {a : Act} {S : Sem Value} {v : Value} {h' : Heap} {K : Act → World → Prop} {Q : Exit → Act → World → Prop} (he : execOp a.eval o = (do pure (.value (← S)))) (hs : Sim E base h μ w h' v (S.run P w))
    (hK : ∀ v' w' μ', Rel E h' μ' w'.heap base → Ext h μ w.heap h' μ' w'.heap → Below base w w' → VRel E h' μ' w'.heap v v' → K (a.put o.dst v') w') : o.wp P a w K Q := by
  obtain ⟨v', μ', w', hr, h1, h2, h3, h4⟩ := hs
  unfold Oper.wp
  rw [he]
  simp only [Sem.run_bind, hr, Result.andThen_ok, Sem.run_pure]
  exact hK v' w' μ' h1 h2 h3 h4

theorem All2.mapS {H : Mem} {xs : List Value} {ys : List Value} (hv : All2 (VRel E h μ H) xs ys) (hs : ∀ x ∈ xs, ∀ y, VRel E h μ H x y → SRel E h μ H x y) : All2 (SRel E h μ H) xs ys := by
  induction hv with
  | nil => exact .nil
  | cons h1 _ ih => exact .cons (hs _ (by simp) _ h1) (ih fun x hx => hs x (by simp [hx]))

theorem VRel.toS {H : Mem} {x y : Value} (hv : VRel E h μ H x y) (hx : simple x = true) : SRel E h μ H x y := by
  cases hv with
  | tuple => simp [simple] at hx
  | w r => cases r with
    | agg => simp [simple] at hx
    | c r => cases r with
      | s r => exact r
      | func => simp [simple] at hx

theorem SRel.allV {H : Mem} {xs ys : List Value} (hv : All2 (SRel E h μ H) xs ys) : All2 (VRel E h μ H) xs ys := hv.mono fun _ _ r => .s r

theorem op_sim (ok : EnvOk E P) {cf : CallF} (hc : CallSim E P cf) {o : Oper} {a : Act} {s : Slots} {v : Value} {h' : Heap} {K : Act → World → Prop} {Q : Exit → Act → World → Prop} (R : Rel E h μ w.heap base) (hbase : base ≤ w.heap.size) (hs : SlotsRel E h μ w.heap s a.tmps) (hl : aop E cf o.op s h = some (v, h'))
    (hK : ∀ v' w' μ', Rel E h' μ' w'.heap base → Ext h μ w.heap h' μ' w'.heap → Below base w w' → VRel E h' μ' w'.heap v v' → K (a.put o.dst v') w') : o.wp P a w K Q := by
  obtain ⟨dst, op, type, pos, after, guard⟩ := o
  have kp : ∀ {x : Option Value}, keep h x = some (v, h') → x = some v ∧ h' = h := fun {x} hx => by
    unfold keep at hx
    split at hx
    · simp only [Option.some.injEq, Prod.mk.injEq] at hx
      exact ⟨by rw [hx.1], hx.2.symm⟩
    · cases hx
  have pure1 : ∀ (x : Operand), ev s x = some v → h' = h → Sim E base h μ w h' v ((pure (a.eval x) : Sem Value).run P w) := fun x hx he => by
    subst he
    exact Sim.pure R (ev_rel hs hx)
  cases op <;> simp only [aop] at hl <;> try (cases hl; done)
  case move x =>
    obtain ⟨h1, rfl⟩ := kp hl
    exact of_sim (S := pure (a.eval x)) rfl (pure1 x h1 rfl) hK
  case assign x =>
    obtain ⟨h1, rfl⟩ := kp hl
    exact of_sim (S := pure (a.eval x)) rfl (pure1 x h1 rfl) hK
  case pick c x y =>
    split at hl
    · rename_i t hcv
      obtain ⟨h1, rfl⟩ := kp hl
      have hb := (ev_rel hs hcv).inv_bool
      refine of_sim (S := do pure (if ← asBool (a.eval c) then a.eval x else a.eval y)) (by simp [execOp]) ?_ hK
      rw [hb]
      simp only [Sem.run_bind, run_asBool, Result.andThen_ok, Sem.run_pure]
      refine Sim.pure R ?_
      cases t
      · simpa using ev_rel hs (by simpa using h1)
      · simpa using ev_rel hs (by simpa using h1)
    · cases hl
  case alloc t => exact of_sim rfl (sim_alloc ok R hbase hl) hK
  case box t x =>
    split at hl
    · rename_i u hu
      exact of_sim rfl (sim_box R hbase hl (ev_rel hs hu)) hK
    · cases hl
  case build t ps =>
    split at hl
    · rename_i l hp
      obtain ⟨h1, rfl⟩ := kp hl
      have := sim_build ok R h1 (evp_rel hs hp)
      refine of_sim rfl ?_ hK
      have e : (ps.map fun (i, x) => (i, a.eval x)) = ((ps.toList.map fun p => (p.1, a.eval p.2)).toArray) := by
        apply Array.ext'
        simp
      rw [e]
      exact this
    · cases hl
  case buildSlice t n ps =>
    split at hl
    · rename_i l hp
      have := sim_buildSlice ok R hbase hl (evp_rel hs hp)
      refine of_sim rfl ?_ hK
      have e : (ps.map fun (i, x) => (i, a.eval x)) = ((ps.toList.map fun p => (p.1, a.eval p.2)).toArray) := by
        apply Array.ext'
        simp
      rw [e]
      exact this
    · cases hl
  case load t x =>
    split at hl
    · rename_i u hu
      obtain ⟨h1, rfl⟩ := kp hl
      exact of_sim rfl (sim_load ok R h1 (ev_rel hs hu)) hK
    · cases hl
  case store t x y =>
    split at hl
    · rename_i u u2 hu hu2
      split at hl
      · rename_i h2 hst
        simp only [Option.some.injEq, Prod.mk.injEq] at hl
        obtain ⟨rfl, rfl⟩ := hl
        obtain ⟨w', q1, q2, q3, q4⟩ := sim_store ok R hst (ev_rel hs hu) (ev_rel hs hu2)
        unfold Oper.wp
        simp only [execOp, Sem.run_bind, q1, Result.andThen_ok, Sem.run_pure]
        exact hK undef w' μ q2 q3 q4 VRel.undef
      · cases hl
    · cases hl
  case nilCheck x =>
    split at hl
    · rename_i ad hu
      simp only [Option.some.injEq, Prod.mk.injEq] at hl
      obtain ⟨rfl, rfl⟩ := hl
      have hv := ev_rel hs hu
      obtain ⟨a', ha⟩ := hv.inv_some
      unfold Oper.wp
      simp only [execOp, ha, Sem.run_pure]
      rw [ha] at hv
      exact hK _ w μ R (Ext.refl _ _ _) (Below.refl _ _) hv
    · cases hl
  case binOp op t x y p =>
    split at hl
    · rename_i u u2 hu hu2
      obtain ⟨h1, rfl⟩ := kp hl
      exact of_sim rfl (sim_bin ok R x y h1 (ev_rel hs hu) (ev_rel hs hu2)) hK
    · cases hl
  case unOp op t x =>
    split at hl
    · rename_i u hu
      obtain ⟨h1, rfl⟩ := kp hl
      exact of_sim rfl (sim_un R h1 (ev_rel hs hu)) hK
    · cases hl
  case convert src dst x =>
    split at hl
    · rename_i u hu
      exact of_sim rfl (sim_convert ok R hbase hl (ev_rel hs hu)) hK
    · cases hl
  case makeFunc fn first captured =>
    split at hl
    · rename_i l r h1 h2
      split at hl
      · rename_i hsim
        simp only [Bool.and_eq_true, List.all_eq_true] at hsim
        simp only [Option.some.injEq, Prod.mk.injEq] at hl
        obtain ⟨rfl, rfl⟩ := hl
        have g1 := (evs_rel hs h1).mapS fun x hx y hxy => hxy.toS (hsim.1 x hx)
        have g2 := (evs_rel hs h2).mapS fun x hx y hxy => hxy.toS (hsim.2 x hx)
        exact of_sim (S := Instr.makeFunc fn (first.map a.eval) (captured.map a.eval)) rfl (Sim.pure R (.w (.c (.func fn (by simpa using g1) (by simpa using g2))))) hK
      · cases hl
    · cases hl
  case makeSlice t x y =>
    split at hl
    · rename_i u u2 hu hu2
      exact of_sim rfl (sim_makeSlice ok R hbase hl (ev_rel hs hu) (ev_rel hs hu2)) hK
    · cases hl
  case slice t x lo hi mx =>
    split at hl
    · rename_i u l r m hu h1 h2 h3
      obtain ⟨h4, rfl⟩ := kp hl
      have evo_rel : ∀ {x : Option Operand} {v : Option Value}, evo s x = some v → (v = none ∧ x.map a.eval = none) ∨ ∃ u u', v = some u ∧ x.map a.eval = some u' ∧ VRel E h' μ w.heap u u' := fun {x v} hx => by
        cases x with
        | none => simp only [evo, Option.some.injEq] at hx; subst hx; exact .inl ⟨rfl, rfl⟩
        | some x =>
          obtain ⟨u, g1, rfl⟩ := Option.map_eq_some_iff.1 hx
          exact .inr ⟨u, _, rfl, rfl, ev_rel hs g1⟩
      refine of_sim rfl ?_ hK
      have some_ : ∀ {x : Option Operand} {v : Option Value}, evo s x = some v → ∀ u, v = some u → ∃ u', x.map a.eval = some u' ∧ VRel E h' μ w.heap u u' := fun hx u hu => by
        rcases evo_rel hx with ⟨q1, _⟩ | ⟨u2, u', q1, q2, q3⟩
        · rw [q1] at hu; cases hu
        · rw [q1] at hu
          obtain rfl := Option.some.inj hu
          exact ⟨u', q2, q3⟩
      have none_ : ∀ {x : Option Operand} {v : Option Value}, evo s x = some v → v = none → x.map a.eval = none := fun hx hu => by
        rcases evo_rel hx with ⟨_, q2⟩ | ⟨u2, u', q1, q2, q3⟩
        · exact q2
        · rw [q1] at hu; cases hu
      exact sim_slice ok R h4 (ev_rel hs hu) (some_ h1) (none_ h1) (some_ h2) (none_ h2) (some_ h3) (none_ h3)
    · cases hl
  case fieldAddr t x f =>
    split at hl
    · rename_i u hu
      obtain ⟨h1, rfl⟩ := kp hl
      exact of_sim rfl (sim_fieldAddr ok R h1 (ev_rel hs hu)) hK
    · cases hl
  case field t x f =>
    split at hl
    · rename_i u hu
      obtain ⟨h1, rfl⟩ := kp hl
      exact of_sim rfl (sim_field ok R h1 (ev_rel hs hu)) hK
    · cases hl
  case indexAddr t x i =>
    split at hl
    · rename_i u u2 hu hu2
      obtain ⟨h1, rfl⟩ := kp hl
      exact of_sim rfl (sim_indexAddr ok R h1 (ev_rel hs hu) (ev_rel hs hu2)) hK
    · cases hl
  case index t x i =>
    split at hl
    · rename_i u u2 hu hu2
      obtain ⟨h1, rfl⟩ := kp hl
      exact of_sim rfl (sim_index ok R h1 (ev_rel hs hu) (ev_rel hs hu2)) hK
    · cases hl
  case extract x i =>
    split at hl
    · rename_i u hu
      obtain ⟨h1, rfl⟩ := kp hl
      exact of_sim rfl (sim_extract R h1 (ev_rel hs hu)) hK
    · cases hl
  case call c =>
    split at hl
    · rename_i b args hcal hargs
      have ha := evs_rel hs hargs
      obtain ⟨S, e1, e2⟩ := sim_builtin (ty := type) (cs := (c.args.map fun | .const _ => true | _ => false)) ok R hbase hl ha
      refine of_sim (S := S) ?_ e2 hK
      rw [← e1]
      simp only [execOp, resolve, hcal, pure_bind, invoke]
      congr 1
      apply Array.ext'
      simp
    · rename_i f args hcal hargs
      split at hl
      · rename_i fv hfv
        split at hl
        · rename_i g l htg
          unfold targetOf at htg
          split at htg
          · rename_i g' first captured
            simp only [Option.some.injEq, Prod.mk.injEq] at htg
            obtain ⟨rfl, rfl⟩ := htg
            have ha := evs_rel hs hargs
            obtain ⟨f', c', hfe, q1, q2⟩ := (ev_rel hs hfv).inv_func
            obtain ⟨⟨fn, hfn, hbody⟩, hcall⟩ := hc.framed _ _ _ _ _ hl
            obtain ⟨hP, hname⟩ := ok.funcs _ fn hfn
            have hbody' : fn.body.isNone = false := by cases hb : fn.body <;> simp_all
            unfold Oper.wp
            have hrun : (execOp a.eval { dst, op := .call c, type, pos, after, guard }).run P w = .ok (.enter g' ((f' ++ c.args.map a.eval) ++ c')) w := by
              simp only [execOp, resolve, hcal, hfe, Deferred.ofValue, pure_bind, invoke, callFunc, Sem.run_bind, run_program, Result.andThen_ok, hP, hname, hbody', Bool.false_eq_true, if_false, Sem.run_pure]
            rw [hrun, Oper.upon_enter]
            have hargs2 : All2 (VRel E h μ w.heap) (first.toList ++ args ++ captured.toList) ((f' ++ c.args.map a.eval) ++ c').toList := by
              rw [Array.toList_append, Array.toList_append, Array.toList_map]
              exact ((SRel.allV q1).append ha).append (SRel.allV q2)
            refine Calls.mono (hcall μ base w _ R hbase hargs2) fun e w' he => ?_
            obtain ⟨v', μ', rfl, g1, g2, g3, g4⟩ := he
            exact hK v' w' μ' g1 g2 g3 g4
          · cases htg
        · cases hl
      · cases hl
    · cases hl
end

end Go.Fw
