/- What code comes to in Go's machine, told in our memory. Between two steps the memory may be viewed anew: blocks forgotten, numbered anew, told as values. -/
import Derived.Test.YtlejgfeoffhjoaaFwCode
import Derived.Deep.LoopGhost
import Derived.KernelRfl
namespace Go.Fw
open Go.RowKit
def envOf (P : Program) : Env where
  prog := P
  types t := match P.underlying t, P.info? t with
    | some d, some i => match i.zero with
      | some z => if z.cells.toList.length = i.size ∧ z.cells.toList.all okConst = true then some ⟨d, i.size, i.bytes, z.cells.toList, !P.stoodInHeld t && !P.eqGuardType P.depth t⟩ else none
      | none => none
    | _, _ => none
  funcs f := match P.funcs[f]? with
    | some fn => if (fn.name == "runtime.NumGoroutine") = true then none else some fn
    | none => none
  frame _ := false
def envWith (P : Program) (fs : List FuncId) : Env := { envOf P with frame := fun f => fs.contains f }
theorem envOf_ok {P : Program} (hm : P.follows .mixedOrders = true) (fs : List FuncId) : EnvOk (envWith P fs) P := by
  show EnvOk { envOf P with frame := fun f => fs.contains f } P
  refine ⟨fun t i hi => ?_, fun f fn hf => ?_, hm, fun t i hi he => ?_⟩
  · simp only [envOf] at hi
    split at hi
    · rename_i d ti h1 h2
      split at hi
      · rename_i z hz
        split at hi
        · rename_i hc
          obtain rfl := Option.some.inj hi
          exact ⟨h1, ti, z, h2, rfl, rfl, hz, rfl, hc.1, hc.2⟩
        · cases hi
      · cases hi
    · cases hi
  · simp only [envOf] at hf
    split at hf
    · rename_i fn' h1
      split at hf
      · cases hf
      · rename_i hn
        obtain rfl := Option.some.inj hf
        exact ⟨h1, by simpa using hn⟩
    · cases hf
  · simp only [envOf] at hi
    split at hi
    · split at hi
      · split at hi
        · obtain rfl := Option.some.inj hi
          simpa using he
        · cases hi
      · cases hi
    · cases hi
structure Tom (L base : Nat) (h : Heap) (μ : Place) (w : World) (h' : Heap) (μ' : Place) (w' : World) : Prop where
  below : Below base w w'
  next : L ≤ h'.next
  mu : ∀ b, b < L → μ' b = μ b
  back : ∀ b x', b < L → h'.get b = some x' → ∃ x, h.get b = some x ∧ x.elem = x'.elem ∧ x.own = x'.own
  mem : ∀ (k : Nat) (cs : Array Value) (T : TypeId) (fr : Nat × Nat), w.heap[k]? = some (.cells cs T fr) → ∃ cs' fr', w'.heap[k]? = some (.cells cs' T fr') ∧ cs'.size = cs.size
  ice : ∀ k, μ.Z k → μ'.Z k
  icy : ∀ k, μ.Y k → w'.heap[k]? = w.heap[k]?
  iced : ∀ k, μ'.Z k → μ.Z k ∨ ¬ μ.Y k
  iceY : ∀ k, μ.Y k → μ'.Y k
  icedY : ∀ k, μ'.Y k → μ.Y k ∨ μ'.Z k
section
variable {L base : Nat} {h h1 h2 : Heap} {μ μ1 μ2 : Place} {w w1 w2 : World}
theorem Tom.refl (hL : L ≤ h.next) : Tom L base h μ w h μ w :=
  ⟨Below.refl _ _, hL, fun _ _ => rfl, fun _ x' _ hx => ⟨x', hx, rfl, rfl⟩, fun _ cs _ fr hk => ⟨cs, fr, hk, rfl⟩, fun _ h => h, fun _ _ => rfl, fun _ h => .inl h, fun _ h => h, fun _ h => .inl h⟩
theorem Tom.trans (a : Tom L base h μ w h1 μ1 w1) (b : Tom L base h1 μ1 w1 h2 μ2 w2) : Tom L base h μ w h2 μ2 w2 := by
  refine ⟨a.below.trans b.below, b.next, fun k hk => (b.mu k hk).trans (a.mu k hk), fun k x' hk hx => ?_, fun k cs T fr hk => ?_, fun k hk => b.ice k (a.ice k hk), fun k hk => (b.icy k (a.iceY k hk)).trans (a.icy k hk), fun k hk => (b.iced k hk).elim (fun h => a.iced k h) fun h => .inr fun h' => h (a.iceY k h'), fun k hk => b.iceY k (a.iceY k hk), fun k hk => (b.icedY k hk).elim (fun h => (a.icedY k h).imp id (b.ice k)) fun h => .inr h⟩
  · obtain ⟨x1, g1, e1, o1⟩ := b.back k x' hk hx
    obtain ⟨x0, g0, e0, o0⟩ := a.back k x1 hk g1
    exact ⟨x0, g0, e0.trans e1, o0.trans o1⟩
  · obtain ⟨c1, f1, g1, s1⟩ := a.mem k cs T fr hk
    obtain ⟨c2, f2, g2, s2⟩ := b.mem k c1 T f1 g1
    exact ⟨c2, f2, g2, s2.trans s1⟩
theorem To.tom (t : To base h μ w h1 μ1 w1) (hL : L ≤ h.next) : Tom L base h μ w h1 μ1 w1 :=
  ⟨t.below, Nat.le_trans hL t.ext.next, fun b hb => t.ext.mu b (Nat.lt_of_lt_of_le hb hL), fun b x' hb hx => t.ext.back b x' (Nat.lt_of_lt_of_le hb hL) hx, t.ext.mem, t.ext.ice, t.ext.icy, t.ext.iced, t.ext.iceY, t.ext.icedY⟩
end
def View (L : Nat) (E : Env) (n : Nat) (s : Slots) (h : Heap) (s2 : Slots) (h2 : Heap) : Prop :=
  L ≤ h.next → ∀ base μ w a, St E n base h μ w s a → ∃ μ2, St E n base h2 μ2 w s2 a ∧ Tom L base h μ w h2 μ2 w
theorem View.refl {L : Nat} {E : Env} {n : Nat} {s : Slots} {h : Heap} : View L E n s h s h := fun hL _ μ _ _ S => ⟨μ, S, Tom.refl hL⟩
def Wp (L : Nat) (E : Env) (n : Nat) (c : Code) (s : Slots) (h : Heap) (K : AExit → Slots → Heap → Prop) : Prop :=
  EnvOk E E.prog → L ≤ h.next → ∀ (base : Nat) (μ : Place) (w : World) (a : Act) (Q : Exit → Act → World → Prop), St E n base h μ w s a →
    (∀ x s' h' a' w' μ', K x s' h' → St E n base h' μ' w' s' a' → Tom L base h μ w h' μ' w' → Q x.to a' w') → c.wp E.prog Q a w
def WpOps (E : Env) (n : Nat) (draw : Bool) (A : List (List Nat)) (ops : Array Oper) (l : List Oper) (i : Nat) (s : Slots) (h : Heap) (K : Slots → Heap → Prop) : Prop :=
  EnvOk E E.prog → ∃ cf : Nat → CallF, (∀ i, CallSim E E.prog (cf i)) ∧ ∃ s' h', aops E cf draw A n ops l i s h = some (s', h') ∧ K s' h'
def LoopW (P : Program) (c : Code) (Q : Exit → Act → World → Prop) (a : Act) (w : World) : Prop :=
  ∀ b k cs, ∃ e a' w', Q e a' w' ∧ Arrives P (lone (b.at a (.code c :: .inLoop c :: k)) cs w) b k cs e a' w'
theorem LoopW.step {P : Program} {c : Code} {Q : Exit → Act → World → Prop} {a : Act} {w : World} (hw : c.wp P (Exit.then (LoopW P c Q) Q) a w) : LoopW P c Q a w := by
  intro b k cs
  obtain ⟨e, a₁, w₁, hq, harr⟩ := hw b (.inLoop c :: k) cs
  cases e with
  | normal =>
    obtain ⟨e₂, a₂, w₂, hq₂, harr₂⟩ := hq b k cs
    exact ⟨e₂, a₂, w₂, hq₂, .of_steps (Steps.trans harr (.one step_inLoop)) harr₂⟩
  | exit id => exact ⟨_, a₁, w₁, hq, .pass (x := .inLoop c) rfl (fun _ _ => .inl (by simp)) harr⟩
  | goto l => exact ⟨_, a₁, w₁, hq, .pass (x := .inLoop c) rfl (fun _ _ => .inl (by simp)) harr⟩
  | ret => exact ⟨_, a₁, w₁, hq, .pass (x := .inLoop c) rfl (fun _ _ => .inl (by simp)) harr⟩
  | panic ch => exact ⟨_, a₁, w₁, hq, .pass (x := .inLoop c) rfl (fun _ _ => .inl (by simp)) harr⟩
  | outgrown => exact ⟨_, a₁, w₁, hq, .pass (x := .inLoop c) rfl (fun _ _ => .inl (by simp)) harr⟩
theorem LoopW.wp {P : Program} {c : Code} {Q : Exit → Act → World → Prop} {a : Act} {w : World} (hw : LoopW P c Q a w) : (Code.loop c).wp P Q a w := by
  intro b k cs
  obtain ⟨e, a', w', hq, harr⟩ := hw b k cs
  exact ⟨e, a', w', hq, .of_steps (.one step_loop) harr⟩
def WpL (L : Nat) (E : Env) (n : Nat) (c : Code) (s : Slots) (h : Heap) (K : AExit → Slots → Heap → Prop) : Prop :=
  EnvOk E E.prog → L ≤ h.next → ∀ (base : Nat) (μ : Place) (w : World) (a : Act) (Q : Exit → Act → World → Prop), St E n base h μ w s a →
    (∀ x s' h' a' w' μ', K x s' h' → St E n base h' μ' w' s' a' → Tom L base h μ w h' μ' w' → Q x.to a' w') → LoopW E.prog c Q a w
section
variable {L : Nat} {E : Env} {n : Nat} {s : Slots} {h : Heap} {K : AExit → Slots → Heap → Prop}
theorem Wp.mono {c : Code} {K' : AExit → Slots → Heap → Prop} (hw : Wp L E n c s h K) (hk : ∀ x s h, K x s h → K' x s h) : Wp L E n c s h K' :=
  fun ok hL base μ w a Q S hQ => hw ok hL base μ w a Q S fun x s' h' a' w' μ' k => hQ x s' h' a' w' μ' (hk _ _ _ k)
theorem Wp.view {c : Code} {s2 : Slots} {h2 : Heap} (v : View L E n s h s2 h2) (hw : Wp L E n c s2 h2 K) : Wp L E n c s h K := by
  intro ok hL base μ w a Q S hQ
  obtain ⟨μ2, S2, t⟩ := v hL base μ w a S
  exact hw ok t.next base μ2 w a Q S2 fun x s' h' a' w' μ' k S' t' => hQ x s' h' a' w' μ' k S' (t.trans t')
def thenK (N : Slots → Heap → Prop) (K : AExit → Slots → Heap → Prop) : AExit → Slots → Heap → Prop
  | .normal, s, h => N s h
  | x, s, h => K x s h
def blockK (id : Nat) (K : AExit → Slots → Heap → Prop) : AExit → Slots → Heap → Prop
  | .exit i, s, h => if i = id then K .normal s h else K (.exit i) s h
  | x, s, h => K x s h
theorem Wp.skip (hk : K .normal s h) : Wp L E n .skip s h K := fun _ hL _ μ w a _ S hQ => wp_skip (hQ _ _ _ a w μ hk S (Tom.refl hL))
theorem Wp.label {l : Nat} (hk : K .normal s h) : Wp L E n (.label l) s h K := fun _ hL _ μ w a _ S hQ => wp_label (hQ _ _ _ a w μ hk S (Tom.refl hL))
theorem Wp.exit {id : Nat} (hk : K (.exit id) s h) : Wp L E n (.exit id) s h K := fun _ hL _ μ w a _ S hQ => wp_exit (hQ _ _ _ a w μ hk S (Tom.refl hL))
theorem Wp.ret (hk : K .ret s h) : Wp L E n .ret s h K := fun _ hL _ μ w a _ S hQ => wp_ret (hQ _ _ _ a w μ hk S (Tom.refl hL))
theorem Wp.seq {a b : Code} (hw : Wp L E n a s h (thenK (fun s h => Wp L E n b s h K) K)) : Wp L E n (.seq a b) s h K := by
  intro ok hL base μ w a0 Q S hQ
  refine wp_seq (hw ok hL base μ w a0 _ S fun x s' h' a' w' μ' k S' t => ?_)
  cases x with
  | normal => exact k ok t.next base μ' w' a' Q S' fun x s2 h2 a2 w2 μ2 k2 S2 t2 => hQ x s2 h2 a2 w2 μ2 k2 S2 (t.trans t2)
  | exit id => exact hQ _ _ _ _ _ _ k S' t
  | ret => exact hQ _ _ _ _ _ _ k S' t
theorem Wp.cond {c : Operand} {a b : Code} {t : Bool} (hc : ev s c = some (.bool t)) (hw : Wp L E n (bif t then a else b) s h K) : Wp L E n (.cond c a b) s h K := by
  intro ok hL base μ w a0 Q S hQ
  refine wp_cond (ev_rel S.sl hc).inv_bool ?_
  have := hw ok hL base μ w a0 Q S hQ
  cases t <;> exact this
theorem Wp.block {id : Nat} {b : Code} (hw : Wp L E n b s h (blockK id K)) : Wp L E n (.block id b) s h K := by
  intro ok hL base μ w a0 Q S hQ
  apply wp_block
  refine hw ok hL base μ w a0 _ S fun x s' h' a' w' μ' k S' t => ?_
  cases x with
  | normal => exact hQ _ _ _ _ _ _ k S' t
  | ret => exact hQ _ _ _ _ _ _ k S' t
  | exit i =>
    simp only [blockK] at k
    simp only [AExit.to, Exit.inBlock]
    split
    · rename_i hi
      rw [if_pos hi] at k
      exact hQ _ _ _ _ _ _ k S' t
    · rename_i hi
      rw [if_neg hi] at k
      exact hQ _ _ _ _ _ _ k S' t
theorem Wp.loop {G : Type} {b : Code} (S : G → Slots) (H : G → Heap) (M : G → Nat) (I : G → Prop) (g0 : G) (h0 : View L E n s h (S g0) (H g0)) (i0 : I g0)
    (hr : ∀ g, I g → Wp L E n b (S g) (H g) (thenK (fun s h => ∃ g', M g' < M g ∧ I g' ∧ View L E n s h (S g') (H g')) K)) : Wp L E n (.loop b) s h K := by
  intro ok hL base μ w a Q S0 hQ
  refine wp_loop_ghost (fun m a' w' => ∃ g μ', M g = m ∧ I g ∧ St E n base (H g) μ' w' (S g) a' ∧ Tom L base h μ w (H g) μ' w') (M g0) ?_ ?_
  · obtain ⟨μ2, S2, t⟩ := h0 hL base μ w a S0
    exact ⟨g0, μ2, rfl, i0, S2, t⟩
  · rintro m a1 w1 ⟨g, μ1, rfl, hI, S1, t1⟩
    refine hr g hI ok t1.next base μ1 w1 a1 _ S1 fun x s' h' a' w' μ' k S' t' => ?_
    cases x with
    | normal =>
      obtain ⟨g', hlt, hI', v⟩ := k
      obtain ⟨μ2, S2, t2⟩ := v t'.next base μ' w' a' S'
      exact ⟨M g', hlt, g', μ2, rfl, hI', S2, (t1.trans t').trans t2⟩
    | exit id => exact hQ _ _ _ _ _ _ k S' (t1.trans t')
    | ret => exact hQ _ _ _ _ _ _ k S' (t1.trans t')
theorem WpL.loop {G : Type} {b : Code} (S : G → Slots) (H : G → Heap) (M : G → Nat) (I : G → Prop) (g0 : G) (h0 : View L E n s h (S g0) (H g0)) (i0 : I g0)
    (hr : ∀ g, I g → Wp L E n b (S g) (H g) (thenK (fun s h => ∃ g', M g' < M g ∧ I g' ∧ View L E n s h (S g') (H g')) K)) : WpL L E n b s h K := by
  intro ok hL base μ w a Q S0 hQ
  have key : ∀ m g, M g = m → I g → ∀ μ' w' a', St E n base (H g) μ' w' (S g) a' → Tom L base h μ w (H g) μ' w' → LoopW E.prog b Q a' w' := by
    intro m
    induction m using Nat.strongRecOn with
    | _ m ih =>
      intro g hm hI μ1 w1 a1 S1 t1
      refine LoopW.step (hr g hI ok t1.next base μ1 w1 a1 _ S1 fun x s' h' a' w' μ' k S' t' => ?_)
      cases x with
      | normal =>
        obtain ⟨g', hlt, hI', v⟩ := k
        obtain ⟨μ2, S2, t2⟩ := v t'.next base μ' w' a' S'
        exact ih (M g') (hm ▸ hlt) g' rfl hI' μ2 w' a' S2 ((t1.trans t').trans t2)
      | exit id => exact hQ _ _ _ _ _ _ k S' (t1.trans t')
      | ret => exact hQ _ _ _ _ _ _ k S' (t1.trans t')
  obtain ⟨μ2, S2, t⟩ := h0 hL base μ w a S0
  exact key _ g0 rfl i0 μ2 w a S2 t
theorem Wp.unroll {b : Code} (hw : WpL L E n b s h K) : Wp L E n (.loop b) s h K := fun ok hL base μ w a0 Q S hQ => (hw ok hL base μ w a0 Q S hQ).wp
theorem WpL.step {b : Code} (hw : Wp L E n b s h (thenK (fun s h => WpL L E n b s h K) K)) : WpL L E n b s h K := by
  intro ok hL base μ w a0 Q S hQ
  refine LoopW.step (hw ok hL base μ w a0 _ S fun x s' h' a' w' μ' k S' t => ?_)
  cases x with
  | normal => exact k ok t.next base μ' w' a' Q S' fun x s2 h2 a2 w2 μ2 k2 S2 t2 => hQ x s2 h2 a2 w2 μ2 k2 S2 (t.trans t2)
  | exit id => exact hQ _ _ _ _ _ _ k S' t
  | ret => exact hQ _ _ _ _ _ _ k S' t
theorem Wp.region {id : Nat} {ops : Array Oper} {draw : Bool} (ho : (!draw || orderOk E ops.toList) = true) (hw : WpOps E n draw (if draw then aheads ops.toList else []) ops ops.toList 0 s h (fun s h => K .normal s h)) : Wp L E n (.region id ops draw) s h K := by
  intro ok hL base μ w a Q S hQ
  obtain ⟨cf, hcf, s', h', hr, hk⟩ := hw ok
  refine region_sim ok hcf (fun hd => ?_) S hr fun a' w' μ' S' t => hQ .normal _ _ _ _ _ hk S' (t.tom hL)
  rw [hd.1, hd.2] at ho
  cases ho
theorem Wp.text {id : Nat} {ops : Array Oper} (hw : WpOps E n false [] ops ops.toList 0 s h (fun s h => K .normal s h)) : Wp L E n (.region id ops false) s h K := Wp.region rfl hw
end
def SCall (E : Env) (f : FuncId) (args : List Value) (h : Heap) (v : Value) (h' : Heap) : Prop :=
  EnvOk E E.prog → (∃ fn, E.funcs f = some fn ∧ fn.body.isSome = true) ∧
  ∀ (μ : Place) (base : Nat) (w : World) (args' : Array Value), Rel E h μ w.heap base → base ≤ w.heap.size → All2 (VRel E h μ w.heap) args args'.toList →
    Calls E.prog f args' w fun e w' => ∃ v' μ', e = .returned v' ∧ Rel E h' μ' w'.heap base ∧ Ext h μ w.heap h' μ' w'.heap ∧ Below base w w' ∧ VRel E h' μ' w'.heap v v'
def WpCall (E : Env) (f : FuncId) (args : List Value) (h : Heap) (K : Value → Heap → Prop) : Prop := ∃ v h', SCall E f args h v h' ∧ K v h'
theorem WpCall.by {E : Env} {f : FuncId} {args : List Value} {h h' : Heap} {v : Value} {K : Value → Heap → Prop} (c : SCall E f args h v h') (k : K v h') : WpCall E f args h K := ⟨v, h', c, k⟩
open Classical in
noncomputable def one (f : FuncId) (args : List Value) (h : Heap) (v : Value) (h' : Heap) : CallF := fun f' args' g => if f' = f ∧ args' = args ∧ g = h then some (v, h') else none
theorem one_at (f : FuncId) (args : List Value) (h : Heap) (v : Value) (h' : Heap) : one f args h v h' f args h = some (v, h') := if_pos ⟨rfl, rfl, rfl⟩
theorem SCall.one {E : Env} {f : FuncId} {args : List Value} {h h' : Heap} {v : Value} (ok : EnvOk E E.prog) (c : SCall E f args h v h') : CallSim E E.prog (one f args h v h') := by
  intro f2 args2 g v2 g' hl
  unfold Fw.one at hl
  split at hl
  · rename_i e
    obtain ⟨rfl, rfl, rfl⟩ := e
    cases hl
    exact c ok
  · cases hl
def Fun (E : Env) (f : FuncId) (args : List Value) (u : Value) : Prop :=
  EnvOk E E.prog → (∃ fn, E.funcs f = some fn ∧ fn.body.isSome = true) ∧ iceV E Heap.none u = some u ∧
  ∀ (base : Nat) (μ : Place) (w : World) (args' : Array Value), Rel E Heap.none μ w.heap base → base ≤ w.heap.size → All2 (VRel E Heap.none μ w.heap) args args'.toList →
    Calls E.prog f args' w fun e w' => ∃ v' μ', e = .returned v' ∧ Rel E Heap.none μ' w'.heap base ∧ Tom 0 base Heap.none μ w Heap.none μ' w' ∧ VRel E Heap.none μ' w'.heap u v'
def WpFun (E : Env) (f : FuncId) (args : List Value) (K : Value → Prop) : Prop := ∃ u, Fun E f args u ∧ K u
theorem WpFun.of {E : Env} {f : FuncId} {args : List Value} {u : Value} {K : Value → Prop} (h : Fun E f args u) (k : K u) : WpFun E f args K := ⟨u, h, k⟩
theorem Fun.call {E : Env} {f : FuncId} {args : List Value} {u : Value} (c : Fun E f args u) : SCall E f args Heap.none u Heap.none := by
  intro ok
  obtain ⟨hf, _, hc⟩ := c ok
  refine ⟨hf, fun μ base w args' R hbase ha => Calls.mono (hc base μ w args' R hbase ha) fun e w' he => ?_⟩
  obtain ⟨v', μ', rfl, R', t, hv⟩ := he
  refine ⟨v', μ', rfl, R', ⟨Nat.le_refl _, fun b hb => absurd hb (Nat.not_lt_zero _), fun b x' hb => absurd hb (Nat.not_lt_zero _), fun b x hb => absurd hb (Nat.not_lt_zero _), fun b x _ hb => absurd hb (Nat.not_lt_zero _), t.mem, t.ice, t.icy, t.iced, t.below.size, t.iceY, t.icedY⟩, t.below, hv⟩
theorem aops_congr {E : Env} {draw : Bool} {A : List (List Nat)} {n : Nat} {ops : Array Oper} {cf cf' : Nat → CallF} : ∀ (l : List Oper) (i : Nat) (s : Slots) (h : Heap), (∀ j, i ≤ j → cf j = cf' j) → aops E cf draw A n ops l i s h = aops E cf' draw A n ops l i s h
  | [], _, _, _, _ => rfl
  | o :: r, i, s, h, hj => by
    have ih := fun s h => aops_congr (E := E) (draw := draw) (A := A) (n := n) (ops := ops) r (i + 1) s h fun j hi => hj j (by omega)
    simp only [aops, ih, hj i (Nat.le_refl _)]
section
variable {E : Env} {n : Nat} {s : Slots} {h : Heap} {draw : Bool} {A : List (List Nat)} {ops : Array Oper} {i : Nat} {K : Slots → Heap → Prop}
theorem WpOps.nil (hk : K s h) : WpOps E n draw A ops [] i s h K := fun _ => ⟨fun _ _ _ _ => Option.none, fun _ _ _ _ _ _ hl => (by cases hl), s, h, rfl, hk⟩
theorem WpOps.cons {o : Oper} {l : List Oper} {v : Value} {h1 : Heap} (hop : ∀ cf, aop E cf o.op s h = some (v, h1)) (hd : okAt n ops o s = true) (hw : wants ops o s = true) (hr : WpOps E n draw A ops l (i + 1) (put o v s) h1 K) : WpOps E n draw A ops (o :: l) i s h K := by
  intro ok
  obtain ⟨cf, hcf, s', h', hr, hk⟩ := hr ok
  refine ⟨cf, hcf, s', h', ?_, hk⟩
  simp only [aops]
  rw [if_pos hd, if_pos hw, hop]
  exact hr
theorem WpOps.skip {o : Oper} {l : List Oper} (hw : wants ops o s = false) (hd : okAt n ops o s = true) (hr : WpOps E n draw A ops l (i + 1) (put o undef s) h K) : WpOps E n draw A ops (o :: l) i s h K := by
  intro ok
  obtain ⟨cf, hcf, s', h', hr, hk⟩ := hr ok
  refine ⟨cf, hcf, s', h', ?_, hk⟩
  simp only [aops]
  rw [if_pos hd, if_neg (by simp [hw])]
  exact hr
theorem WpOps.withCall {o : Oper} {l : List Oper} {v : Value} {h1 : Heap} {c : CallF} (hc : CallSim E E.prog c) (hop : aop E (if draw && roAt E A ops.toList i o then roCall c else c) o.op s h = some (v, h1)) (hd : okAt n ops o s = true) (hw : wants ops o s = true) (hr : WpOps E n draw A ops l (i + 1) (put o v s) h1 K) : WpOps E n draw A ops (o :: l) i s h K := by
  intro ok
  obtain ⟨cf, hcf, s', h', hr, hk⟩ := hr ok
  refine ⟨fun j => if j = i then c else cf j, fun j => ?_, s', h', ?_, hk⟩
  · by_cases hj : j = i
    · simp only [hj, if_true]; exact hc
    · simp only [hj, if_false]; exact hcf j
  · simp only [aops]
    rw [if_pos hd, if_pos hw]
    simp only [if_true]
    rw [hop]
    show aops E _ draw A n ops l (i + 1) _ _ = _
    rw [aops_congr (cf' := cf) l (i + 1) _ _ fun j hj => by rw [if_neg (by omega)]]
    exact hr
theorem WpOps.call {o : Oper} {l : List Oper} {f : FuncId} {args : List Value} (hop : ∀ cf : CallF, aop E cf o.op s h = cf f args h) (hro : (draw && roAt E A ops.toList i o) = false) (hd : okAt n ops o s = true) (hw : wants ops o s = true) (hc : WpCall E f args h fun v h1 => WpOps E n draw A ops l (i + 1) (put o v s) h1 K) : WpOps E n draw A ops (o :: l) i s h K := by
  obtain ⟨v, h1, sc, hr⟩ := hc
  exact fun ok => WpOps.withCall (sc.one ok) (by rw [hro]; simp only [Bool.false_eq_true, if_false]; rw [hop]; exact one_at _ _ _ _ _) hd hw hr ok
theorem WpOps.frame {o : Oper} {l : List Oper} {f : FuncId} {args : List Value} (hop : ∀ cf : CallF, aop E cf o.op s h = frameCall E cf f args h) (hf : args.all noPtr = true) (hro : (draw && roAt E A ops.toList i o) = false) (hd : okAt n ops o s = true) (hw : wants ops o s = true) (hc : WpFun E f args fun v => WpOps E n draw A ops l (i + 1) (put o v s) h K) : WpOps E n draw A ops (o :: l) i s h K := by
  obtain ⟨u, c, hr⟩ := hc
  refine fun ok => WpOps.withCall (c.call.one ok) ?_ hd hw hr ok
  rw [hro]
  simp only [Bool.false_eq_true, if_false]
  rw [hop, frameCall, if_pos hf, one_at]
  simp only [(c ok).2.1]
theorem WpOps.call_ro {o : Oper} {l : List Oper} {f : FuncId} {args : List Value} (hop : ∀ cf : CallF, aop E cf o.op s h = cf f args h) (hro : (draw && roAt E A ops.toList i o) = true) (hd : okAt n ops o s = true) (hw : wants ops o s = true) (hc : WpCall E f args h.ro fun v h1 => WpOps E n draw A ops l (i + 1) (put o v s) (h.merge h1) K) : WpOps E n draw A ops (o :: l) i s h K := by
  obtain ⟨v, h1, sc, hr⟩ := hc
  exact fun ok => WpOps.withCall (sc.one ok) (by rw [hro]; simp only [if_true]; rw [hop, roCall, one_at]) hd hw hr ok
end
def endK (E : Env) (fn : Func) (K : Value → Heap → Prop) : AExit → Slots → Heap → Prop
  | .normal, s, h | .ret, s, h => ∃ vs, ares E s h fn.results.toList = some vs ∧ K (outOf vs) h
  | .exit _, _, _ => False
theorem enter {E : Env} {L : Nat} {f : FuncId} {fn : Func} {c : Code} {args : List Value} {h : Heap} {K : Value → Heap → Prop} (ok : EnvOk E E.prog) (hL : L ≤ h.next) (hf : E.funcs f = some fn) (hb : fn.body = some c) (hl : args.length ≤ fn.ntmps) (hw : Wp L E fn.ntmps c (slots0 args) h (endK E fn K))
    {μ : Place} {base : Nat} {w : World} {args' : Array Value} (R : Rel E h μ w.heap base) (hbase : base ≤ w.heap.size) (ha : All2 (VRel E h μ w.heap) args args'.toList) :
    Calls E.prog f args' w fun e w' => ∃ v h' v' μ', K v h' ∧ e = .returned v' ∧ Rel E h' μ' w'.heap base ∧ Tom L base h μ w h' μ' w' ∧ VRel E h' μ' w'.heap v v' := by
  obtain ⟨hP, _⟩ := ok.funcs f fn hf
  have hla : args'.size = args.length := by rw [← Array.length_toList, ha.length]
  refine calls_of_wp hP hb ?_
  have S : St E fn.ntmps base h μ w (slots0 args) { tmps := args' ++ Array.replicate (fn.ntmps - args'.size) undef, defers := [] } := by
    refine ⟨R, hbase, fun i => ?_, by simp; omega, rfl⟩
    simp only [slots0]
    by_cases hi : i < args.length
    · obtain ⟨u, h1, h2⟩ := ha.get (List.getElem?_eq_getElem hi)
      rw [List.getD_eq_getElem?_getD, List.getElem?_eq_getElem hi, Option.getD_some, Array.getD_eq_getD_getElem?, Array.getElem?_append_left (by omega), ← Array.getElem?_toList, h1, Option.getD_some]
      exact h2
    · rw [List.getD_eq_getElem?_getD, List.getElem?_eq_none (by omega), Option.getD_none, Array.getD_eq_getD_getElem?, Array.getElem?_append_right (by omega)]
      rw [Array.getElem?_replicate]
      split
      · exact VRel.undef
      · exact VRel.undef
  refine hw ok hL base μ w _ _ S fun x s' h' a' w' μ' k S' t => ?_
  cases x with
  | exit id => exact k.elim
  | normal =>
    obtain ⟨vs, hvs, k⟩ := k
    obtain ⟨u, g1, g2⟩ := results_run ok S' hvs
    exact ⟨S'.defers, u, g1, _, h', u, μ', k, rfl, S'.rel, t, g2⟩
  | ret =>
    obtain ⟨vs, hvs, k⟩ := k
    obtain ⟨u, g1, g2⟩ := results_run ok S' hvs
    exact ⟨S'.defers, u, g1, _, h', u, μ', k, rfl, S'.rel, t, g2⟩
theorem flat_ice {E : Env} {h : Heap} {v : Value} (hv : flat v = true) (m : Nat) : iceC E h m v = some v := by
  cases v with
  | slice a n c => cases a with
    | none => unfold iceC; split <;> simp_all [flat]
    | some a => cases hv
  | pointer a => cases a with
    | none => unfold iceC; split <;> simp_all [flat]
    | some a => cases hv
  | _ => unfold iceC; split <;> simp_all [flat]
theorem iceC_flat {E : Env} {h : Heap} {m : Nat} {v u : Value} (hv : iceC E h m v = some u) : flat u = true := by
  unfold iceC at hv
  split at hv
  · repeat' (split at hv <;> try (cases hv; done))
    cases hv; rfl
  · cases hv; rfl
  · cases hv; rfl
  · cases hv; rfl
  · split at hv
    · rename_i hf; cases hv; exact hf
    · cases hv
theorem mapO_all {f : Value → Option Value} {p : Value → Prop} (hf : ∀ v u, f v = some u → p u) : ∀ {l out : List Value}, mapO f l = some out → ∀ u ∈ out, p u
  | [], _, ho, u, hu => by simp only [mapO, Option.some.injEq] at ho; subst ho; cases hu
  | v :: r, _, ho, u, hu => by
    simp only [mapO] at ho
    split at ho
    · rename_i x l' e1 e2
      obtain rfl := Option.some.inj ho
      rcases List.mem_cons.1 hu with rfl | hu
      · exact hf _ _ e1
      · exact mapO_all hf e2 u hu
    · cases ho
theorem mapO_id {f : Value → Option Value} : ∀ {l : List Value}, (∀ v ∈ l, f v = some v) → mapO f l = some l
  | [], _ => rfl
  | v :: r, h => by
    have ih := mapO_id (f := f) (l := r) fun v hv => h v (List.mem_cons_of_mem _ hv)
    simp only [mapO, h v (by simp), ih]
theorem iceW_id {E : Env} {h h2 : Heap} {v u : Value} (hv : iceW E h v = some u) : iceW E h2 u = some u := by
  have key : ∀ v u : Value, iceC E h 4 v = some u → iceW E h2 u = some u := fun v u hv => by
    have hf := iceC_flat hv
    cases u <;> first | (cases hf; done) | exact flat_ice (E := E) (h := h2) hf 4
  cases v with
  | agg cs =>
    simp only [iceW] at hv
    obtain ⟨l, h1, rfl⟩ := Option.map_eq_some_iff.1 hv
    have := mapO_all (p := fun u => flat u = true) (fun v u => iceC_flat) h1
    simp only [iceW]
    rw [mapO_id (l := l) fun v hv => flat_ice (this v hv) 4]
    rfl
  | _ => exact key _ _ (by simpa only [iceW] using hv)
theorem iceV_id {E : Env} {h h2 : Heap} {v u : Value} (hv : iceV E h v = some u) : iceV E h2 u = some u := by
  have key : ∀ v u : Value, iceW E h v = some u → iceV E h2 u = some u := fun v u hv => by
    have h1 := iceW_id (h2 := h2) hv
    cases u with
    | tuple vs => simp [iceW, iceC, flat] at h1
    | _ => simpa only [iceV] using h1
  cases v with
  | tuple vs =>
    simp only [iceV] at hv
    obtain ⟨l, h1, rfl⟩ := Option.map_eq_some_iff.1 hv
    have := mapO_all (p := fun u => iceW E h2 u = some u) (fun v u h => iceW_id h) h1
    simp only [iceV]
    rw [mapO_id (l := l) this]
    rfl
  | _ => exact key _ _ (by simpa only [iceV] using hv)
theorem shut_ext (μ : Place) (N : Nat) (H : Mem) : Ext0 Heap.none μ H Heap.none (shut μ N) H := ⟨Nat.le_refl _, fun _ _ => rfl, fun _ x' _ hx => ⟨x', hx, rfl⟩, fun _ cs _ fr hk => ⟨cs, fr, hk, rfl⟩, fun _ hk => hk, fun _ _ => rfl⟩
theorem Fun.finish {E : Env} {base : Nat} {μ μ' : Place} {w w' : World} {h1 : Heap} {v v' u : Value} (R : Rel E Heap.none μ w.heap base) (hbase : base ≤ w.heap.size) (R' : Rel E h1 μ' w'.heap w.heap.size) (t : Tom 0 w.heap.size Heap.none (shut μ w.heap.size) w h1 μ' w') (k : iceV E h1 v = some u) (hv : VRel E h1 μ' w'.heap v v') :
    ∃ v2 μ2, Ending.returned v' = .returned v2 ∧ Rel E Heap.none μ2 w'.heap base ∧ Tom 0 base Heap.none μ w Heap.none μ2 w' ∧ VRel E Heap.none μ2 w'.heap u v2 := by
  have hs : ∀ k, μ.Y k → k < w.heap.size := R.ice
  let Z2 : Nat → Prop := fun k => μ'.Z k ∨ (w.heap.size ≤ k ∧ k < w'.heap.size)
  let μ2 : Place := ⟨μ.at', Z2, fun k => μ.Y k ∨ Z2 k, fun k hk => .inr hk⟩
  have zz : ∀ k, Z2 k → μ.Z k ∨ w.heap.size ≤ k := fun k hk => hk.elim (fun h => (t.iced k h).imp id fun hn => Nat.not_lt.1 fun hlt => hn (.inr hlt)) fun h => .inr h.1
  have cold : ∀ b x, h1.get b = some x → x.own = true → Z2 (μ' b).1 := fun b x hx hown => by
    obtain ⟨_, cs, fr, hH, _, _, ho⟩ := R'.blk b x hx
    have hlt : (μ' b).1 < w'.heap.size := by
      rcases Nat.lt_or_ge (μ' b).1 w'.heap.size with h | h
      · exact h
      · rw [Array.getElem?_eq_none h] at hH; cases hH
    exact .inr ⟨(ho hown).1, hlt⟩
  have y3 : ∀ k, μ2.Y k → k < w'.heap.size := fun k hk => hk.elim (fun h => Nat.lt_of_lt_of_le (hs k h) t.below.size) fun h => h.elim (fun h => R'.ice k (μ'.zy k h)) fun h => h.2
  exact ⟨v', μ2, rfl, Rel.none μ2 base y3, ⟨t.below.mono hbase, Nat.zero_le _, fun b hb => absurd hb (Nat.not_lt_zero _), fun b x' hb => absurd hb (Nat.not_lt_zero _), t.mem, fun k hk => .inl (t.ice k hk), fun k hk => t.icy k (.inl hk), fun k hk => (zz k hk).imp id fun h hy => absurd (hs k hy) (Nat.not_lt.2 h), fun k hk => .inl hk, fun k hk => hk⟩, iceV_rel (Z' := Z2) R' (fun k hk => .inl hk) cold k hv _ _ rfl⟩
theorem Fun.of {E : Env} {f : FuncId} {fn : Func} {c : Code} {args : List Value} {u : Value} (hf : E.funcs f = some fn) (hb : fn.body = some c) (hl : args.length ≤ fn.ntmps) (hu : iceV E Heap.none u = some u) (hw : Wp 0 E fn.ntmps c (slots0 args) Heap.none (endK E fn fun v h1 => iceV E h1 v = some u)) : Fun E f args u := by
  intro ok
  refine ⟨⟨fn, hf, by rw [hb]; rfl⟩, hu, fun base μ w args' R hbase ha => ?_⟩
  have hs : ∀ k, μ.Y k → k < w.heap.size := R.ice
  have ha2 : All2 (VRel E Heap.none (shut μ w.heap.size) w.heap) args args'.toList := ha.mono fun _ _ r => VRel.mono0 (shut_ext μ _ w.heap) r
  refine Calls.mono (enter ok (Nat.zero_le _) hf hb hl hw (Rel.none (base := w.heap.size) (shut μ w.heap.size) fun k hk => hk.elim (hs k) id) (Nat.le_refl _) ha2) fun e w' he => ?_
  obtain ⟨v, h1, v', μ', k, rfl, R', t, hv⟩ := he
  exact Fun.finish R hbase R' t k hv
def NilC (E : Env) (u0 u : Value) : Prop := u0 = u ∨ (u0 = .slice none 0 0 ∧ ∃ e ti, E.types e = some ti ∧ u = FS e 0 2 #[])
inductive NilW (E : Env) : Value → Value → Prop
  | c {u0 u : Value} : NilC E u0 u → NilW E u0 u
  | agg {a b : Array Value} : All2 (NilC E) a.toList b.toList → NilW E (.agg a) (.agg b)
inductive NilV (E : Env) : Value → Value → Prop
  | w {u0 u : Value} : NilW E u0 u → NilV E u0 u
  | tuple {a b : Array Value} : All2 (NilW E) a.toList b.toList → NilV E (.tuple a) (.tuple b)
section
variable {E : Env} {h : Heap} {μ : Place} {H : Mem}
theorem All2.trans' {α β γ : Type} {R : α → β → Prop} {S : α → γ → Prop} {T : γ → β → Prop} (f : ∀ a b c, R a b → S a c → T c b) : ∀ {l : List α} {m : List β} {n : List γ}, All2 R l m → All2 S l n → All2 T n m
  | [], [], [], .nil, .nil => .nil
  | _ :: _, _ :: _, _ :: _, .cons h1 h2, .cons g1 g2 => .cons (f _ _ _ h1 g1) (All2.trans' f h2 g2)
theorem NilC.fs {e : TypeId} {ti : TI} (ht : E.types e = some ti) : IRel E μ.Z H (FS e 0 2 #[]) (.slice none 0 0) :=
  IRel.fs_of (cells := []) (ys := []) (a' := none) (c' := 0) ht (Nat.le_refl _) (by simp) (by simp) (fun _ => rfl) (by simp) (.inl rfl) .nil
theorem VRel.nilC {u0 u v' : Value} (n : NilC E u0 u) (r : VRel E h μ H u0 v') : VRel E h μ H u v' := by
  rcases n with rfl | ⟨rfl, e, ti, ht, rfl⟩
  · exact r
  · obtain ⟨_, _, rfl⟩ := r.inv_nilslice
    exact .s (NilC.fs ht).toS
theorem CRel.nilC {u0 u v' : Value} (n : NilC E u0 u) (r : CRel E h μ H u0 v') : CRel E h μ H u v' := by
  rcases n with rfl | ⟨rfl, e, ti, ht, rfl⟩
  · exact r
  · cases r with
    | s r => cases r with
      | nilslice => exact .s (NilC.fs ht).toS
theorem WRel.nilW {u0 u v' : Value} (n : NilW E u0 u) (r : WRel E h μ H u0 v') : WRel E h μ H u v' := by
  cases n with
  | c n =>
    rcases n with rfl | ⟨rfl, e, ti, ht, rfl⟩
    · exact r
    · cases r with
      | c r => exact .c (CRel.nilC (.inr ⟨rfl, e, ti, ht, rfl⟩) r)
  | agg n =>
    cases r with
    | agg r => exact .agg (r.trans' (fun _ _ _ r n => r.nilC n) n)
    | c r => cases r with
      | s r => cases r
theorem VRel.nilV {u0 u v' : Value} (n : NilV E u0 u) (r : VRel E h μ H u0 v') : VRel E h μ H u v' := by
  cases n with
  | w n =>
    cases n with
    | c n => exact r.nilC n
    | agg n =>
      obtain ⟨a', rfl, h1⟩ := r.inv_agg
      exact .w (.agg (h1.trans' (fun _ _ _ r n => r.nilC n) n))
  | tuple n =>
    obtain ⟨a', rfl, h1⟩ := r.inv_tuple
    exact .tuple (h1.trans' (fun _ _ _ r n => r.nilW n) n)
end
theorem Fun.ofN {E : Env} {f : FuncId} {fn : Func} {c : Code} {args : List Value} {u : Value} (hf : E.funcs f = some fn) (hb : fn.body = some c) (hl : args.length ≤ fn.ntmps) (hu : iceV E Heap.none u = some u) (hw : Wp 0 E fn.ntmps c (slots0 args) Heap.none (endK E fn fun v h1 => ∃ u0, iceV E h1 v = some u0 ∧ NilV E u0 u)) : Fun E f args u := by
  intro ok
  refine ⟨⟨fn, hf, by rw [hb]; rfl⟩, hu, fun base μ w args' R hbase ha => ?_⟩
  have hs : ∀ k, μ.Y k → k < w.heap.size := R.ice
  have ha2 : All2 (VRel E Heap.none (shut μ w.heap.size) w.heap) args args'.toList := ha.mono fun _ _ r => VRel.mono0 (shut_ext μ _ w.heap) r
  refine Calls.mono (enter ok (Nat.zero_le _) hf hb hl hw (Rel.none (base := w.heap.size) (shut μ w.heap.size) fun k hk => hk.elim (hs k) id) (Nat.le_refl _) ha2) fun e w' he => ?_
  obtain ⟨v, h1, v', μ', ⟨u0, k, hn⟩, rfl, R', t, hv⟩ := he
  obtain ⟨v2, μ2, e2, R2, t2, hv2⟩ := Fun.finish R hbase R' t k hv
  exact ⟨v2, μ2, e2, R2, t2, hv2.nilV hn⟩
theorem Fun.calls {P : Program} {E : Env} (hP : E.prog = P) (ok : EnvOk E P) {f : FuncId} {args : List Value} {u : Value} (c : Fun E f args u) {w : World} {args' : Array Value} (ha : All2 (VRel E Heap.none ⟨fun _ => (0, 0), fun k => k < w.heap.size, fun k => k < w.heap.size, fun _ h => h⟩ w.heap) args args'.toList) :
    Calls P f args' w fun e w' => ∃ v' μ', e = .returned v' ∧ Below w.heap.size w w' ∧ VRel E Heap.none μ' w'.heap u v' := by
  subst hP
  obtain ⟨_, _, hc⟩ := c ok
  refine Calls.mono (hc w.heap.size _ w args' (Rel.none _ _ fun k hk => hk) (Nat.le_refl _) ha) fun e w' he => ?_
  obtain ⟨v', μ', rfl, _, t, hv⟩ := he
  exact ⟨v', μ', rfl, t.below, hv⟩
end Go.Fw
