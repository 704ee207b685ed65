/- Calls that are given rows of one's own, never written again: they become values. -/
import Derived.Test.YtlejgfeoffhjoaaFwMono
namespace Go.Fw
open Go.RowKit
def Heap.keepOnly (h : Heap) (keep : List Nat) : Heap := ⟨h.next, fun b => match h.get b with
  | some x => if (x.own && !keep.contains b) = true then Option.none else some x
  | Option.none => Option.none⟩
theorem keepOnly_get {h : Heap} {keep : List Nat} {b : Nat} {x : Blk} (hx : (h.keepOnly keep).get b = some x) : h.get b = some x ∧ (x.own = true → keep.contains b = true) := by
  simp only [Heap.keepOnly] at hx
  split at hx
  · rename_i y hy
    split at hx
    · cases hx
    · rename_i hn
      obtain rfl := Option.some.inj hx
      refine ⟨hy, fun ho => ?_⟩
      cases hk : keep.contains b with
      | true => rfl
      | false => rw [ho, hk] at hn; exact absurd rfl hn
  · cases hx
theorem Fun.anywhere {E : Env} (ok : EnvOk E E.prog) {f : FuncId} {args : List Value} {u : Value} (c : Fun E f args u) (h : Heap) (hp : args.all noPtr = true) :
    ∀ (μ : Place) (base : Nat) (w : World) (args' : Array Value), Rel E h μ w.heap base → base ≤ w.heap.size → All2 (VRel E h μ w.heap) args args'.toList →
      Calls E.prog f args' w fun e w' => ∃ v' μ', e = .returned v' ∧ Rel E h μ' w'.heap base ∧ Ext h μ w.heap h μ' w'.heap ∧ Below base w w' ∧ VRel E h μ' w'.heap u v' := by
  obtain ⟨_, _, hc⟩ := c ok
  intro μ base w args' R hbase ha
  have key : ∀ (l m : List Value), l.all noPtr = true → All2 (VRel E h μ w.heap) l m → All2 (VRel E Heap.none (shut μ w.heap.size) w.heap) l m := by
    intro l m hl hr
    induction hr with
    | nil => exact .nil
    | cons h1 _ ih =>
      simp only [List.all_cons, Bool.and_eq_true] at hl
      exact .cons (.w (NRel.toW (μ := shut μ w.heap.size) (noPtr_rel (μ := μ) hl.1 h1))) (ih hl.2)
  refine Calls.mono (hc w.heap.size (shut μ w.heap.size) w args' (Rel.none _ _ fun k hk => hk.elim (R.ice k) id) (Nat.le_refl _) (key _ _ hp ha)) fun e w' he => ?_
  obtain ⟨v', μ2, rfl, R2, t, hv⟩ := he
  obtain ⟨R3, e3⟩ := R.stay (H' := w'.heap) (fun k hk => t.below.block k hk) t.below.size ⟨μ.at', μ2.Z, fun k => μ.Y k ∨ μ2.Z k, fun k hk => .inr hk⟩ rfl (fun k hk => t.ice k hk) (fun k hk => (t.iced k hk).imp id fun hn => Nat.not_lt.1 fun hlt => hn (.inr hlt)) (fun k hk => .inl hk) (fun k hk => hk)
    (fun k hk => hk.elim (fun h => Nat.lt_of_lt_of_le (R.ice k h) t.below.size) fun h => R2.ice k (μ2.zy k h))
  have e2 : Ext0 Heap.none μ2 w'.heap h ⟨μ.at', μ2.Z, fun k => μ.Y k ∨ μ2.Z k, fun k hk => .inr hk⟩ w'.heap := ⟨Nat.zero_le _, fun b hb => absurd hb (Nat.not_lt_zero _), fun b x' hb => absurd hb (Nat.not_lt_zero _), fun _ cs _ fr hk => ⟨cs, fr, hk, rfl⟩, fun _ hk => hk, fun _ _ => rfl⟩
  exact ⟨v', _, rfl, R3, e3, t.below.mono hbase, VRel.mono0 e2 hv⟩
theorem WpCall.anyH {E : Env} {f : FuncId} {args : List Value} {h : Heap} {u : Value} {K : Value → Heap → Prop} (c : Fun E f args u) (hp : args.all noPtr = true) (k : K u h) : WpCall E f args h K :=
  ⟨u, h, fun ok => ⟨(c ok).1, fun μ base w args' R hb ha => Fun.anywhere ok c h hp μ base w args' R hb ha⟩, k⟩
theorem Rel.freeze {E : Env} {h : Heap} {μ : Place} {H : Mem} {base : Nat} (keep : List Nat) (R : Rel E h μ H base) :
    ∃ μa : Place, μa.at' = μ.at' ∧ (∀ k, μ.Z k → μa.Z k) ∧ (∀ b x, (h.less keep).get b = some x → x.own = true → μa.Z (μ b).1) ∧ Rel E (h.keepOnly keep) μa H base ∧ Ext h μ H (h.keepOnly keep) μa H := by
  let Za : Nat → Prop := fun k => μ.Z k ∨ ∃ b x, h.get b = some x ∧ x.own = true ∧ keep.contains b = false ∧ (μ b).1 = k
  let μa : Place := ⟨μ.at', Za, fun k => μ.Y k ∨ Za k, fun k hk => .inr hk⟩
  have inb : ∀ b x, h.get b = some x → (μ b).1 < H.size := fun b x q1 => by
    obtain ⟨_, cs, fr, hH, _⟩ := R.blk b x q1
    rcases Nat.lt_or_ge (μ b).1 H.size with h | h
    · exact h
    · rw [Array.getElem?_eq_none h] at hH; cases hH
  have zlt : ∀ k, Za k → k < H.size := fun k hk => by
    rcases hk with hk | ⟨b, x, q1, q2, _, rfl⟩
    · exact R.ice k (μ.zy k hk)
    · exact inb b x q1
  have e : Ext h μ H (h.keepOnly keep) μa H := by
    refine ⟨Nat.le_refl _, fun _ _ => rfl, fun b x' _ hx => ⟨x', (keepOnly_get hx).1, rfl, rfl⟩, fun b x hb hx ho => ?_, fun _ _ h1 h2 _ => absurd h2 (Nat.not_lt.2 h1), fun k cs T fr hk => ⟨cs, fr, hk, rfl⟩, fun k hk => .inl hk, fun k _ => rfl, fun k hk => ?_, Nat.le_refl _, fun k hk => .inl hk, fun k hk => hk⟩
    · simp only [Heap.keepOnly, hx, ho, Bool.false_and, Bool.false_eq_true, if_false]
    · rcases hk with hk | ⟨b, x, q1, q2, _, rfl⟩
      · exact .inl hk
      · exact .inr (R.cold b x q1 q2)
  refine ⟨μa, rfl, fun k hk => .inl hk, fun b x hx ho => ?_, ⟨fun b x hx => ?_, fun b b' x x' hx hx' => R.inj b b' x x' (keepOnly_get hx).1 (keepOnly_get hx').1, fun b x hx ho hY => ?_, fun k hk => hk.elim (R.ice k) (zlt k)⟩, e⟩
  · obtain ⟨h1, h2⟩ := less_get hx
    exact .inr ⟨b, x, h2, ho, h1, rfl⟩
  · obtain ⟨hlt, cs, fr, hH, hl, hc, hown⟩ := R.blk b x (keepOnly_get hx).1
    exact ⟨hlt, cs, fr, hH, hl, fun i v hi => let ⟨v', a1, a2⟩ := hc i v hi; ⟨v', a1, a2.mono e⟩, hown⟩
  · obtain ⟨h1, h2⟩ := keepOnly_get hx
    rcases hY with hY | hY | ⟨b', x', q1, q2, q3, q4⟩
    · exact R.cold b x h1 ho hY
    · exact R.cold b x h1 ho (μ.zy _ hY)
    · have hne : b' ≠ b := fun hbb => by
        rw [hbb, h2 ho] at q3
        cases q3
      exact R.inj b' b x' x q1 h1 hne q2 q4
inductive NilA (E : Env) : Value → Value → Prop
  | v {u0 u : Value} : NilV E u0 u → NilA E u0 u
  | fs (e n x : Nat) (a b : Array Value) : All2 (NilC E) a.toList b.toList → NilA E (FS e n x a) (FS e n x b)
theorem NilA.rfl' {E : Env} (u : Value) : NilA E u u := .v (.w (.c (.inl rfl)))
theorem NilA.refls {E : Env} : ∀ l : List Value, All2 (NilA E) l l
  | [] => .nil
  | u :: l => .cons (NilA.rfl' u) (NilA.refls l)
theorem IRel.nilC {E : Env} {Z : Nat → Prop} {H : Mem} {u0 u v' : Value} (n : NilC E u0 u) (r : IRel E Z H u0 v') : IRel E Z H u v' := by
  rcases n with rfl | ⟨rfl, e, ti, ht, rfl⟩
  · exact r
  · cases r with
    | nilslice => exact IRel.fs_of (cells := []) (ys := []) (a' := none) (c' := 0) ht (Nat.le_refl _) (by simp) (by simp) (fun _ => rfl) (by simp) (.inl rfl) .nil
theorem VRel.nilA {E : Env} {h : Heap} {μ : Place} {H : Mem} {u0 u v' : Value} (n : NilA E u0 u) (r : VRel E h μ H u0 v') : VRel E h μ H u v' := by
  cases n with
  | v n => exact r.nilV n
  | fs e n x a b hab =>
    obtain ⟨ys, a', c', ti, rfl, ht, hn, ⟨hx, hnil, hnil0⟩, hl, hat, hc⟩ := (r.inv_ice).inv_fs
    have hc2 : All2 (IRel E μ.Z H) b.toList ys := All2.trans' (R := IRel E μ.Z H) (S := NilC E) (T := IRel E μ.Z H) (fun _ _ _ h1 h2 => IRel.nilC h2 h1) hc hab
    have hl2 : b.toList.length = n * ti.size := by
      rw [← hab.length, Array.length_toList]
      exact hl
    exact .s (IRel.toS (IRel.fs_of ht hn hx hnil hnil0 hl2 hat hc2))
theorem SCall.consumeN {E : Env} {f : FuncId} {args args2 args3 : List Value} {h : Heap} {u : Value} (keep : List Nat) (c : Fun E f args3 u) (hi : mapO (iceV E (h.less keep)) args = some args2) (hn : All2 (NilA E) args2 args3) (hp : args3.all noPtr = true) : SCall E f args h u (h.keepOnly keep) := by
  intro ok
  refine ⟨(c ok).1, fun μ base w args' R hbase ha => ?_⟩
  obtain ⟨μa, hat, hz, hzo, Ra, ea⟩ := R.freeze keep
  have RL : Rel E (h.less keep) μ w.heap base := by
    refine ⟨fun b x hx => ?_, fun b b' x x' hx hx' => R.inj b b' x x' (less_get hx).2 (less_get hx').2, fun b x hx => R.cold b x (less_get hx).2, R.ice⟩
    obtain ⟨hlt, cs, fr, hH, hl, hc, hown⟩ := R.blk b x (less_get hx).2
    have e : Ext0 h μ w.heap (h.less keep) μ w.heap := ⟨Nat.le_refl _, fun _ _ => rfl, fun b x' _ hx => ⟨x', (less_get hx).2, rfl⟩, fun _ cs _ fr hk => ⟨cs, fr, hk, rfl⟩, fun _ hk => hk, fun _ _ => rfl⟩
    exact ⟨hlt, cs, fr, hH, hl, fun i v hi => let ⟨v', a1, a2⟩ := hc i v hi; ⟨v', a1, a2.mono0 e⟩, hown⟩
  have e0 : Ext0 h μ w.heap (h.less keep) μ w.heap := ⟨Nat.le_refl _, fun _ _ => rfl, fun b x' _ hx => ⟨x', (less_get hx).2, rfl⟩, fun _ cs _ fr hk => ⟨cs, fr, hk, rfl⟩, fun _ hk => hk, fun _ _ => rfl⟩
  have A1 : All2 (VRel E (h.keepOnly keep) μa w.heap) args2 args'.toList :=
    mapO_rel (f := iceV E (h.less keep)) (R := VRel E (h.less keep) μ w.heap) (S := VRel E (h.keepOnly keep) μa w.heap) (fun v u v' h1 h2 => iceV_rel RL (Z' := μa.Z) hz hzo h1 h2 _ μa rfl) hi (ha.mono fun _ _ r => VRel.mono0 e0 r)
  have A2 : All2 (VRel E (h.keepOnly keep) μa w.heap) args3 args'.toList := All2.trans' (R := VRel E (h.keepOnly keep) μa w.heap) (S := NilA E) (T := VRel E (h.keepOnly keep) μa w.heap) (fun _ _ _ h1 h2 => h1.nilA h2) A1 hn
  refine Calls.mono (c.anywhere ok (h.keepOnly keep) hp μa base w args' Ra hbase A2) fun e w' he => ?_
  obtain ⟨v', μ', rfl, R', e', bl, hv⟩ := he
  exact ⟨v', μ', rfl, R', ea.trans e', bl, hv⟩
theorem SCall.consume {E : Env} {f : FuncId} {args args2 : List Value} {h : Heap} {u : Value} (keep : List Nat) (c : Fun E f args2 u) (hi : mapO (iceV E (h.less keep)) args = some args2) (hp : args2.all noPtr = true) : SCall E f args h u (h.keepOnly keep) := SCall.consumeN keep c hi (NilA.refls _) hp
theorem WpCall.consumeN {E : Env} {f : FuncId} {args args2 args3 : List Value} {h : Heap} {u : Value} {K : Value → Heap → Prop} (keep : List Nat) (c : Fun E f args3 u) (hi : mapO (iceV E (h.less keep)) args = some args2) (hn : All2 (NilA E) args2 args3) (hp : args3.all noPtr = true) (k : K u (h.keepOnly keep)) : WpCall E f args h K := ⟨u, h.keepOnly keep, SCall.consumeN keep c hi hn hp, k⟩
theorem WpCall.consume {E : Env} {f : FuncId} {args args2 : List Value} {h : Heap} {u : Value} {K : Value → Heap → Prop} (keep : List Nat) (c : Fun E f args2 u) (hi : mapO (iceV E (h.less keep)) args = some args2) (hp : args2.all noPtr = true) (k : K u (h.keepOnly keep)) : WpCall E f args h K := ⟨u, h.keepOnly keep, SCall.consume keep c hi hp, k⟩
end Go.Fw
