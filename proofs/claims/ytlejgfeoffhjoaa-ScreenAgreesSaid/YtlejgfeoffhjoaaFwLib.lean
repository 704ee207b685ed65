/- Functions of Go's library, by contracts about the machine itself: called with plain values, they give a plain value, and nothing that was there turns. -/
import Derived.Test.YtlejgfeoffhjoaaFwMono
namespace Go.Fw
open Go.RowKit
def baseV : Value → Bool
  | .int _ _ | .bool _ | .string _ => true
  | _ => false
theorem VRel.plain {E : Env} {h : Heap} {μ : Place} {H : Mem} {v v' : Value} (r : VRel E h μ H v v') (hp : baseV v = true) : v' = v := by
  cases v <;> first | cases hp | skip
  · exact r.inv_bool
  · exact r.inv_int
  · exact r.inv_string
theorem VRel.plains {E : Env} {h : Heap} {μ : Place} {H : Mem} : ∀ {xs ys : List Value}, All2 (VRel E h μ H) xs ys → xs.all baseV = true → ys = xs
  | [], [], .nil, _ => rfl
  | x :: xs, y :: ys, .cons r rs, hp => by
    simp only [List.all_cons, Bool.and_eq_true] at hp
    rw [r.plain hp.1, VRel.plains rs hp.2]
theorem VRel.ofPlain {E : Env} {h : Heap} {μ : Place} {H : Mem} {v : Value} (hp : baseV v = true) : VRel E h μ H v v := by
  cases v <;> first | cases hp | skip
  · exact .bool _
  · exact .int _ _
  · exact .string _
theorem Fun.lib {E : Env} {f : FuncId} {fn : Func} {c : Code} {args : List Value} {u : Value} (hf : E.funcs f = some fn) (hb : fn.body = some c) (ha : args.all baseV = true) (hu : baseV u = true) (hi : iceV E Heap.none u = some u)
    (h : ∀ w : World, Calls E.prog f args.toArray w fun e w' => e = .returned u ∧ Below w.heap.size w w') : Fun E f args u := by
  intro ok
  refine ⟨⟨fn, hf, by rw [hb]; rfl⟩, hi, fun base μ w args' R hbase hargs => ?_⟩
  have e : args' = args.toArray := by
    apply Array.ext'
    rw [VRel.plains hargs ha]
  rw [e]
  refine Calls.mono (h w) fun e w' he => ?_
  obtain ⟨rfl, bl⟩ := he
  have hy : ∀ k, μ.Y k → k < w.heap.size := R.ice
  refine ⟨u, μ, rfl, Rel.none μ base fun k hk => Nat.lt_of_lt_of_le (hy k hk) bl.size, ⟨bl.mono hbase, Nat.zero_le _, fun b _ => rfl, fun b x' hb => absurd hb (Nat.not_lt_zero _), fun k cs T fr hk => ?_, fun k hk => hk, fun k hk => bl.block k (hy k hk), fun k hk => .inl hk, fun k hk => hk, fun k hk => .inl hk⟩, VRel.ofPlain hu⟩
  have hlt : k < w.heap.size := by
    rcases Nat.lt_or_ge k w.heap.size with h | h
    · exact h
    · rw [Array.getElem?_eq_none h] at hk
      cases hk
  exact ⟨cs, fr, by rw [bl.block k hlt]; exact hk, rfl⟩
def acallX (E : Env) (lib : FuncId → List Value → Option Value) : Nat → CallF
  | 0, _, _, _ => none
  | k + 1, f, args, h =>
    match (if h.next = 0 then lib f args else Option.none) with
    | some u => some (u, h)
    | Option.none =>
      match E.funcs f with
      | some fn =>
        match fn.body with
        | some c => if args.length ≤ fn.ntmps then finish E fn (acode E (acallX E lib k) fn.ntmps k c (slots0 args) h) else none
        | none => none
      | none => none
theorem Fun.toSim {E : Env} (ok : EnvOk E E.prog) {f : FuncId} {args : List Value} {u : Value} (c : Fun E f args u) {h : Heap} (h0 : h.next = 0) : (∃ fn, E.funcs f = some fn ∧ fn.body.isSome = true) ∧
    ∀ (μ : Place) (base : Nat) (w : World) (args' : Array Value), Rel E h μ w.heap base → base ≤ w.heap.size → All2 (VRel E h μ w.heap) args args'.toList →
      Calls E.prog f args' w fun e w' => ∃ v' μ', e = .returned v' ∧ Rel E h μ' w'.heap base ∧ Ext h μ w.heap h μ' w'.heap ∧ Below base w w' ∧ VRel E h μ' w'.heap u v' := by
  obtain ⟨hf, _, hc⟩ := c ok
  refine ⟨hf, fun μ base w args' R hbase ha => ?_⟩
  have no : ∀ b x, ¬ h.get b = some x := fun b x hb => by
    have := (R.blk b x hb).1
    omega
  have e1 : Ext0 h μ w.heap Heap.none μ w.heap := ⟨by omega, fun b hb => by omega, fun b x' _ hx => (by cases hx), fun _ cs _ fr hk => ⟨cs, fr, hk, rfl⟩, fun _ hk => hk, fun _ _ => rfl⟩
  refine Calls.mono (hc base μ w args' (Rel.none μ base R.ice) hbase (ha.mono fun _ _ r => VRel.mono0 e1 r)) fun e w' he => ?_
  obtain ⟨v', μ', rfl, R', t, hv⟩ := he
  have e2 : Ext0 Heap.none μ' w'.heap h μ' w'.heap := ⟨Nat.zero_le _, fun b hb => absurd hb (Nat.not_lt_zero _), fun b x' _ hx => absurd hx (no b x'), fun _ cs _ fr hk => ⟨cs, fr, hk, rfl⟩, fun _ hk => hk, fun _ _ => rfl⟩
  refine ⟨v', μ', rfl, ⟨fun b x hx => absurd hx (no b x), fun b b' x x' hx => absurd hx (no b x), fun b x hx => absurd hx (no b x), R'.ice⟩, ?_, t.below, VRel.mono0 e2 hv⟩
  exact ⟨Nat.le_refl _, fun b hb => by omega, fun b x' hb => by omega, fun b x hb => by omega, fun b x _ hb => by omega, t.mem, t.ice, t.icy, t.iced, t.below.size, t.iceY, t.icedY⟩
theorem acallX_sim {E : Env} (ok : EnvOk E E.prog) {lib : FuncId → List Value → Option Value} (hlib : ∀ f args u, lib f args = some u → Fun E f args u) : ∀ k, CallSim E E.prog (acallX E lib k)
  | 0 => fun f args h v h' hl => by cases hl
  | k + 1 => fun f args h v h' hl => by
    have ih := acallX_sim ok hlib k
    simp only [acallX] at hl
    split at hl
    · rename_i u hu
      cases hl
      split at hu
      · rename_i h0
        exact (hlib f args _ hu).toSim ok h0
      · cases hu
    · split at hl
      · rename_i fn hfn
        split at hl
        · rename_i c hb
          split at hl
          · rename_i hlen
            refine ⟨⟨fn, hfn, by rw [hb]; rfl⟩, fun μ base w args' R hbase ha => ?_⟩
            obtain ⟨hP, _⟩ := ok.funcs f fn hfn
            have hla : args'.size = args.length := by rw [← Array.length_toList, ha.length]
            refine calls_of_wp hP hb ?_
            have S : St E fn.ntmps base h μ w (slots0 args) { tmps := args' ++ Array.replicate (fn.ntmps - args'.size) undef, defers := [] } := by
              refine ⟨R, hbase, fun i => ?_, by simp; omega, rfl⟩
              simp only [slots0]
              by_cases hi : i < args.length
              · obtain ⟨u, h1, h2⟩ := ha.get (List.getElem?_eq_getElem hi)
                rw [List.getD_eq_getElem?_getD, List.getElem?_eq_getElem hi, Option.getD_some, Array.getD_eq_getD_getElem?, Array.getElem?_append_left (by omega), ← Array.getElem?_toList, h1, Option.getD_some]
                exact h2
              · rw [List.getD_eq_getElem?_getD, List.getElem?_eq_none (by omega), Option.getD_none, Array.getD_eq_getD_getElem?, Array.getElem?_append_right (by omega)]
                rw [Array.getElem?_replicate]
                split
                · exact VRel.undef
                · exact VRel.undef
            unfold finish at hl
            split at hl
            · rename_i s' h2 hcode
              split at hl
              · rename_i vs hvs
                cases hl
                refine code_sim ok ih k c hcode S fun a' w' μ' S' t' => ?_
                obtain ⟨u, g1, g2⟩ := results_run ok S' hvs
                exact ⟨S'.defers, u, g1, u, μ', rfl, S'.rel, t'.ext, t'.below, g2⟩
              · cases hl
            · rename_i s' h2 hcode
              split at hl
              · rename_i vs hvs
                cases hl
                refine code_sim ok ih k c hcode S fun a' w' μ' S' t' => ?_
                obtain ⟨u, g1, g2⟩ := results_run ok S' hvs
                exact ⟨S'.defers, u, g1, u, μ', rfl, S'.rel, t'.ext, t'.below, g2⟩
              · cases hl
            · cases hl
          · cases hl
        · cases hl
      · cases hl
theorem Fun.closedX {E : Env} {f : FuncId} {args : List Value} (lib : FuncId → List Value → Option Value) (hlib : ∀ f args u, lib f args = some u → Fun E f args u) (k : Nat) (u : Value) (hr : ((acallX E lib k f args Heap.none).bind fun r => iceV E r.2 r.1) = some u) : Fun E f args u := by
  intro ok
  obtain ⟨⟨v, h1⟩, h2, h3⟩ := Option.bind_eq_some_iff.1 hr
  obtain ⟨hf, hc⟩ := acallX_sim ok hlib k f args Heap.none v h1 h2
  refine ⟨hf, iceV_id h3, fun base μ w args' R hbase ha => ?_⟩
  have hs : ∀ k, μ.Y k → k < w.heap.size := R.ice
  refine Calls.mono (hc (shut μ w.heap.size) w.heap.size w args' (Rel.none _ _ fun k hk => hk.elim (hs k) id) (Nat.le_refl _) (ha.mono fun _ _ r => VRel.mono0 (shut_ext μ _ w.heap) r)) fun e w' he => ?_
  obtain ⟨v', μ', rfl, R', ex, bl, hv⟩ := he
  exact Fun.finish R hbase R' (To.tom ⟨ex, bl⟩ (Nat.zero_le _)) h3 hv
end Go.Fw
