/- More fuel tells the same: a call that is worked out once is a call. -/
import Derived.Test.YtlejgfeoffhjoaaFwLem
namespace Go.Fw
open Go.RowKit
def Le (cf cf' : CallF) : Prop := ∀ f a h r, cf f a h = some r → cf' f a h = some r
theorem Le.ro {cf cf' : CallF} (l : Le cf cf') : Le (roCall cf) (roCall cf') := by
  intro f a h r hr
  unfold roCall at hr ⊢
  split at hr
  · rename_i v h2 hc
    rw [l _ _ _ _ hc]
    exact hr
  · cases hr
theorem Le.callOf {E : Env} {cf cf' : CallF} (l : Le cf cf') : Le (callOf E cf) (callOf E cf') := by
  intro f a h r hr
  unfold Fw.callOf at hr ⊢
  split at hr
  · rename_i hg
    rw [if_pos hg]
    unfold frameCall at hr ⊢
    split at hr
    · rename_i hf
      rw [if_pos hf]
      split at hr
      · rename_i v h2 hc
        rw [l _ _ _ _ hc]
        exact hr
      · cases hr
    · cases hr
  · rename_i hg
    rw [if_neg hg]
    exact l _ _ _ _ hr
theorem aop_mono {E : Env} {cf cf' : CallF} (l : Le cf cf') {op : Op} {s : Slots} {h : Heap} {r : Value × Heap} (hr : aop E cf op s h = some r) : aop E cf' op s h = some r := by
  cases op <;> try exact hr
  case call c =>
    obtain ⟨callee, args, tys⟩ := c
    cases callee with
    | builtin b =>
      simp only [aop] at hr ⊢
      cases h2 : evs s args.toList with
      | none => rw [h2] at hr; cases hr
      | some la => rw [h2] at hr; exact hr
    | invoke r m =>
      simp only [aop] at hr
      cases hr
    | value f =>
      simp only [aop] at hr ⊢
      cases h2 : evs s args.toList with
      | none => rw [h2] at hr; cases hr
      | some la =>
        rw [h2] at hr
        simp only at hr ⊢
        cases h3 : ev s f with
        | none => rw [h3] at hr; cases hr
        | some fv =>
          rw [h3] at hr
          simp only at hr ⊢
          cases h4 : targetOf fv la with
          | none => rw [h4] at hr; cases hr
          | some p =>
            rw [h4] at hr
            exact l.callOf _ _ _ _ hr
theorem aops_mono {E : Env} {cf cf' : CallF} (l : Le cf cf') {draw : Bool} {A : List (List Nat)} {n : Nat} {ops : Array Oper} : ∀ {L : List Oper} {i : Nat} {s : Slots} {h : Heap} {r : Slots × Heap}, aops E (fun _ => cf) draw A n ops L i s h = some r → aops E (fun _ => cf') draw A n ops L i s h = some r
  | [], _, _, _, _, hr => hr
  | o :: L, i, s, h, r, hr => by
    simp only [aops] at hr ⊢
    split at hr
    · rename_i h1
      rw [if_pos h1]
      split at hr
      · rename_i h2
        rw [if_pos h2]
        split at hr
        · rename_i v h' h3
          have : Le (if (draw && roAt E A ops.toList i o) = true then roCall cf else cf) (if (draw && roAt E A ops.toList i o) = true then roCall cf' else cf') := by
            split
            · exact l.ro
            · exact l
          rw [aop_mono this h3]
          exact aops_mono l hr
        · cases hr
      · rename_i h2
        rw [if_neg h2]
        exact aops_mono l hr
    · cases hr
theorem acode_mono {E : Env} {cf cf' : CallF} (l : Le cf cf') {n : Nat} : ∀ (k : Nat) {c : Code} {s : Slots} {h : Heap} {r : Out}, acode E cf n k c s h = some r → acode E cf' n (k + 1) c s h = some r
  | 0, _, _, _, _, hr => by cases hr
  | k + 1, c, s, h, r, hr => by
    rw [acode.eq_def] at hr ⊢
    cases c <;> simp only at hr ⊢ <;> try exact hr
    case region id ops draw =>
      split at hr
      · cases hr
      · rename_i h1
        rw [if_neg h1]
        split at hr
        · rename_i s' h' h2
          rw [aops_mono l h2]
          exact hr
        · cases hr
    case seq a b =>
      split at hr
      · rename_i s' h' h1
        rw [acode_mono l k h1]
        exact acode_mono l k hr
      · rename_i e s' h' hne h1
        rw [acode_mono l k h1]
        cases e with
        | normal => exact absurd rfl hne
        | exit id => exact hr
        | ret => exact hr
      · cases hr
    case cond c a b =>
      split at hr
      · exact acode_mono l k hr
      · cases hr
    case block id body =>
      split at hr
      · rename_i j s' h' h1
        rw [acode_mono l k h1]
        exact hr
      · rename_i hne
        cases r with
        | mk x p =>
          obtain ⟨s', h'⟩ := p
          rw [acode_mono l k hr]
          cases x with
          | exit j => exact absurd hr (hne _ _ _)
          | normal => rfl
          | ret => rfl
    case loop body =>
      split at hr
      · rename_i s' h' h1
        rw [acode_mono l k h1]
        exact acode_mono l k hr
      · rename_i hne
        cases r with
        | mk x p =>
          obtain ⟨s', h'⟩ := p
          rw [acode_mono l k hr]
          cases x with
          | normal => exact absurd hr (hne _ _)
          | exit j => rfl
          | ret => rfl
theorem acall_succ (E : Env) (k : Nat) (f : FuncId) (args : List Value) (h : Heap) : acall E (k + 1) f args h = match E.funcs f with
    | some fn =>
      match fn.body with
      | some c => if args.length ≤ fn.ntmps then finish E fn (acode E (acall E k) fn.ntmps k c (slots0 args) h) else none
      | none => none
    | none => none := rfl
theorem acall_mono (E : Env) : ∀ k, Le (acall E k) (acall E (k + 1))
  | 0 => fun f a h r hr => by cases hr
  | k + 1 => fun f a h r hr => by
    have ih := acall_mono E k
    rw [acall_succ] at hr ⊢
    cases h1 : E.funcs f with
    | none => rw [h1] at hr; cases hr
    | some fn =>
      rw [h1] at hr
      simp only at hr ⊢
      cases h2 : fn.body with
      | none => rw [h2] at hr; cases hr
      | some c =>
        rw [h2] at hr
        simp only at hr ⊢
        by_cases h3 : a.length ≤ fn.ntmps
        · rw [if_pos h3] at hr ⊢
          unfold finish at hr
          split at hr
          · rename_i s' h' h4
            rw [acode_mono ih k h4]
            exact hr
          · rename_i s' h' h4
            rw [acode_mono ih k h4]
            exact hr
          · cases hr
        · rw [if_neg h3] at hr; cases hr
theorem acall_mono_le (E : Env) {k m : Nat} (hk : k ≤ m) : Le (acall E k) (acall E m) := by
  induction hk with
  | refl => exact fun _ _ _ _ hr => hr
  | step _ ih => exact fun f a h r hr => acall_mono E _ f a h r (ih f a h r hr)
theorem SCall.closed {E : Env} {f : FuncId} {args : List Value} {h h' : Heap} {v : Value} (k : Nat) (hr : acall E k f args h = some (v, h')) : SCall E f args h v h' := fun ok => acall_sim ok k f args h v h' hr
theorem Fun.closed {E : Env} {f : FuncId} {args : List Value} (k : Nat) (u : Value) (hr : ((acall E k f args Heap.none).bind fun r => iceV E r.2 r.1) = some u) : Fun E f args u := by
  intro ok
  obtain ⟨⟨v, h1⟩, h2, h3⟩ := Option.bind_eq_some_iff.1 hr
  obtain ⟨hf, hc⟩ := acall_sim ok k f args Heap.none v h1 h2
  refine ⟨hf, iceV_id h3, fun base μ w args' R hbase ha => ?_⟩
  have hs : ∀ k, μ.Y k → k < w.heap.size := R.ice
  refine Calls.mono (hc (shut μ w.heap.size) w.heap.size w args' (Rel.none _ _ fun k hk => hk.elim (hs k) id) (Nat.le_refl _) (ha.mono fun _ _ r => VRel.mono0 (shut_ext μ _ w.heap) r)) fun e w' he => ?_
  obtain ⟨v', μ', rfl, R', ex, bl, hv⟩ := he
  exact Fun.finish R hbase R' (To.tom ⟨ex, bl⟩ (Nat.zero_le _)) h3 hv
end Go.Fw
