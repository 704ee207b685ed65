/- Code, and calls: what our machine comes to, Go's comes to. -/
import Derived.Test.YtlejgfeoffhjoaaFwAny
import Derived.Handy
namespace Go.Fw
open Go.RowKit
def AExit.to : AExit → Exit
  | .normal => .normal
  | .exit id => .exit id
  | .ret => .ret
section
variable {E : Env} {P : Program} {base n K : Nat} {cf : CallF}
theorem rounds_sim {body : Code} (sim : ∀ (k : Nat) {h : Heap} {μ : Place} {w : World} {s : Slots} {a : Act} {x : AExit} {s' : Slots} {h' : Heap} {Q : Exit → Act → World → Prop}, k < K → acode E cf n k body s h = some (x, s', h') → St E n base h μ w s a →
    (∀ a' w' μ', St E n base h' μ' w' s' a' → To base h μ w h' μ' w' → Q x.to a' w') → body.wp P Q a w) : ∀ (k : Nat) {h : Heap} {μ : Place} {w : World} {s : Slots} {a : Act} {x : AExit} {s' : Slots} {h' : Heap} {Q : Exit → Act → World → Prop}, k ≤ K → acode E cf n k (.loop body) s h = some (x, s', h') → St E n base h μ w s a →
    (∀ a' w' μ', St E n base h' μ' w' s' a' → To base h μ w h' μ' w' → Q x.to a' w') → Code.rounds P body Q k a w
  | 0, _, _, _, _, _, _, _, _, _, _, hl, _, _ => by cases hl
  | k + 1, h, μ, w, s, a, x, s', h', Q, hk, hl, S, hQ => by
    simp only [acode] at hl
    rw [rounds_succ]
    split at hl
    · rename_i s1 h1 hr
      refine sim k (by omega) hr S fun a1 w1 μ1 S1 t1 => ?_
      exact rounds_sim sim k (by omega) hl S1 fun a2 w2 μ2 S2 t2 => hQ a2 w2 μ2 S2 (t1.trans t2)
    · rename_i hne
      refine sim k (by omega) hl S fun a1 w1 μ1 S1 t1 => ?_
      have := hQ a1 w1 μ1 S1 t1
      cases x with
      | normal => exact absurd hl (hne _ _)
      | exit id => exact this
      | ret => exact this
theorem code_sim (ok : EnvOk E P) (hc : CallSim E P cf) : ∀ (k : Nat) (c : Code) {h : Heap} {μ : Place} {w : World} {s : Slots} {a : Act} {x : AExit} {s' : Slots} {h' : Heap} {Q : Exit → Act → World → Prop}, acode E cf n k c s h = some (x, s', h') → St E n base h μ w s a →
    (∀ a' w' μ', St E n base h' μ' w' s' a' → To base h μ w h' μ' w' → Q x.to a' w') → c.wp P Q a w
  | 0, _, _, _, _, _, _, _, _, _, _, hl, _, _ => by cases hl
  | k + 1, c, h, μ, w, s, a, x, s', h', Q, hl, S, hQ => by
    cases c <;> simp only [acode] at hl <;> try (cases hl; done)
    case skip =>
      cases hl
      exact wp_skip (hQ a w μ S (To.refl _ _ _ _))
    case label l =>
      cases hl
      exact wp_label (hQ a w μ S (To.refl _ _ _ _))
    case region id ops draw =>
      split at hl
      · cases hl
      · rename_i hok
        split at hl
        · rename_i s1 h1 hr
          cases hl
          exact region_sim ok (fun _ => hc) hok S hr hQ
        · cases hl
    case seq c1 c2 =>
      apply wp_seq
      split at hl
      · rename_i s1 h1 hr
        refine code_sim ok hc k c1 hr S fun a1 w1 μ1 S1 t1 => ?_
        exact code_sim ok hc k c2 hl S1 fun a2 w2 μ2 S2 t2 => hQ a2 w2 μ2 S2 (t1.trans t2)
      · rename_i e s1 h1 hne hr
        cases hl
        refine code_sim ok hc k c1 hr S fun a1 w1 μ1 S1 t1 => ?_
        have := hQ a1 w1 μ1 S1 t1
        cases x with
        | normal => exact absurd rfl hne
        | exit id => exact this
        | ret => exact this
      · cases hl
    case cond c1 c2 c3 =>
      split at hl
      · rename_i t ht
        have hb := (ev_rel S.sl ht).inv_bool
        refine wp_cond hb ?_
        exact code_sim ok hc k _ hl S hQ
      · cases hl
    case block id body =>
      apply wp_block
      split at hl
      · rename_i j s1 h1 hr
        split at hl
        · rename_i hj
          cases hl
          refine code_sim ok hc k body hr S fun a1 w1 μ1 S1 t1 => ?_
          simp only [AExit.to, Exit.inBlock, hj, if_true]
          exact hQ a1 w1 μ1 S1 t1
        · rename_i hj
          cases hl
          refine code_sim ok hc k body hr S fun a1 w1 μ1 S1 t1 => ?_
          simp only [AExit.to, Exit.inBlock, hj, if_false]
          exact hQ a1 w1 μ1 S1 t1
      · rename_i hne
        refine code_sim ok hc k body hl S fun a1 w1 μ1 S1 t1 => ?_
        have := hQ a1 w1 μ1 S1 t1
        cases x with
        | normal => exact this
        | exit id => exact absurd hl (hne _ _ _)
        | ret => exact this
    case loop body =>
      exact wp_loop_rounds (k + 1) (rounds_sim (K := k + 1) (fun k' {h μ w s a x s' h' Q} hk hl S hQ => code_sim ok hc k' body hl S hQ) (k + 1) (Nat.le_refl _) (by simp only [acode]; exact hl) S hQ)
    case exit id =>
      cases hl
      exact wp_exit (hQ a w μ S (To.refl _ _ _ _))
    case ret =>
      cases hl
      exact wp_ret (hQ a w μ S (To.refl _ _ _ _))
def res1 (tmps : Array Value) : ResultVar → Sem Value
  | .tmp t => pure (tmps.getD t undef)
  | .cell a t => do loadVar t (← asAddr (tmps.getD a undef))
theorem VRel.toW {h : Heap} {μ : Place} {H : Mem} {v v' : Value} (r : VRel E h μ H v v') (hv : ¬ isTuple v = true) : WRel E h μ H v v' := by
  cases r with
  | w r => exact r
  | tuple => exact absurd rfl hv
  | any => exact absurd rfl hv
theorem load_run (ok : EnvOk E P) {h : Heap} {μ : Place} {w : World} (R : Rel E h μ w.heap base) {t : TypeId} {p p' v : Value} (hl : aload E t p h = some v) (hp : VRel E h μ w.heap p p') : ∃ a' v', p' = .pointer (some a') ∧ (loadVar t a').run P w = .ok v' w ∧ VRel E h μ w.heap v v' := by
  unfold aload at hl
  split at hl
  · rename_i ti b off ht
    obtain ⟨_, rfl⟩ := hp.inv_ptr
    split at hl
    · rename_i x hx
      have hg := run_agg ok ht w
      have hs := run_size ok ht w
      split at hl
      · rename_i hd
        obtain ⟨xs, h1, rfl⟩ := Option.map_eq_some_iff.1 hl
        obtain ⟨ys, h2, h3⟩ := load_cells R hx h1 P
        refine ⟨_, _, rfl, ?_, .agg h2⟩
        simp only [loadVar, hg, hd, if_true, Sem.run_bind, hs, Result.andThen_ok, h3, Sem.run_pure]
      · rename_i hd
        obtain ⟨v', h1, h2⟩ := R.cell hx hl
        refine ⟨_, _, rfl, ?_, .w (.c h2)⟩
        simp only [loadVar, Sem.run_bind, Result.andThen_ok, hg, hd, Bool.false_eq_true, if_false, run_load, h1]
    · cases hl
  · rename_i ti e off cells ht
    obtain ⟨ys, k, o, rfl, hat, hc⟩ := hp.inv_ice.inv_fp
    have hg := run_agg ok ht w
    have hs := run_size ok ht w
    split at hl
    · rename_i hd
      obtain ⟨xs, h1, rfl⟩ := Option.map_eq_some_iff.1 hl
      obtain ⟨zs, h2, h3⟩ := ice_cells hat hc h1 P
      refine ⟨_, _, rfl, ?_, .agg (IRel.allC h2)⟩
      simp only [loadVar, hg, hd, if_true, Sem.run_bind, hs, Result.andThen_ok, h3, Sem.run_pure]
    · rename_i hd
      obtain ⟨v', h1, h2⟩ := hc.get hl
      obtain ⟨_, _, cs, _, fr, hH, _, h3⟩ := hat
      refine ⟨_, _, rfl, ?_, .s h2.toS⟩
      simp only [loadVar, Sem.run_bind, Result.andThen_ok, hg, hd, Bool.false_eq_true, if_false, run_load, cell_of hH, h3 _ _ h1]
  · cases hl
theorem ares_run (ok : EnvOk E P) {h : Heap} {μ : Place} {w : World} {s : Slots} {a : Act} (S : St E n base h μ w s a) : ∀ {rs : List ResultVar} {vs : List Value}, ares E s h rs = some vs → ∃ us, All2 (WRel E h μ w.heap) vs us ∧ (rs.mapM (res1 a.tmps)).run P w = .ok us w
  | [], vs, hl => by
    simp only [ares, Option.some.injEq] at hl
    subst hl
    exact ⟨[], .nil, rfl⟩
  | r :: rs, vs, hl => by
    simp only [ares] at hl
    split at hl
    · rename_i v vs' h1 h2
      obtain rfl := Option.some.inj hl
      obtain ⟨us, q1, q2⟩ := ares_run ok S h2
      have head : ∃ u, WRel E h μ w.heap v u ∧ (res1 a.tmps r).run P w = .ok u w := by
        cases r with
        | tmp t =>
          simp only [ares1] at h1
          split at h1
          · cases h1
          · rename_i hnt
            obtain rfl := Option.some.inj h1
            exact ⟨_, (S.sl t).toW hnt, rfl⟩
        | cell a' t =>
          simp only [ares1] at h1
          split at h1
          · rename_i v2 h3
            split at h1
            · cases h1
            · rename_i hnt
              obtain rfl := Option.some.inj h1
              have ha := S.sl a'
              obtain ⟨pa, u, hp, g1, g2⟩ := load_run ok S.rel h3 ha
              refine ⟨u, g2.toW hnt, ?_⟩
              simp only [res1, hp, asAddr, pure_bind]
              exact g1
          · cases h1
      obtain ⟨u, q3, q4⟩ := head
      refine ⟨u :: us, .cons q3 q1, ?_⟩
      simp only [List.mapM_cons, Sem.run_bind, q4, Result.andThen_ok, q2, Sem.run_pure]
    · cases hl
theorem results_run (ok : EnvOk E P) {h : Heap} {μ : Place} {w : World} {s : Slots} {a : Act} (S : St E n base h μ w s a) {fn : Func} {vs : List Value} (hv : ares E s h fn.results.toList = some vs) : ∃ u, (results fn a.tmps).run P w = .ok u w ∧ VRel E h μ w.heap (outOf vs) u := by
  obtain ⟨us, h1, h2⟩ := ares_run ok S hv
  have hm : (fn.results.mapM (res1 a.tmps)).run P w = .ok us.toArray w := by
    rw [Array.mapM_eq_mapM_toList, Sem.run_map, h2, Result.andThen_ok]
  have he : results fn a.tmps = (do let vs ← fn.results.mapM (res1 a.tmps); pure (if h : vs.size = 1 then vs[0] else .tuple vs) : Sem Value) := rfl
  rw [he]
  simp only [Sem.run_bind, hm, Result.andThen_ok, Sem.run_pure]
  refine ⟨_, rfl, ?_⟩
  cases h1 with
  | nil => exact .tuple .nil
  | cons q1 q2 =>
    cases q2 with
    | nil => exact .w q1
    | cons q3 q4 =>
      simp only [List.size_toArray, List.length_cons, outOf]
      rw [dif_neg (by omega)]
      exact .tuple (.cons q1 (.cons q3 q4))
theorem acall_sim (ok : EnvOk E P) : ∀ k, CallSim E P (acall E k)
  | 0 => fun f args h v h' hl => by cases hl
  | k + 1 => fun f args h v h' hl => by
    have ih := acall_sim ok k
    simp only [acall] at hl
    split at hl
    · rename_i fn hfn
      split at hl
      · rename_i c hb
        split at hl
        · rename_i hlen
          refine ⟨⟨fn, hfn, by rw [hb]; rfl⟩, fun μ base w args' R hbase ha => ?_⟩
          obtain ⟨hP, _⟩ := ok.funcs f fn hfn
          have hla : args'.size = args.length := by rw [← Array.length_toList, ha.length]
          refine calls_of_wp hP hb ?_
          have S : St E fn.ntmps base h μ w (slots0 args) { tmps := args' ++ Array.replicate (fn.ntmps - args'.size) undef, defers := [] } := by
            refine ⟨R, hbase, fun i => ?_, by simp; omega, rfl⟩
            simp only [slots0]
            by_cases hi : i < args.length
            · obtain ⟨u, h1, h2⟩ := ha.get (List.getElem?_eq_getElem hi)
              rw [List.getD_eq_getElem?_getD, List.getElem?_eq_getElem hi, Option.getD_some, Array.getD_eq_getD_getElem?, Array.getElem?_append_left (by omega), ← Array.getElem?_toList, h1, Option.getD_some]
              exact h2
            · rw [List.getD_eq_getElem?_getD, List.getElem?_eq_none (by omega), Option.getD_none, Array.getD_eq_getD_getElem?, Array.getElem?_append_right (by omega)]
              rw [Array.getElem?_replicate]
              split
              · exact VRel.undef
              · exact VRel.undef
          unfold finish at hl
          split at hl
          · rename_i s' h2 hcode
            split at hl
            · rename_i vs hvs
              cases hl
              refine code_sim ok ih k c hcode S fun a' w' μ' S' t' => ?_
              obtain ⟨u, g1, g2⟩ := results_run ok S' hvs
              exact ⟨S'.defers, u, g1, u, μ', rfl, S'.rel, t'.ext, t'.below, g2⟩
            · cases hl
          · rename_i s' h2 hcode
            split at hl
            · rename_i vs hvs
              cases hl
              refine code_sim ok ih k c hcode S fun a' w' μ' S' t' => ?_
              obtain ⟨u, g1, g2⟩ := results_run ok S' hvs
              exact ⟨S'.defers, u, g1, u, μ', rfl, S'.rel, t'.ext, t'.below, g2⟩
            · cases hl
          · cases hl
        · cases hl
      · cases hl
    · cases hl
end
end Go.Fw
