/- A drawn region that holds calls: some orders stand for all, and all come to one and the same view. -/
import Derived.Test.YtpkkcpglbjbgfaaFwFam
import Derived.Test.YtpkkcpglbjbgfaaFwLend
namespace Go.Fw
open Go.RowKit

def famOkG (C : List (Nat × Nat)) (ops : List Oper) (F : List (List Nat)) : Bool :=
  backOk ops && (F.all fun l => respB (aheads ops) l && decide (l.length = ops.length) && l.all (fun i => decide (i < ops.length)) && decide l.Nodup && (List.range ops.length).all fun i => decide (i ∈ l)) && chk F C (aheads ops)
section
variable {E : Env} {P : Program} {base n : Nat} {ops : Array Oper}
theorem fam_hasG {C : List (Nat × Nat)} {F : List (List Nat)} (hC0 : ∀ i j, (i, j) ∈ C → i < j ∧ j < ops.size) (hF : famOkG C ops.toList F = true) {τ : List Nat} (hr : Resp ops τ) : ∃ l ∈ F, OKl C l τ := by
  unfold famOkG at hF
  simp only [Bool.and_eq_true] at hF
  obtain ⟨⟨hb, _⟩, hc⟩ := hF
  let p : Nat → Nat := fun i => if i ∈ τ then τ.idxOf i else τ.length + i
  have pin : ∀ i, i ∈ τ → p i = τ.idxOf i := fun i hi => if_pos hi
  have pout : ∀ i, i ∉ τ → p i = τ.length + i := fun i hi => if_neg hi
  have hp : Pos (aheads ops.toList) p := by
    intro k i hi
    by_cases hk : k ∈ τ
    · have := hr k hk i hi
      have hm : i ∈ τ := idx_mem.2 (Nat.lt_trans this (idx_mem.1 hk))
      rw [pin i hm, pin k hk]
      exact this
    · rw [pout k hk]
      by_cases hm : i ∈ τ
      · rw [pin i hm]
        have := idx_mem.1 hm
        omega
      · rw [pout i hm]
        have := aheads_lt hb (k + 1) k i (by omega) hi
        omega
  have hne : ∀ i j, (i, j) ∈ C → p i ≠ p j := fun i j hij => by
    obtain ⟨h1, h2⟩ := hC0 i j hij
    by_cases hi : i ∈ τ
    · by_cases hj : j ∈ τ
      · rw [pin i hi, pin j hj]
        intro e
        have := idx_inj hi hj e
        omega
      · rw [pin i hi, pout j hj]
        have := idx_mem.1 hi
        omega
    · by_cases hj : j ∈ τ
      · rw [pout i hi, pin j hj]
        have := idx_mem.1 hj
        omega
      · rw [pout i hi, pout j hj]
        omega
  obtain ⟨l, hl, A', g1, g2, g3⟩ := chk_ok _ _ hc hp hne
  have key : ∀ i j, τ.idxOf i < τ.idxOf j → p i < p j := fun i j hij => by
    have hi : i ∈ τ := idx_mem.2 (Nat.lt_of_lt_of_le hij List.idxOf_le_length)
    rw [pin i hi]
    by_cases hj : j ∈ τ
    · rw [pin j hj]; exact hij
    · rw [pout j hj]
      have := idx_mem.1 hi
      omega
  exact ⟨l, hl, fun i j hC => ⟨fun h => respB_at g2 ((g3 i j hC).1 (key i j h)), fun h => respB_at g2 ((g3 i j hC).2 (key j i h))⟩⟩

theorem move_firstG {cf : Nat → CallF} (ok : EnvOk E P) (hcf : ∀ i, CallSim E P (cf i)) {i : Nat} {y : Oper} (hi : ops[i]? = some y) (r : Slots × Heap) : ∀ (l : List Nat) {s : Slots} {h : Heap} (rest : List Nat), Fw.Valid E n s h →
    (∀ k ∈ l, ∀ x, ops[k]? = some x → clash E (aheads ops.toList) ops.toList k i x y = false) → (∀ k ∈ l, k < ops.size) →
    arun E cf true (aheads ops.toList) n ops (l ++ i :: rest) s h = some r → arun E cf true (aheads ops.toList) n ops (i :: (l ++ rest)) s h = some r
  | [], _, _, rest, _, _, _, hr => hr
  | k :: l, s, h, rest, V, hcl, hlt, hr => by
    simp only [List.cons_append, arun] at hr
    split at hr
    · rename_i s1 h1 hk
      have hr2 := move_firstG ok hcf hi r l rest (V.step ok hcf hk) (fun k hk => hcl k (by simp [hk])) (fun k hk => hlt k (by simp [hk])) hr
      simp only [arun] at hr2
      split at hr2
      · rename_i s2 h2 hi2
        obtain ⟨x, hx⟩ : ∃ x, ops[k]? = some x := ⟨_, Array.getElem?_eq_getElem (hlt k (by simp))⟩
        obtain ⟨s3, h3, q1, q2⟩ := swap_steps hx hi (hcl k (by simp) x hx) V.within hk hi2
        simp only [arun, q1, List.cons_append, q2]
        exact hr2
      · cases hr2
    · cases hr
theorem fam_simG {cf : Nat → CallF} (C : List (Nat × Nat)) (hCe : C = pairsOf E ops.toList) (ok : EnvOk E P) (hcf : ∀ i, CallSim E P (cf i)) {F : List (List Nat)} (hF : famOkG C ops.toList F = true) {Q : Exit → Act → World → Prop} {R : Slots → Heap → Prop} : ∀ (fuel : Nat) (listed : Array Bool) (τ : List Nat) {h : Heap} {μ : Place} {w : World} {s : Slots} {a : Act}, listed.size = ops.size →
    (∀ j o, ops[j]? = some o → listed.getD j false = true → ∀ e ∈ o.after, Region.binds .any e = true → listed.getD e.on false = true) → (rest ops listed).length ≤ fuel →
    (∀ i, i ∈ τ ↔ i < ops.size ∧ listed.getD i false = true) → Resp ops τ →
    St E n base h μ w s a → (∀ l ∈ F, OKl (C) l τ → ∃ s' h', arun E cf true (aheads ops.toList) n ops (remL l listed) s h = some (s', h') ∧ R s' h') →
    (∀ s' h' a' w' μ', R s' h' → St E n base h' μ' w' s' a' → To base h μ w h' μ' w' → Q .normal a' w') → wpAny P .any ops Q fuel listed a w := by
  have hF2 := hF
  unfold famOkG at hF2
  simp only [Bool.and_eq_true] at hF2
  obtain ⟨⟨hb, hl0⟩, _⟩ := hF2
  have hC0 : ∀ i j, (i, j) ∈ C → i < j ∧ j < ops.size := fun i j hij => by
    rw [hCe] at hij
    obtain ⟨h1, h2⟩ := pairs_spec hij
    exact ⟨h1, by simpa using h2⟩
  have hlF : ∀ l ∈ F, respB (aheads ops.toList) l = true ∧ l.length = ops.size ∧ (∀ i ∈ l, i < ops.size) ∧ l.Nodup ∧ ∀ i, i < ops.size → i ∈ l := fun l hl => by
    have := List.all_eq_true.1 hl0 l hl
    simp only [Bool.and_eq_true, decide_eq_true_eq, List.all_eq_true, Array.length_toList, List.mem_range] at this
    exact ⟨this.1.1.1.1, this.1.1.1.2, this.1.1.2, this.1.2, this.2⟩
  intro fuel
  have unl : ∀ {listed : Array Bool} {i : Nat}, listed.size = ops.size → i < ops.size → listed.getD i false = listed.getD i true := fun {listed i} hs hi => by
    simp [Array.getD_eq_getD_getElem?, Array.getElem?_eq_getElem (show i < listed.size by omega)]
  have noready : ∀ {listed : Array Bool}, listed.size = ops.size → Region.ready .any ops listed = [] → rest ops listed = [] := by
    intro listed hs hr
    cases hl : rest ops listed with
    | nil => rfl
    | cons i r =>
      exfalso
      have hi : i ∈ rest ops listed := by rw [hl]; simp
      obtain ⟨h1, h2⟩ := mem_rest.1 hi
      have hmin : ∀ k, k < i → listed.getD k false = true := fun k hk => by
        rw [unl hs (by omega)]
        cases hb : listed.getD k true with
        | true => rfl
        | false =>
          exfalso
          have hk2 : k ∈ rest ops listed := mem_rest.2 ⟨by omega, hb⟩
          rw [hl] at hk2
          have hp : (i :: r).Pairwise (· < ·) := by
            rw [← hl]
            exact List.Pairwise.filter _ List.pairwise_lt_range
          rcases List.mem_cons.1 hk2 with rfl | hk2
          · omega
          · have := (List.pairwise_cons.1 hp).1 k hk2
            omega
      have : i ∈ Region.ready .any ops listed := by
        rw [mem_ready]
        obtain ⟨o, ho⟩ : ∃ o, ops[i]? = some o := ⟨_, Array.getElem?_eq_getElem h1⟩
        exact ⟨h2, o, ho, fun e he hb' => hmin _ (back_spec hb ho e he hb')⟩
      rw [hr] at this
      cases this
  have remnil : ∀ {listed : Array Bool} {l : List Nat}, l ∈ F → rest ops listed = [] → remL l listed = [] := fun {listed l} hl hr => by
    cases hx : remL l listed with
    | nil => rfl
    | cons i r =>
      exfalso
      have hi : i ∈ remL l listed := by rw [hx]; simp
      obtain ⟨h1, h2⟩ := mem_remL.1 hi
      have : i ∈ rest ops listed := mem_rest.2 ⟨(hlF l hl).2.2.1 i h1, h2⟩
      rw [hr] at this
      cases this
  have fin : ∀ {listed : Array Bool} {τ : List Nat} {h : Heap} {μ : Place} {w : World} {s : Slots} {a : Act}, rest ops listed = [] → Resp ops τ → St E n base h μ w s a → (∀ l ∈ F, OKl (C) l τ → ∃ s' h', arun E cf true (aheads ops.toList) n ops (remL l listed) s h = some (s', h') ∧ R s' h') →
      (∀ s' h' a' w' μ', R s' h' → St E n base h' μ' w' s' a' → To base h μ w h' μ' w' → Q .normal a' w') → Q .normal a w := fun {listed τ h μ w s a} hr hresp S hl hQ => by
    obtain ⟨l, hlm, hok⟩ := fam_hasG hC0 hF hresp
    obtain ⟨s', h', h1, h2⟩ := hl l hlm hok
    rw [remnil hlm hr] at h1
    simp only [arun, Option.some.injEq, Prod.mk.injEq] at h1
    obtain ⟨rfl, rfl⟩ := h1
    exact hQ _ _ a w μ h2 S (To.refl _ _ _ _)
  induction fuel with
  | zero =>
    intro listed τ h μ w s a hs closed hf hτ hresp S hl hQ
    have hr : rest ops listed = [] := List.eq_nil_of_length_eq_zero (by omega)
    have hrd : Region.ready .any ops listed = [] := by
      cases hx : Region.ready .any ops listed with
      | nil => rfl
      | cons i r =>
        exfalso
        have : i ∈ Region.ready .any ops listed := by rw [hx]; simp
        obtain ⟨h1, o, ho, _⟩ := mem_ready.1 this
        have : i ∈ rest ops listed := mem_rest.2 ⟨(Array.getElem?_eq_some_iff.1 ho).1, h1⟩
        rw [hr] at this
        cases this
    exact ⟨hrd, fin hr hresp S hl hQ⟩
  | succ fuel ih =>
    intro listed τ h μ w s a hs closed hf hτ hresp S hl hQ
    refine ⟨fun hr => fin (noready hs hr) hresp S hl hQ, fun i hi => ?_⟩
    obtain ⟨hun, o, ho, hall⟩ := mem_ready.1 hi
    have hlt := (Array.getElem?_eq_some_iff.1 ho).1
    have hiτ : i ∉ τ := fun hm => by
      have := ((hτ i).1 hm).2
      rw [unl hs hlt, hun] at this
      cases this
    have ahead : ∀ k ∈ (aheads ops.toList).getD i [], listed.getD k false = true := ahead_listed' (listed := fun k => listed.getD k false = true) hb closed (i + 1) i o (by omega) ho hall
    have aheadτ : ∀ k ∈ (aheads ops.toList).getD i [], k ∈ τ := fun k hk => by
      refine (hτ k).2 ⟨?_, ahead k hk⟩
      have := aheads_lt hb (i + 1) i k (by omega) hk
      omega
    have hresp' : Resp ops (τ ++ [i]) := by
      intro k hk x hx
      rcases List.mem_append.1 hk with hk | hk
      · have := hresp k hk x hx
        have hxm : x ∈ τ := idx_mem.2 (Nat.lt_trans this (idx_mem.1 hk))
        rw [idx_app hxm, idx_app hk]
        exact this
      · obtain rfl := List.mem_singleton.1 hk
        have hxm := aheadτ x hx
        rw [idx_app hxm]
        exact Nat.lt_of_lt_of_le (idx_mem.1 hxm) (idx_new hiτ)
    have hnew : (τ ++ [i]).idxOf i = τ.length := by
      rw [List.idxOf_append, if_neg hiτ]
      simp
    -- those that still agree may take it first
    have first : ∀ l ∈ F, OKl (C) l (τ ++ [i]) → ∃ s' h', arun E cf true (aheads ops.toList) n ops (i :: remL l (listed.setIfInBounds i true)) s h = some (s', h') ∧ R s' h' := fun l hlm hok => by
      obtain ⟨hresB, hlen, hin, hnd, hfull⟩ := hlF l hlm
      obtain ⟨s', h', h1, h2⟩ := hl l hlm hok.back
      refine ⟨s', h', ?_, h2⟩
      have hil : i ∈ l := hfull i hlt
      have hir : i ∈ remL l listed := mem_remL.2 ⟨hil, hun⟩
      obtain ⟨l1, l2, hsplit⟩ := List.append_of_mem hir
      have hndr : (remL l listed).Nodup := List.Pairwise.filter _ hnd
      have hni : i ∉ l1 ∧ i ∉ l2 := by
        rw [hsplit, List.nodup_append] at hndr
        obtain ⟨_, g2, g3⟩ := hndr
        exact ⟨fun hm => g3 i hm i (by simp) rfl, (List.nodup_cons.1 g2).1⟩
      have before : ∀ k ∈ l1, l.idxOf k < l.idxOf i := fun k hk => by
        have hsub : (l1 ++ i :: l2).Sublist l := by
          rw [← hsplit]
          exact List.filter_sublist
        have hpw : l.Pairwise (fun a b => l.idxOf a < l.idxOf b) := by
          rw [List.pairwise_iff_getElem]
          intro a b ha hb' hab
          rw [hnd.idxOf_getElem a ha, hnd.idxOf_getElem b hb']
          exact hab
        exact (List.pairwise_append.1 (hpw.sublist hsub)).2.2 k hk i (by simp)
      have hcl : ∀ k ∈ l1, ∀ x, ops[k]? = some x → clash E (aheads ops.toList) ops.toList k i x o = false := by
        intro k hk x hx
        have hkr : k ∈ remL l listed := by rw [hsplit]; simp [hk]
        obtain ⟨hkl, hku⟩ := mem_remL.1 hkr
        have hkτ : k ∉ τ := fun hm => by
          have := ((hτ k).1 hm).2
          rw [unl hs ((hτ k).1 hm).1, hku] at this
          cases this
        have hki : k ≠ i := fun e => hni.1 (e ▸ hk)
        have hkn : τ.length < (τ ++ [i]).idxOf k := by
          rw [List.idxOf_append, if_neg hkτ]
          have : [i].idxOf k = 1 := by simp [List.idxOf_cons, (show (i == k) = false by simpa using fun e => hki e.symm)]
          omega
        cases hcx : clash E (aheads ops.toList) ops.toList k i x o with
        | false => rfl
        | true =>
          exfalso
          have hb1 := before k hk
          rcases Nat.lt_or_gt_of_ne hki with hlt' | hgt'
          · by_cases hA : k ∈ (aheads ops.toList).getD i []
            · exact absurd (aheadτ k hA) hkτ
            · by_cases hc : (k, i) ∈ C
              · have := (hok k i hc).2 (by rw [hnew]; exact hkn)
                omega
              · exact hc (hCe ▸ pairs_in hlt' hx ho hcx hA)
          · have hcx' : clash E (aheads ops.toList) ops.toList i k o x = true := by
              cases hz : clash E (aheads ops.toList) ops.toList i k o x with
              | true => rfl
              | false => rw [clash_symm hz] at hcx; cases hcx
            by_cases hA : i ∈ (aheads ops.toList).getD k []
            · have := respB_at hresB hA
              omega
            · by_cases hc : (i, k) ∈ C
              · have := (hok i k hc).1 (by rw [hnew]; exact hkn)
                omega
              · exact hc (hCe ▸ pairs_in hgt' ho hx hcx' hA)
      rw [hsplit] at h1
      have hm := move_firstG ok hcf ho (s', h') l1 l2 ⟨base, μ, w, a, S⟩ hcl (fun k hk => hin k (mem_remL.1 (by rw [hsplit]; simp [hk] : k ∈ remL l listed)).1) h1
      have hrest : remL l (listed.setIfInBounds i true) = l1 ++ l2 := by
        have e1 : remL l (listed.setIfInBounds i true) = (remL l listed).filter (fun k => k != i) := by
          unfold remL
          rw [List.filter_filter]
          refine List.filter_congr fun k hk => ?_
          by_cases hki : k = i
          · subst hki
            simp [Array.getD_eq_getD_getElem?, Array.getElem?_setIfInBounds_self_of_lt (show k < listed.size by omega)]
          · rw [getD_set_ne true (fun h => hki h.symm)]
            simp [hki]
        rw [e1, hsplit, List.filter_append, List.filter_cons]
        simp only [bne_self_eq_false, Bool.false_eq_true, if_false]
        rw [List.filter_eq_self.2 fun k hk => by have : k ≠ i := fun e => hni.1 (e ▸ hk); simpa using this, List.filter_eq_self.2 fun k hk => by have : k ≠ i := fun e => hni.2 (e ▸ hk); simpa using this]
      rw [hrest]
      exact hm
    obtain ⟨l0, hl0m, hok0⟩ := fam_hasG hC0 hF hresp'
    obtain ⟨s0, h0, hm0, _⟩ := first l0 hl0m hok0
    simp only [arun] at hm0
    split at hm0
    · rename_i s1 h1 hstep
      refine step_sim ok hcf S hstep fun a1 w1 μ1 S1 t1 => ?_
      refine ih (listed.setIfInBounds i true) (τ ++ [i]) (by simpa using hs) ?_ ?_ ?_ hresp' S1 (fun l hlm hok => ?_) fun s' h' a' w' μ' hR S' t' => hQ s' h' a' w' μ' hR S' (t1.trans t')
      · intro j oj hoj hj e he hb
        by_cases hji : j = i
        · subst hji
          rw [ho] at hoj
          obtain rfl := Option.some.inj hoj
          exact getD_set_true (hall e he hb)
        · rw [getD_set_ne false (fun h => hji h.symm)] at hj
          exact getD_set_true (closed j oj hoj hj e he hb)
      · have e1 : (rest ops (listed.setIfInBounds i true)).length + 1 ≤ (rest ops listed).length := by
          have hir : i ∈ rest ops listed := mem_rest.2 ⟨hlt, hun⟩
          have e1 : rest ops (listed.setIfInBounds i true) = (rest ops listed).filter (fun k => k != i) := by
            unfold rest
            rw [List.filter_filter]
            refine List.filter_congr fun k hk => ?_
            by_cases hki : k = i
            · subst hki
              simp [Array.getD_eq_getD_getElem?, Array.getElem?_setIfInBounds_self_of_lt (show k < listed.size by omega)]
            · rw [getD_set_ne true (fun h => hki h.symm)]
              simp [hki]
          rw [e1]
          obtain ⟨l1, l2, hsplit⟩ := List.append_of_mem hir
          rw [hsplit, List.filter_append, List.filter_cons]
          simp only [bne_self_eq_false, Bool.false_eq_true, if_false, List.length_append, List.length_cons]
          have g1 := List.length_filter_le (fun k => k != i) l1
          have g2 := List.length_filter_le (fun k => k != i) l2
          omega
        omega
      · intro k
        by_cases hki : k = i
        · subst hki
          simp only [List.mem_append, List.mem_singleton, or_true, true_iff]
          exact ⟨hlt, by simp [Array.getD_eq_getD_getElem?, Array.getElem?_setIfInBounds_self_of_lt (show k < listed.size by omega)]⟩
        · rw [getD_set_ne false (fun h => hki h.symm), ← hτ k]
          simp [hki]
      · obtain ⟨s', h', g1, g2⟩ := first l hlm hok
        simp only [arun, hstep] at g1
        exact ⟨s', h', g1, g2⟩
    · cases hm0
end
/-- Some operations of a region, one behind the other. -/
def WpRun (E : Env) (n : Nat) (ops : Array Oper) (cf : Nat → CallF) (l : List Nat) (s : Slots) (h : Heap) (K : Slots → Heap → Prop) : Prop := EnvOk E E.prog → ∃ s' h', arun E cf true (aheads ops.toList) n ops l s h = some (s', h') ∧ K s' h'
theorem aops_permG {E : Env} {cf cf' : Nat → CallF} {A : List (List Nat)} {n : Nat} {ops : Array Oper} : ∀ (l : List Nat) (i : Nat) (s : Slots) (h : Heap), (∀ k ∈ l, ∃ o, ops[k]? = some o ∧ noGo o.op = true) →
    aops E cf' true A n ops (l.filterMap (fun k => ops[k]?)) i s h = arun E cf true A n ops l s h
  | [], i, s, h, _ => rfl
  | k :: l, i, s, h, hl => by
    obtain ⟨o, ho, hno⟩ := hl k (by simp)
    have hro : ∀ j, roAt E A ops.toList j o = false := fun j => by
      unfold roAt
      rw [isCall_noGo hno, Bool.false_and]
    rw [List.filterMap_cons, ho]
    simp only [aops, arun, astep, ho, hro, Bool.and_false, Bool.false_eq_true, if_false]
    have ih := aops_permG (cf := cf) (cf' := cf') (A := A) (E := E) (n := n) (ops := ops) l (i + 1)
    by_cases h1 : okAt n ops o s = true
    · rw [if_pos h1, if_pos h1]
      by_cases h2 : wants ops o s = true
      · rw [if_pos h2, if_pos h2, aop_noGo (cf := cf' i) (cf' := cf k) hno]
        cases hx : aop E (cf k) o.op s h with
        | none => rfl
        | some p => exact ih _ _ (fun k hk => hl k (List.mem_cons_of_mem _ hk))
      · rw [if_neg h2, if_neg h2]
        exact ih _ _ (fun k hk => hl k (List.mem_cons_of_mem _ hk))
    · rw [if_neg h1, if_neg h1]
theorem arun_app {E : Env} {cf : Nat → CallF} {A : List (List Nat)} {n : Nat} {ops : Array Oper} : ∀ (l r : List Nat) {s s1 : Slots} {h h1 : Heap}, arun E cf true A n ops l s h = some (s1, h1) → arun E cf true A n ops (l ++ r) s h = arun E cf true A n ops r s1 h1
  | [], r, s, s1, h, h1, e => by
    simp only [arun, Option.some.injEq, Prod.mk.injEq] at e
    obtain ⟨rfl, rfl⟩ := e
    rfl
  | k :: l, r, s, s1, h, h1, e => by
    simp only [List.cons_append, arun] at e ⊢
    split at e
    · exact arun_app l r e
    · cases e
/-- These operations are no calls. -/
def noGos (ops : Array Oper) (l : List Nat) : Bool := l.all fun k => match ops[k]? with
  | some o => noGo o.op
  | none => false
theorem WpRun.ops {E : Env} {n : Nat} {ops : Array Oper} {cf : Nat → CallF} (l r : List Nat) {s : Slots} {h : Heap} {K : Slots → Heap → Prop} (hl : noGos ops l = true) (hw : WpOps E n true (aheads ops.toList) ops (l.filterMap (fun k => ops[k]?)) 0 s h (fun s1 h1 => WpRun E n ops cf r s1 h1 K)) : WpRun E n ops cf (l ++ r) s h K := by
  intro ok
  obtain ⟨cf', _, s1, h1, e, hr⟩ := hw ok
  rw [aops_permG (cf := cf) l 0 s h fun k hk => by
    have := List.all_eq_true.1 hl k hk
    split at this
    · rename_i o ho
      exact ⟨o, ho, this⟩
    · cases this] at e
  obtain ⟨s', h', e2, hK⟩ := hr ok
  exact ⟨s', h', by rw [arun_app l r e]; exact e2, hK⟩
theorem WpRun.nil {E : Env} {n : Nat} {ops : Array Oper} {cf : Nat → CallF} {s : Slots} {h : Heap} {K : Slots → Heap → Prop} (hk : K s h) : WpRun E n ops cf [] s h K := fun _ => ⟨s, h, rfl, hk⟩
/-- A call in it whose write-freedom is asked. -/
theorem WpRun.callro {E : Env} {n : Nat} {ops : Array Oper} {C : CallF} (k : Nat) (r : List Nat) {o : Oper} (d : Nat) {s : Slots} {h h1 : Heap} {v : Value} {K : Slots → Heap → Prop} (f : FuncId) (args : List Value) (ho : ops[k]? = some o) (hd : o.dst = some d) (hok : okAt n ops o s = true) (hw : wants ops o s = true) (hro : roAt E (aheads ops.toList) ops.toList k o = true) (hop : ∀ cf : CallF, aop E cf o.op s h = cf f args h) (hC : C f args h.ro = some (v, h1)) (hr : WpRun E n ops (fun _ => C) r (upd s d v) (h.merge h1) K) : WpRun E n ops (fun _ => C) (k :: r) s h K := by
  intro ok
  obtain ⟨s', h', e, hK⟩ := hr ok
  refine ⟨s', h', ?_, hK⟩
  simp only [arun, astep, ho]
  rw [if_pos hok, if_pos hw, hro]
  simp only [Bool.and_self, if_true]
  rw [hop, roCall, hC]
  simp only
  unfold put
  rw [hd]
  exact e
open Classical in
/-- One call, at any memory. -/
noncomputable def many (f : FuncId) (args : List Value) (V : Heap → Value) (H : Heap → Heap) : CallF := fun f' args' g => if f' = f ∧ args' = args then some (V g, H g) else none
theorem many_at (f : FuncId) (args : List Value) (V : Heap → Value) (H : Heap → Heap) (g : Heap) : many f args V H f args g = some (V g, H g) := if_pos ⟨rfl, rfl⟩
theorem many_sim {E : Env} {f : FuncId} {args : List Value} {V : Heap → Value} {H : Heap → Heap} (ok : EnvOk E E.prog) (c : ∀ g, SCall E f args g (V g) (H g)) : CallSim E E.prog (many f args V H) := by
  intro f2 args2 g v2 g' hl
  unfold Fw.many at hl
  split at hl
  · rename_i e
    obtain ⟨rfl, rfl⟩ := e
    cases hl
    exact c g ok
  · cases hl
/-- A call in it that has nothing of the memory. -/
theorem WpRun.frame {E : Env} {n : Nat} {ops : Array Oper} {C : CallF} (k : Nat) (r : List Nat) {o : Oper} (d : Nat) {s : Slots} {h : Heap} {K : Slots → Heap → Prop} (f : FuncId) (args : List Value) (u : Value) (ho : ops[k]? = some o) (hd : o.dst = some d) (hok : okAt n ops o s = true) (hw : wants ops o s = true) (hro : roAt E (aheads ops.toList) ops.toList k o = false) (hop : ∀ cf : CallF, aop E cf o.op s h = frameCall E cf f args h) (hC : EnvOk E E.prog → frameCall E C f args h = some (u, h)) (hr : WpRun E n ops (fun _ => C) r (upd s d u) h K) : WpRun E n ops (fun _ => C) (k :: r) s h K := by
  intro ok
  obtain ⟨s', h', e, hK⟩ := hr ok
  refine ⟨s', h', ?_, hK⟩
  simp only [arun, astep, ho]
  rw [if_pos hok, if_pos hw, hro]
  simp only [Bool.and_false, Bool.false_eq_true, if_false]
  rw [hop, hC ok]
  simp only
  unfold put
  rw [hd]
  exact e
theorem frame_one {E : Env} {f : FuncId} {args : List Value} {u : Value} (c : Fun E f args u) (hf : args.all noPtr = true) (h : Heap) (ok : EnvOk E E.prog) : frameCall E (one f args Heap.none u Heap.none) f args h = some (u, h) := by
  rw [frameCall, if_pos hf, one_at]
  simp only [(c ok).2.1]
theorem one_sim {E : Env} {f : FuncId} {args : List Value} {u : Value} (c : Fun E f args u) (ok : EnvOk E E.prog) : CallSim E E.prog (one f args Heap.none u Heap.none) := c.call.one ok
/-- A region whose order is drawn, with calls. -/
theorem Wp.regionG {L : Nat} {E : Env} {n : Nat} {s : Slots} {h : Heap} {K : AExit → Slots → Heap → Prop} {id : Nat} {ops : Array Oper} (cf : Nat → CallF) (hcf : EnvOk E E.prog → ∀ i, CallSim E E.prog (cf i)) (F : List (List Nat)) (hF : famOkG (pairsOf E ops.toList) ops.toList F = true) (l : List (Nat × Value)) (bs : List Blk)
    (hw : ∀ o ∈ F, WpRun E n ops cf o s h (fun s' h' => View L E n s' h' (layj l) (heapOf bs))) (hk : K .normal (layj l) (heapOf bs)) : Wp L E n (.region id ops true) s h K := by
  intro ok hL base μ w a Q S hQ
  have hF2 := hF
  unfold famOkG at hF2
  simp only [Bool.and_eq_true] at hF2
  obtain ⟨⟨_, hl0⟩, _⟩ := hF2
  have hin : ∀ l ∈ F, ∀ k ∈ l, k < ops.size := fun l hl => by
    have := List.all_eq_true.1 hl0 l hl
    simp only [Bool.and_eq_true, decide_eq_true_eq, List.all_eq_true, Array.length_toList, List.mem_range] at this
    exact this.1.1.2
  have hrest : rest ops (Array.replicate ops.size false) = List.range ops.size := by
    unfold rest
    refine List.filter_eq_self.2 fun k hk => ?_
    have hk' : k < ops.size := by simpa using hk
    simp [Array.getD_eq_getD_getElem?, hk']
  refine wp_region_any ok.mixed (fam_simG (cf := cf) _ rfl (w := { w with drawn := w.drawn + 1 }) (R := fun s' h' => View L E n s' h' (layj l) (heapOf bs)) ok (hcf ok) hF ops.size _ [] (by simp) ?_ (by rw [hrest]; simp) ?_ (fun k hk => absurd hk List.not_mem_nil) ⟨S.rel, S.base_le, S.sl, S.size, S.defers⟩ (fun o ho _ => ?_) fun s' h' a' w' μ' hR S' t' => ?_)
  · intro j o _ hj
    exfalso
    rw [Array.getD_eq_getD_getElem?] at hj
    by_cases hjs : j < ops.size
    · simp [hjs] at hj
    · simp [hjs] at hj
  · intro i
    simp only [List.not_mem_nil, false_iff, not_and]
    intro hi
    simp [Array.getD_eq_getD_getElem?, hi]
  · obtain ⟨s', h', hr, hv⟩ := hw o ho ok
    have hrem : remL o (Array.replicate ops.size false) = o := by
      unfold remL
      refine List.filter_eq_self.2 fun k hk => ?_
      have hk' := hin o ho k hk
      simp [Array.getD_eq_getD_getElem?, hk']
    rw [hrem]
    exact ⟨s', h', hr, hv⟩
  · obtain ⟨μ2, S2, t2⟩ := hR (Nat.le_trans hL t'.ext.next) base μ' w' a' S'
    have t3 : To base h μ w h' μ' w' := ⟨t'.ext, ⟨t'.below.os, t'.below.tape, t'.below.output, t'.below.size, t'.below.block⟩⟩
    exact hQ .normal _ _ a' w' μ2 hk S2 ((t3.tom hL).trans t2)
end Go.Fw
