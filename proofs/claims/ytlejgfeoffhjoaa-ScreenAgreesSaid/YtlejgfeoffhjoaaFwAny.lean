/- A region whose order is drawn: any order comes to what the text's order comes to. -/
import Derived.Test.YtlejgfeoffhjoaaFwDraw
namespace Go.Fw
open Go.RowKit
theorem insN_mem {i j : Nat} {l : List Nat} (h : i ∈ insN j l) : i = j ∨ i ∈ l := by
  unfold insN at h
  split at h
  · exact .inr h
  · exact List.mem_cons.1 h
theorem insAll_mem {i : Nat} : ∀ {a l : List Nat}, i ∈ a.foldr insN l → i ∈ a ∨ i ∈ l
  | [], _, h => .inr h
  | b :: a, l, h => by
    rcases insN_mem h with rfl | h
    · exact .inl (by simp)
    · rcases insAll_mem h with h | h
      · exact .inl (List.mem_cons_of_mem _ h)
      · exact .inr h
theorem aheadOf_mem (acc : List (List Nat)) (o : Oper) {i : Nat} (hi : i ∈ aheadOf acc o) : ∃ e ∈ o.after.toList, Region.binds .any e = true ∧ (i = e.on ∨ i ∈ acc.getD e.on []) := by
  unfold aheadOf at hi
  revert hi
  induction o.after.toList with
  | nil => intro h; cases h
  | cons e r ih =>
    intro h
    simp only [List.foldr_cons] at h
    have old : ∀ {i}, i ∈ r.foldr (fun e l => if Region.binds .any e = true then (if l.contains e.on = true then l else e.on :: (acc.getD e.on []).foldr insN l) else l) [] → i ∈ r.foldr (fun e l => if Region.binds .any e = true then (if l.contains e.on = true then l else e.on :: (acc.getD e.on []).foldr insN l) else l) [] := fun h => h
    split at h
    · rename_i hb
      split at h
      · obtain ⟨e', h1, h2⟩ := ih h
        exact ⟨e', List.mem_cons_of_mem _ h1, h2⟩
      · rcases List.mem_cons.1 h with rfl | h
        · exact ⟨e, by simp, hb, .inl rfl⟩
        · rcases insAll_mem h with h | h
          · exact ⟨e, by simp, hb, .inr h⟩
          · obtain ⟨e', h1, h2⟩ := ih h
            exact ⟨e', List.mem_cons_of_mem _ h1, h2⟩
    · obtain ⟨e', h1, h2⟩ := ih h
      exact ⟨e', List.mem_cons_of_mem _ h1, h2⟩
theorem aheads_fold : ∀ (ops : List Oper) (acc : List (List Nat)),
    (∀ j, j < acc.length → (ops.foldl (fun acc o => acc ++ [aheadOf acc o]) acc).getD j [] = acc.getD j []) ∧
    ∀ m o, ops[m]? = some o → ∀ i ∈ (ops.foldl (fun acc o => acc ++ [aheadOf acc o]) acc).getD (acc.length + m) [], ∃ e ∈ o.after.toList, Region.binds .any e = true ∧ (i = e.on ∨ i ∈ (ops.foldl (fun acc o => acc ++ [aheadOf acc o]) acc).getD e.on [])
  | [], acc => ⟨fun _ _ => rfl, fun m o ho => by simp at ho⟩
  | o :: r, acc => by
    obtain ⟨h1, h2⟩ := aheads_fold r (acc ++ [aheadOf acc o])
    simp only [List.foldl_cons]
    have old : ∀ j, j < acc.length → (r.foldl (fun acc o => acc ++ [aheadOf acc o]) (acc ++ [aheadOf acc o])).getD j [] = acc.getD j [] := fun j hj => by
      rw [h1 j (by simp; omega)]
      simp [List.getElem?_append_left hj]
    refine ⟨old, fun m o' ho => ?_⟩
    cases m with
    | zero =>
      simp only [List.getElem?_cons_zero, Option.some.injEq] at ho
      subst ho
      intro i hi
      rw [Nat.add_zero, h1 _ (by simp)] at hi
      have : (acc ++ [aheadOf acc o]).getD acc.length [] = aheadOf acc o := by simp
      rw [this] at hi
      obtain ⟨e, he, hb, h3⟩ := aheadOf_mem acc o hi
      refine ⟨e, he, hb, h3.imp id fun h3 => ?_⟩
      by_cases hl : e.on < acc.length
      · rw [old _ hl]; exact h3
      · rw [List.getD_eq_getElem?_getD, List.getElem?_eq_none (by omega)] at h3
        cases h3
    | succ m =>
      simp only [List.getElem?_cons_succ] at ho
      intro i hi
      have := h2 m o' ho i (by
        rw [List.length_append]
        simp only [List.length_singleton]
        rwa [show acc.length + 1 + m = acc.length + (m + 1) by omega])
      exact this
theorem aheads_eq (ops : List Oper) : aheads ops = ops.foldl (fun acc o => acc ++ [aheadOf acc o]) [] := rfl
theorem aheads_mem {ops : List Oper} {j : Nat} {o : Oper} (ho : ops[j]? = some o) {i : Nat} (hi : i ∈ (aheads ops).getD j []) : ∃ e ∈ o.after.toList, Region.binds .any e = true ∧ (i = e.on ∨ i ∈ (aheads ops).getD e.on []) := by
  rw [aheads_eq] at hi ⊢
  exact (aheads_fold ops []).2 j o ho i (by rw [List.length_nil, Nat.zero_add]; exact hi)
section
variable {E : Env} {P : Program} {base n : Nat} {cf : Nat → CallF} {ops : Array Oper}
theorem order_spec (hok : orderOk E ops.toList = true) {j : Nat} {y : Oper} (hj : ops[j]? = some y) :
    (∀ e ∈ y.after, Region.binds .any e = true → e.on < j) ∧ ∀ i, i < j → ∀ x, ops[i]? = some x → clash E (aheads ops.toList) ops.toList i j x y = true → i ∈ (aheads ops.toList).getD j [] := by
  have hlt : j < ops.toList.length := by
    rw [Array.length_toList]
    exact (Array.getElem?_eq_some_iff.1 hj).1
  unfold orderOk at hok
  simp only [List.all_eq_true, List.mem_range] at hok
  have := hok j hlt
  rw [Array.getElem?_toList, hj] at this
  simp only [Bool.and_eq_true, List.all_eq_true, Bool.or_eq_true, Bool.not_eq_true', decide_eq_true_eq, List.mem_range] at this
  obtain ⟨h1, h2⟩ := this
  refine ⟨fun e he hb => (h1 e (Array.mem_toList_iff.2 he)).resolve_left (by simp [hb]), fun i hi x hx hc => ?_⟩
  have := h2 i hi
  rw [Array.getElem?_toList, hx] at this
  simp only [Bool.or_eq_true, Bool.not_eq_true'] at this
  have := this.resolve_left (by simp [hc])
  simpa using this
theorem ahead_listed (hok : orderOk E ops.toList = true) {listed : Array Bool} (closed : ∀ j o, ops[j]? = some o → listed.getD j false = true → ∀ e ∈ o.after, Region.binds .any e = true → listed.getD e.on false = true) :
    ∀ (N j : Nat) (o : Oper), j < N → ops[j]? = some o → (∀ e ∈ o.after, Region.binds .any e = true → listed.getD e.on false = true) → ∀ i ∈ (aheads ops.toList).getD j [], listed.getD i false = true := by
  intro N
  induction N with
  | zero => intro j o hj; omega
  | succ N ih =>
    intro j o hj ho hall i hi
    obtain ⟨e, he, hb, h1⟩ := aheads_mem (by rw [Array.getElem?_toList]; exact ho) hi
    have he' := Array.mem_toList_iff.1 he
    have hl := hall e he' hb
    rcases h1 with rfl | h1
    · exact hl
    · have hlt := (order_spec hok ho).1 e he' hb
      cases hoe : ops[e.on]? with
      | none =>
        rw [List.getD_eq_getElem?_getD] at h1
        have hsz : (aheads ops.toList).length = ops.toList.length := by
          have : ∀ (l : List Oper) (acc : List (List Nat)), (l.foldl (fun acc o => acc ++ [aheadOf acc o]) acc).length = acc.length + l.length := by
            intro l
            induction l with
            | nil => intro acc; rfl
            | cons o r ih => intro acc; simp only [List.foldl_cons]; rw [ih]; simp; omega
          rw [aheads_eq, this ops.toList [], List.length_nil, Nat.zero_add]
        have hge : ops.size ≤ e.on := by
          rcases Nat.lt_or_ge e.on ops.size with h | h
          · rw [Array.getElem?_eq_getElem h] at hoe; cases hoe
          · exact h
        rw [List.getElem?_eq_none (by rw [hsz, Array.length_toList]; exact hge)] at h1
        cases h1
      | some oe => exact ih e.on oe (by omega) hoe (closed _ _ hoe hl) i h1
def rest (ops : Array Oper) (listed : Array Bool) : List Nat := (List.range ops.size).filter fun i => !listed.getD i true
theorem mem_rest {listed : Array Bool} {i : Nat} : i ∈ rest ops listed ↔ i < ops.size ∧ listed.getD i true = false := by
  simp [rest]
theorem any_sim (ok : EnvOk E P) (hc : ∀ i, CallSim E P (cf i)) (hok : orderOk E ops.toList = true) {Q : Exit → Act → World → Prop} : ∀ (fuel : Nat) (listed : Array Bool) {h : Heap} {μ : Place} {w : World} {s : Slots} {a : Act} {s' : Slots} {h' : Heap}, listed.size = ops.size →
    (∀ j o, ops[j]? = some o → listed.getD j false = true → ∀ e ∈ o.after, Region.binds .any e = true → listed.getD e.on false = true) → (rest ops listed).length ≤ fuel →
    St E n base h μ w s a → arun E cf true (aheads ops.toList) n ops (rest ops listed) s h = some (s', h') →
    (∀ a' w' μ', St E n base h' μ' w' s' a' → To base h μ w h' μ' w' → Q .normal a' w') → wpAny P .any ops Q fuel listed a w := by
  intro fuel
  have unl : ∀ {listed : Array Bool} {i : Nat}, listed.size = ops.size → i < ops.size → listed.getD i false = listed.getD i true := fun {listed i} hs hi => by
    simp [Array.getD_eq_getD_getElem?, Array.getElem?_eq_getElem (show i < listed.size by omega)]
  have noready : ∀ {listed : Array Bool}, listed.size = ops.size → Region.ready .any ops listed = [] → rest ops listed = [] := by
    intro listed hs hr
    cases hl : rest ops listed with
    | nil => rfl
    | cons i r =>
      exfalso
      have hi : i ∈ rest ops listed := by rw [hl]; simp
      obtain ⟨h1, h2⟩ := mem_rest.1 hi
      have hmin : ∀ k, k < i → listed.getD k false = true := fun k hk => by
        rw [unl hs (by omega)]
        cases hb : listed.getD k true with
        | true => rfl
        | false =>
          exfalso
          have hk2 : k ∈ rest ops listed := mem_rest.2 ⟨by omega, hb⟩
          rw [hl] at hk2
          have hp : (i :: r).Pairwise (· < ·) := by
            rw [← hl]
            exact List.Pairwise.filter _ List.pairwise_lt_range
          rcases List.mem_cons.1 hk2 with rfl | hk2
          · omega
          · have := (List.pairwise_cons.1 hp).1 k hk2
            omega
      have : i ∈ Region.ready .any ops listed := by
        rw [mem_ready]
        obtain ⟨o, ho⟩ : ∃ o, ops[i]? = some o := ⟨_, Array.getElem?_eq_getElem h1⟩
        exact ⟨h2, o, ho, fun e he hb => hmin _ ((order_spec hok ho).1 e he hb)⟩
      rw [hr] at this
      cases this
  induction fuel with
  | zero =>
    intro listed h μ w s a s' h' hs closed hf S hl hQ
    have hr : rest ops listed = [] := List.eq_nil_of_length_eq_zero (by omega)
    have hrd : Region.ready .any ops listed = [] := by
      cases hx : Region.ready .any ops listed with
      | nil => rfl
      | cons i r =>
        exfalso
        have : i ∈ Region.ready .any ops listed := by rw [hx]; simp
        obtain ⟨h1, o, ho, _⟩ := mem_ready.1 this
        have : i ∈ rest ops listed := mem_rest.2 ⟨(Array.getElem?_eq_some_iff.1 ho).1, h1⟩
        rw [hr] at this
        cases this
    rw [hr] at hl
    simp only [arun, Option.some.injEq, Prod.mk.injEq] at hl
    obtain ⟨rfl, rfl⟩ := hl
    exact ⟨hrd, hQ a w μ S (To.refl _ _ _ _)⟩
  | succ fuel ih =>
    intro listed h μ w s a s' h' hs closed hf S hl hQ
    refine ⟨fun hr => ?_, fun i hi => ?_⟩
    · rw [noready hs hr] at hl
      simp only [arun, Option.some.injEq, Prod.mk.injEq] at hl
      obtain ⟨rfl, rfl⟩ := hl
      exact hQ a w μ S (To.refl _ _ _ _)
    · obtain ⟨hun, o, ho, hall⟩ := mem_ready.1 hi
      have hlt := (Array.getElem?_eq_some_iff.1 ho).1
      have hir : i ∈ rest ops listed := mem_rest.2 ⟨hlt, hun⟩
      obtain ⟨l1, l2, hsplit⟩ := List.append_of_mem hir
      have hp : (l1 ++ i :: l2).Pairwise (· < ·) := by
        rw [← hsplit]
        exact List.Pairwise.filter _ List.pairwise_lt_range
      have hk1 : ∀ k ∈ l1, k < i := fun k hk => (List.pairwise_append.1 hp).2.2 k hk i (by simp)
      have hk2 : ∀ k ∈ l2, i < k := fun k hk => (List.pairwise_cons.1 (List.pairwise_append.1 hp).2.1).1 k hk
      have hcl : ∀ k ∈ l1, ∀ x, ops[k]? = some x → clash E (aheads ops.toList) ops.toList k i x o = false := by
        intro k hk x hx
        cases hcx : clash E (aheads ops.toList) ops.toList k i x o with
        | false => rfl
        | true =>
          exfalso
          have h1 := (order_spec hok ho).2 k (hk1 k hk) x hx hcx
          have h2 := ahead_listed hok closed (i + 1) i o (by omega) ho hall k h1
          have h3 : k ∈ rest ops listed := by rw [hsplit]; simp [hk]
          obtain ⟨h4, h5⟩ := mem_rest.1 h3
          rw [unl hs h4, h5] at h2
          cases h2
      rw [hsplit] at hl
      have hm := move_first ok hc ho l1 l2 ⟨base, μ, w, a, S⟩ hcl (fun k hk => by
        have : k ∈ rest ops listed := by rw [hsplit]; simp [hk]
        exact (mem_rest.1 this).1) hl
      simp only [arun] at hm
      split at hm
      · rename_i s1 h1 hstep
        refine step_sim ok hc S hstep fun a1 w1 μ1 S1 t1 => ?_
        have hrest : rest ops (listed.setIfInBounds i true) = l1 ++ l2 := by
          have e1 : rest ops (listed.setIfInBounds i true) = (rest ops listed).filter (fun k => k != i) := by
            unfold rest
            rw [List.filter_filter]
            refine List.filter_congr fun k hk => ?_
            by_cases hki : k = i
            · subst hki
              simp [Array.getD_eq_getD_getElem?, Array.getElem?_setIfInBounds_self_of_lt (show k < listed.size by omega)]
            · rw [getD_set_ne true (fun h => hki h.symm)]
              simp [hki]
          rw [e1, hsplit, List.filter_append, List.filter_cons]
          simp only [bne_self_eq_false, Bool.false_eq_true, if_false]
          rw [List.filter_eq_self.2 fun k hk => by have := hk1 k hk; simp; omega, List.filter_eq_self.2 fun k hk => by have := hk2 k hk; simp; omega]
        refine ih (listed.setIfInBounds i true) (by simpa using hs) ?_ ?_ S1 (by rw [hrest]; exact hm) fun a' w' μ' S' t' => hQ a' w' μ' S' (t1.trans t')
        · intro j oj hoj hj e he hb
          by_cases hji : j = i
          · subst hji
            rw [ho] at hoj
            obtain rfl := Option.some.inj hoj
            exact getD_set_true (hall e he hb)
          · rw [getD_set_ne false (fun h => hji h.symm)] at hj
            exact getD_set_true (closed j oj hoj hj e he hb)
        · rw [hrest]
          rw [hsplit] at hf
          simp at hf ⊢
          omega
      · cases hm
theorem region_sim (ok : EnvOk E P) (hc : ∀ i, CallSim E P (cf i)) {id : Nat} {draw : Bool} {h : Heap} {μ : Place} {w : World} {s : Slots} {a : Act} {s' : Slots} {h' : Heap} {Q : Exit → Act → World → Prop} (hok : ¬ (draw = true ∧ orderOk E ops.toList = false))
    (S : St E n base h μ w s a) (hl : aops E cf draw (if draw then aheads ops.toList else []) n ops ops.toList 0 s h = some (s', h')) (hQ : ∀ a' w' μ', St E n base h' μ' w' s' a' → To base h μ w h' μ' w' → Q .normal a' w') : (Code.region id ops draw).wp P Q a w := by
  rw [aops_arun E cf draw _ n ops ops.toList 0 s h rfl] at hl
  have hrg : List.range' 0 ops.toList.length = List.range ops.size := by rw [Array.length_toList, List.range_eq_range']
  rw [hrg] at hl
  cases draw with
  | false => exact wp_region (run_sim ok hc _ S hl hQ)
  | true =>
    have hok' : orderOk E ops.toList = true := by
      cases hx : orderOk E ops.toList with
      | true => rfl
      | false => exact absurd ⟨rfl, hx⟩ hok
    have hrest : rest ops (Array.replicate ops.size false) = List.range ops.size := by
      unfold rest
      refine List.filter_eq_self.2 fun k hk => ?_
      have hk' : k < ops.size := by simpa using hk
      simp [Array.getD_eq_getD_getElem?, hk']
    refine wp_region_any ok.mixed (any_sim (w := { w with drawn := w.drawn + 1 }) ok hc hok' ops.size _ (by simp) ?_ (by rw [hrest]; simp) ⟨S.rel, S.base_le, S.sl, S.size, S.defers⟩ (by rw [hrest]; exact hl) fun a' w' μ' S' t' => hQ a' w' μ' S' ⟨t'.ext, ?_⟩)
    · intro j o _ hj
      exfalso
      rw [Array.getD_eq_getD_getElem?] at hj
      by_cases hjs : j < ops.size
      · simp [hjs] at hj
      · simp [hjs] at hj
    · exact ⟨t'.below.os, t'.below.tape, t'.below.output, t'.below.size, t'.below.block⟩
end
end Go.Fw
