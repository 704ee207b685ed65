/- A region whose order is drawn, where the orders come to different states: some orders stand for all. -/
import Derived.Test.YtlejgfeoffhjoaaFwDyn
namespace Go.Fw
open Go.RowKit
def respB (A : List (List Nat)) (l : List Nat) : Bool := (List.range A.length).all fun k => (A.getD k []).all fun i => decide (l.idxOf i < l.idxOf k)
theorem respB_at {A : List (List Nat)} {l : List Nat} (h : respB A l = true) {k i : Nat} (hi : i ∈ A.getD k []) : l.idxOf i < l.idxOf k := by
  have hk : k < A.length := by
    rcases Nat.lt_or_ge k A.length with h | h
    · exact h
    · rw [List.getD_eq_getElem?_getD, List.getElem?_eq_none h] at hi
      cases hi
  have := List.all_eq_true.1 (List.all_eq_true.1 h k (by simpa using hk)) i hi
  exact of_decide_eq_true this
def addE (A : List (List Nat)) (i j : Nat) : List (List Nat) := (List.range A.length).map fun k => if k = j ∨ j ∈ A.getD k [] then i :: (A.getD i [] ++ A.getD k []) else A.getD k []
theorem addE_len (A : List (List Nat)) (i j : Nat) : (addE A i j).length = A.length := by simp [addE]
theorem addE_at (A : List (List Nat)) (i j k : Nat) (hk : k < A.length) : (addE A i j).getD k [] = if k = j ∨ j ∈ A.getD k [] then i :: (A.getD i [] ++ A.getD k []) else A.getD k [] := by
  simp [addE, hk]
theorem getD_lt {A : List (List Nat)} {k i : Nat} (hi : i ∈ A.getD k []) : k < A.length := by
  rcases Nat.lt_or_ge k A.length with h | h
  · exact h
  · rw [List.getD_eq_getElem?_getD, List.getElem?_eq_none h] at hi
    cases hi
theorem addE_old {A : List (List Nat)} {i j k x : Nat} (hx : x ∈ A.getD k []) : x ∈ (addE A i j).getD k [] := by
  rw [addE_at A i j k (getD_lt hx)]
  split
  · exact List.mem_cons_of_mem _ (List.mem_append_right _ hx)
  · exact hx
theorem addE_new {A : List (List Nat)} {i j : Nat} (hj : j < A.length) : i ∈ (addE A i j).getD j [] := by
  rw [addE_at A i j j hj, if_pos (.inl rfl)]
  exact List.mem_cons_self
def Pos (A : List (List Nat)) (p : Nat → Nat) : Prop := ∀ k i, i ∈ A.getD k [] → p i < p k
theorem Pos.add {A : List (List Nat)} {p : Nat → Nat} (h : Pos A p) {i j : Nat} (hij : p i < p j) : Pos (addE A i j) p := by
  intro k x hx
  have hk : k < A.length := by rw [← addE_len A i j]; exact getD_lt hx
  rw [addE_at A i j k hk] at hx
  split at hx
  · rename_i hc
    have hik : p i < p k := by
      rcases hc with rfl | hc
      · exact hij
      · exact Nat.lt_trans hij (h k j hc)
    rcases List.mem_cons.1 hx with rfl | hx
    · exact hik
    · rcases List.mem_append.1 hx with hx | hx
      · exact Nat.lt_trans (h i x hx) hik
      · exact h k x hx
  · exact h k x hx
def chk (F : List (List Nat)) : List (Nat × Nat) → List (List Nat) → Bool
  | [], A => F.any (respB A)
  | (i, j) :: C, A => decide (i < A.length) && decide (j < A.length) && (decide (j ∈ A.getD i []) || chk F C (addE A i j)) && (decide (i ∈ A.getD j []) || chk F C (addE A j i))
theorem chk_ok {F : List (List Nat)} {p : Nat → Nat} : ∀ (C : List (Nat × Nat)) (A : List (List Nat)), chk F C A = true → Pos A p → (∀ i j, (i, j) ∈ C → p i ≠ p j) →
    ∃ l ∈ F, ∃ A' : List (List Nat), (∀ k i, i ∈ A.getD k [] → i ∈ A'.getD k []) ∧ respB A' l = true ∧ ∀ i j, (i, j) ∈ C → (p i < p j → i ∈ A'.getD j []) ∧ (p j < p i → j ∈ A'.getD i [])
  | [], A, h, _, _ => by
    obtain ⟨l, hl, hr⟩ := List.any_eq_true.1 h
    exact ⟨l, hl, A, fun _ _ h => h, hr, fun i j h => absurd h List.not_mem_nil⟩
  | (i, j) :: C, A, h, hp, hne => by
    simp only [chk, Bool.and_eq_true, Bool.or_eq_true, decide_eq_true_eq] at h
    obtain ⟨⟨⟨hi, hj⟩, h1⟩, h2⟩ := h
    have hn := hne i j (by simp)
    rcases Nat.lt_or_gt_of_ne hn with hlt | hgt
    · obtain ⟨l, hl, A', g1, g2, g3⟩ := chk_ok C _ (h1.resolve_left fun hc => by have := hp i j hc; omega) (hp.add hlt) (fun a b hab => hne a b (List.mem_cons_of_mem _ hab))
      refine ⟨l, hl, A', fun k x hx => g1 k x (addE_old hx), g2, fun a b hab => ?_⟩
      rcases List.mem_cons.1 hab with hab | hab
      · obtain ⟨rfl, rfl⟩ := Prod.mk.inj hab
        exact ⟨fun _ => g1 _ _ (addE_new hj), fun h => by omega⟩
      · exact g3 a b hab
    · obtain ⟨l, hl, A', g1, g2, g3⟩ := chk_ok C _ (h2.resolve_left fun hc => by have := hp j i hc; omega) (hp.add hgt) (fun a b hab => hne a b (List.mem_cons_of_mem _ hab))
      refine ⟨l, hl, A', fun k x hx => g1 k x (addE_old hx), g2, fun a b hab => ?_⟩
      rcases List.mem_cons.1 hab with hab | hab
      · obtain ⟨rfl, rfl⟩ := Prod.mk.inj hab
        exact ⟨fun h => by omega, fun _ => g1 _ _ (addE_new hi)⟩
      · exact g3 a b hab
def pairsOf (E : Env) (ops : List Oper) : List (Nat × Nat) :=
  let A := aheads ops
  (List.range ops.length).flatMap fun j => (List.range j).filterMap fun i =>
    match ops[i]?, ops[j]? with
    | some x, some y => if clash E A ops i j x y && !(A.getD j []).contains i then some (i, j) else none
    | _, _ => none
def noGo : Op → Bool
  | .call { callee := .builtin _, .. } => true
  | .call _ => false
  | _ => true
def backOk (ops : List Oper) : Bool := (List.range ops.length).all fun j => match ops[j]? with
  | some y => y.after.toList.all fun e => !Region.binds .any e || decide (e.on < j)
  | none => true
def stab (A : List (List Nat)) (ops : List Oper) (i : Nat) (o : Oper) : Bool := match adrSlot o.op with
  | some a => (List.range ops.length).all fun j => match ops[j]? with
    | some p => p.dst != some a || (A.getD i []).contains j
    | none => true
  | none => isMk o.op
def slotsApart (ops : List Oper) (x y : Oper) : Bool :=
  !((match x.dst with | some d => (looks ops y).contains d || y.dst == some d | none => false) ||
  (match y.dst with | some d => (looks ops x).contains d | none => false))
def mayDyn (A : List (List Nat)) (ops : List Oper) (i j : Nat) (x y : Oper) : Bool := slotsApart ops x y && stab A ops i x && stab A ops j y
def restOf (C : List (Nat × Nat)) (E : Env) (ops : List Oper) : List (Nat × Nat) := (pairsOf E ops).filter fun p => !C.contains p
def covOk (C : List (Nat × Nat)) (E : Env) (ops : List Oper) : Bool := C.all (fun p => decide (p.1 < p.2) && decide (p.2 < ops.length)) && (restOf C E ops).all fun p => match ops[p.1]?, ops[p.2]? with
  | some x, some y => mayDyn (aheads ops) ops p.1 p.2 x y
  | _, _ => false
def dynAll (C : List (Nat × Nat)) (E : Env) (ops : List Oper) (s : Slots) : Bool := (restOf C E ops).all fun p => match ops[p.1]?, ops[p.2]? with
  | some x, some y => dynOk E s x.op y.op
  | _, _ => false
def famOkC (C : List (Nat × Nat)) (ops : List Oper) (F : List (List Nat)) : Bool :=
  backOk ops && (ops.all fun o => noGo o.op) && (F.all fun l => respB (aheads ops) l && decide (l.length = ops.length) && l.all (fun i => decide (i < ops.length)) && decide l.Nodup && (List.range ops.length).all fun i => decide (i ∈ l)) && chk F C (aheads ops)
def famOk (E : Env) (ops : List Oper) (F : List (List Nat)) : Bool := famOkC (pairsOf E ops) ops F
theorem clash_symm {E : Env} {A : List (List Nat)} {ops : List Oper} {i j : Nat} {x y : Oper} (hc : clash E A ops i j x y = false) : clash E A ops j i y x = false := by
  obtain ⟨c1, c2, c3, c4⟩ := clash_spec hc
  unfold clash
  simp only [Bool.or_eq_false_iff]
  refine ⟨⟨?_, ?_⟩, ?_⟩
  · cases hy : y.dst with
    | none => rfl
    | some d =>
      simp only [Bool.or_eq_false_iff]
      refine ⟨by simpa using c3 d hy, ?_⟩
      cases hx : x.dst with
      | none => rfl
      | some d' =>
        have := c2 d' hx
        rw [hy] at this
        simp only [beq_eq_false_iff_ne, ne_eq]
        exact fun e => this e.symm
  · cases hx : x.dst with
    | none => rfl
    | some d => simpa using c1 d hx
  · revert c4
    cases clsAt E A ops i x <;> cases clsAt E A ops j y <;> simp
theorem aheads_len (ops : List Oper) : (aheads ops).length = ops.length := by
  have : ∀ (l : List Oper) (acc : List (List Nat)), (l.foldl (fun acc o => acc ++ [aheadOf acc o]) acc).length = acc.length + l.length := by
    intro l
    induction l with
    | nil => intro acc; rfl
    | cons o r ih => intro acc; simp only [List.foldl_cons]; rw [ih]; simp; omega
  rw [aheads_eq, this ops [], List.length_nil, Nat.zero_add]
section
variable {E : Env} {P : Program} {base n : Nat} {ops : Array Oper}
def cf0 : Nat → CallF := fun _ _ _ _ => Option.none
theorem cf0_sim (i : Nat) : CallSim E P (cf0 i) := fun _ _ _ _ _ h => by cases h
theorem back_spec (hb : backOk ops.toList = true) {j : Nat} {y : Oper} (hj : ops[j]? = some y) : ∀ e ∈ y.after, Region.binds .any e = true → e.on < j := by
  have hlt : j < ops.toList.length := by
    rw [Array.length_toList]
    exact (Array.getElem?_eq_some_iff.1 hj).1
  have := List.all_eq_true.1 hb j (by simpa using hlt)
  rw [Array.getElem?_toList, hj] at this
  intro e he hbind
  have := List.all_eq_true.1 this e (Array.mem_toList_iff.2 he)
  simpa [hbind] using this
theorem ahead_listed' (hok : backOk ops.toList = true) {listed : Nat → Prop} (closed : ∀ j o, ops[j]? = some o → listed j → ∀ e ∈ o.after, Region.binds .any e = true → listed e.on) :
    ∀ (N j : Nat) (o : Oper), j < N → ops[j]? = some o → (∀ e ∈ o.after, Region.binds .any e = true → listed e.on) → ∀ i ∈ (aheads ops.toList).getD j [], listed i := by
  intro N
  induction N with
  | zero => intro j o hj; omega
  | succ N ih =>
    intro j o hj ho hall i hi
    obtain ⟨e, he, hb, h1⟩ := aheads_mem (by rw [Array.getElem?_toList]; exact ho) hi
    have he' := Array.mem_toList_iff.1 he
    have hl := hall e he' hb
    rcases h1 with rfl | h1
    · exact hl
    · have hlt := back_spec hok ho e he' hb
      have hel : e.on < ops.size := by
        have := getD_lt h1
        rwa [aheads_len, Array.length_toList] at this
      exact ih e.on ops[e.on] (by omega) (Array.getElem?_eq_getElem hel) (closed _ _ (Array.getElem?_eq_getElem hel) hl) i h1
theorem aheads_lt (hok : backOk ops.toList = true) : ∀ (N j i : Nat), j < N → i ∈ (aheads ops.toList).getD j [] → i < j := by
  intro N
  induction N with
  | zero => intro j i hj; omega
  | succ N ih =>
    intro j i hj hi
    have hjl : j < ops.size := by
      have := getD_lt hi
      rwa [aheads_len, Array.length_toList] at this
    obtain ⟨e, he, hb, h1⟩ := aheads_mem (o := ops[j]) (by rw [Array.getElem?_toList]; exact Array.getElem?_eq_getElem hjl) hi
    have hlt := back_spec hok (Array.getElem?_eq_getElem hjl) e (Array.mem_toList_iff.1 he) hb
    rcases h1 with rfl | h1
    · exact hlt
    · have := ih e.on i (by omega) h1
      omega
def remL (l : List Nat) (listed : Array Bool) : List Nat := l.filter fun i => !listed.getD i true
theorem mem_remL {l : List Nat} {listed : Array Bool} {i : Nat} : i ∈ remL l listed ↔ i ∈ l ∧ listed.getD i true = false := by simp [remL]
def OKl (C : List (Nat × Nat)) (l τ : List Nat) : Prop := ∀ i j, (i, j) ∈ C → (τ.idxOf i < τ.idxOf j → l.idxOf i < l.idxOf j) ∧ (τ.idxOf j < τ.idxOf i → l.idxOf j < l.idxOf i)
theorem idx_mem {τ : List Nat} {i : Nat} : i ∈ τ ↔ τ.idxOf i < τ.length := by
  constructor
  · exact List.idxOf_lt_length_of_mem
  · exact List.idxOf_lt_length_iff.1
theorem idx_app {τ : List Nat} {i y : Nat} (hi : i ∈ τ) : (τ ++ [y]).idxOf i = τ.idxOf i := by rw [List.idxOf_append, if_pos hi]
theorem idx_new {τ : List Nat} {i y : Nat} (hi : i ∉ τ) : τ.length ≤ (τ ++ [y]).idxOf i := by
  rw [List.idxOf_append, if_neg hi]
  omega
theorem OKl.back {C : List (Nat × Nat)} {l τ : List Nat} {y : Nat} (h : OKl C l (τ ++ [y])) : OKl C l τ := by
  have key : ∀ i j, τ.idxOf i < τ.idxOf j → (τ ++ [y]).idxOf i < (τ ++ [y]).idxOf j := fun i j hij => by
    have hi : i ∈ τ := by
      rw [idx_mem]
      exact Nat.lt_of_lt_of_le hij List.idxOf_le_length
    rw [idx_app hi]
    by_cases hj : j ∈ τ
    · rw [idx_app hj]; exact hij
    · exact Nat.lt_of_lt_of_le (idx_mem.1 hi) (idx_new hj)
  intro i j hC
  obtain ⟨h1, h2⟩ := h i j hC
  exact ⟨fun hij => h1 (key i j hij), fun hji => h2 (key j i hji)⟩
theorem idx_inj {τ : List Nat} {i j : Nat} (hi : i ∈ τ) (hj : j ∈ τ) (h : τ.idxOf i = τ.idxOf j) : i = j := by
  have h1 := List.getElem_idxOf (idx_mem.1 hi)
  have h2 := List.getElem_idxOf (idx_mem.1 hj)
  simp only [h] at h1
  rw [← h1, h2]
theorem pairs_spec {i j : Nat} (h : (i, j) ∈ pairsOf E ops.toList) : i < j ∧ j < ops.size := by
  unfold pairsOf at h
  simp only [List.mem_flatMap, List.mem_filterMap, List.mem_range] at h
  obtain ⟨j', hj, i', hi, h2⟩ := h
  split at h2
  · split at h2
    · obtain ⟨rfl, rfl⟩ := Prod.mk.inj (Option.some.inj h2)
      exact ⟨hi, by rwa [Array.length_toList] at hj⟩
    · cases h2
  · cases h2
theorem pairs_in {i j : Nat} {x y : Oper} (hij : i < j) (hx : ops[i]? = some x) (hy : ops[j]? = some y) (hc : clash E (aheads ops.toList) ops.toList i j x y = true) (hA : i ∉ (aheads ops.toList).getD j []) : (i, j) ∈ pairsOf E ops.toList := by
  unfold pairsOf
  simp only [List.mem_flatMap, List.mem_filterMap, List.mem_range]
  refine ⟨j, by rw [Array.length_toList]; exact (Array.getElem?_eq_some_iff.1 hy).1, i, hij, ?_⟩
  simp only [Array.getElem?_toList, hx, hy]
  rw [if_pos]
  simp only [hc, Bool.true_and, Bool.not_eq_true']
  simpa using hA
def Resp (ops : Array Oper) (τ : List Nat) : Prop := ∀ k ∈ τ, ∀ i ∈ (aheads ops.toList).getD k [], τ.idxOf i < τ.idxOf k
theorem fam_has {C : List (Nat × Nat)} {F : List (List Nat)} (hC0 : ∀ i j, (i, j) ∈ C → i < j ∧ j < ops.size) (hF : famOkC C ops.toList F = true) {τ : List Nat} (hr : Resp ops τ) : ∃ l ∈ F, OKl C l τ := by
  unfold famOkC at hF
  simp only [Bool.and_eq_true] at hF
  obtain ⟨⟨⟨hb, _⟩, _⟩, hc⟩ := hF
  let p : Nat → Nat := fun i => if i ∈ τ then τ.idxOf i else τ.length + i
  have pin : ∀ i, i ∈ τ → p i = τ.idxOf i := fun i hi => if_pos hi
  have pout : ∀ i, i ∉ τ → p i = τ.length + i := fun i hi => if_neg hi
  have hp : Pos (aheads ops.toList) p := by
    intro k i hi
    by_cases hk : k ∈ τ
    · have := hr k hk i hi
      have hm : i ∈ τ := idx_mem.2 (Nat.lt_trans this (idx_mem.1 hk))
      rw [pin i hm, pin k hk]
      exact this
    · rw [pout k hk]
      by_cases hm : i ∈ τ
      · rw [pin i hm]
        have := idx_mem.1 hm
        omega
      · rw [pout i hm]
        have := aheads_lt hb (k + 1) k i (by omega) hi
        omega
  have hne : ∀ i j, (i, j) ∈ C → p i ≠ p j := fun i j hij => by
    obtain ⟨h1, h2⟩ := hC0 i j hij
    by_cases hi : i ∈ τ
    · by_cases hj : j ∈ τ
      · rw [pin i hi, pin j hj]
        intro e
        have := idx_inj hi hj e
        omega
      · rw [pin i hi, pout j hj]
        have := idx_mem.1 hi
        omega
    · by_cases hj : j ∈ τ
      · rw [pout i hi, pin j hj]
        have := idx_mem.1 hj
        omega
      · rw [pout i hi, pout j hj]
        omega
  obtain ⟨l, hl, A', g1, g2, g3⟩ := chk_ok _ _ hc hp hne
  have key : ∀ i j, τ.idxOf i < τ.idxOf j → p i < p j := fun i j hij => by
    have hi : i ∈ τ := idx_mem.2 (Nat.lt_of_lt_of_le hij List.idxOf_le_length)
    rw [pin i hi]
    by_cases hj : j ∈ τ
    · rw [pin j hj]; exact hij
    · rw [pout j hj]
      have := idx_mem.1 hi
      omega
  exact ⟨l, hl, fun i j hC => ⟨fun h => respB_at g2 ((g3 i j hC).1 (key i j h)), fun h => respB_at g2 ((g3 i j hC).2 (key j i h))⟩⟩
theorem astep_slot {cf : Nat → CallF} {draw : Bool} {A : List (List Nat)} {k : Nat} {s s' : Slots} {h h' : Heap} {a : Nat} (hl : astep E cf draw A n ops k s h = some (s', h')) (hd : ∀ o, ops[k]? = some o → o.dst ≠ some a) : s' a = s a := by
  unfold astep at hl
  split at hl
  · cases hl; rfl
  · rename_i o ho
    have hn := hd o ho
    have hp : ∀ v, put o v s a = s a := fun v => by
      unfold put
      cases hx : o.dst with
      | none => rfl
      | some d =>
        show upd s d v a = s a
        unfold upd
        rw [if_neg]
        rintro rfl
        exact hn hx
    split at hl
    · split at hl
      · split at hl
        · cases hl; exact hp _
        · cases hl
      · cases hl; exact hp _
    · cases hl
theorem arun_slot {cf : Nat → CallF} {draw : Bool} {A : List (List Nat)} {a : Nat} : ∀ (L : List Nat) {s s' : Slots} {h h' : Heap}, arun E cf draw A n ops L s h = some (s', h') → (∀ k ∈ L, ∀ o, ops[k]? = some o → o.dst ≠ some a) → s' a = s a
  | [], _, _, _, _, hl, _ => by cases hl; rfl
  | k :: L, s, s', h, h', hl, hd => by
    simp only [arun] at hl
    split at hl
    · rename_i s1 h1 hk
      rw [arun_slot L hl (fun k hk => hd k (by simp [hk])), astep_slot hk (hd k (by simp))]
    · cases hl
theorem stab_spec {A : List (List Nat)} {i : Nat} {o : Oper} {a : Nat} (hs : stab A ops.toList i o = true) (ha : adrSlot o.op = some a) {j : Nat} {p : Oper} (hj : ops[j]? = some p) (hd : p.dst = some a) : j ∈ A.getD i [] := by
  unfold stab at hs
  rw [ha] at hs
  have hlt := (Array.getElem?_eq_some_iff.1 hj).1
  have := List.all_eq_true.1 hs j (by simpa using hlt)
  rw [Array.getElem?_toList, hj] at this
  simp only [Bool.or_eq_true, bne_iff_ne, ne_eq] at this
  rcases this with h | h
  · exact absurd hd h
  · simpa using h
theorem move_firstD (ok : EnvOk E P) {i : Nat} {y : Oper} (hno : ∀ o ∈ ops.toList, noGo o.op = true) (hi : ops[i]? = some y) (r : Slots × Heap) : ∀ (l : List Nat) {s : Slots} {h : Heap} (rest : List Nat), Fw.Valid E n s h →
    (∀ k ∈ l, ∀ x, ops[k]? = some x → clash E (aheads ops.toList) ops.toList k i x y = false ∨ (mayDyn (aheads ops.toList) ops.toList k i x y = true ∧ dynOk E r.1 x.op y.op = true)) → (∀ k ∈ l, k < ops.size) →
    (l ++ i :: rest).Pairwise (fun p q => q ∉ (aheads ops.toList).getD p []) → (∀ p ∈ l ++ i :: rest, p ∉ (aheads ops.toList).getD p []) → (∀ q ∈ l ++ i :: rest, q ∉ (aheads ops.toList).getD i []) →
    arun E cf0 true (aheads ops.toList) n ops (l ++ i :: rest) s h = some r → arun E cf0 true (aheads ops.toList) n ops (i :: (l ++ rest)) s h = some r
  | [], _, _, rest, _, _, _, _, _, _, hr => hr
  | k :: l, s, h, rest, V, hcl, hlt, hpw, hirr, hin, hr => by
    have hr0 := hr
    simp only [List.cons_append, arun] at hr
    split at hr
    · rename_i s1 h1 hk
      obtain ⟨hk1, hpw2⟩ := List.pairwise_cons.1 hpw
      have hr2 := move_firstD ok hno hi r l rest (V.step ok cf0_sim hk) (fun k hk => hcl k (by simp [hk])) (fun k hk => hlt k (by simp [hk])) hpw2 (fun p hp => hirr p (by simp only [List.cons_append]; exact List.mem_cons_of_mem _ hp)) (fun p hp => hin p (by simp only [List.cons_append]; exact List.mem_cons_of_mem _ hp)) hr
      simp only [arun] at hr2
      split at hr2
      · rename_i s2 h2 hi2
        obtain ⟨x, hx⟩ : ∃ x, ops[k]? = some x := ⟨_, Array.getElem?_eq_getElem (hlt k (by simp))⟩
        have key : ∃ s3 h3, astep E cf0 true (aheads ops.toList) n ops i s h = some (s3, h3) ∧ astep E cf0 true (aheads ops.toList) n ops k s3 h3 = some (s2, h2) := by
          rcases hcl k (by simp) x hx with hc | ⟨hm, hd⟩
          · exact swap_steps hx hi hc V.within hk hi2
          · unfold mayDyn slotsApart at hm
            simp only [Bool.and_eq_true, Bool.not_eq_true', Bool.or_eq_false_iff] at hm
            obtain ⟨⟨⟨m1, m2⟩, m3⟩, m4⟩ := hm
            have fx : ∀ a, adrSlot x.op = some a → r.1 a = s a := fun a ha => arun_slot (a := a) _ hr0 fun q hq o ho hd => by
              have hA := stab_spec m3 ha ho hd
              rcases List.mem_cons.1 hq with rfl | hq
              · exact hirr _ (by simp) hA
              · exact hk1 q hq hA
            have fy : ∀ a, adrSlot y.op = some a → r.1 a = s a := fun a ha => arun_slot (a := a) _ hr0 fun q hq o ho hd => hin q hq (stab_spec m4 ha ho hd)
            rw [dyn_congr fx fy] at hd
            have rx : ∀ {j : Nat} {o : Oper}, ops[j]? = some o → roAt E (aheads ops.toList) ops.toList j o = false := fun {j o} ho => by
              unfold roAt
              have hmem : o ∈ ops.toList := by
                obtain ⟨hlt, rfl⟩ := Array.getElem?_eq_some_iff.1 ho
                exact Array.getElem_mem_toList hlt
              have := hno o hmem
              have hc : isCall E o.op = false := isCall_noGo' (by unfold noGo at this; exact this)
              rw [hc, Bool.false_and]
            refine swap_steps0 hx hi (fun d hd => ?_) (fun d hd => ?_) (fun d hd => ?_) (fun v u g1 g2 q1 q2 => ?_) hk hi2
            · rw [hd] at m1
              simp only [Bool.or_eq_false_iff] at m1
              simpa using m1.1
            · rw [hd] at m1
              simp only [Bool.or_eq_false_iff] at m1
              simpa using m1.2
            · rw [hd] at m2
              simpa using m2
            · simp only [rx hx, rx hi, Bool.false_eq_true, if_false] at q1 q2 ⊢
              exact dyn_swap V.within hd q1 q2
        obtain ⟨s3, h3, q1, q2⟩ := key
        simp only [arun, q1, List.cons_append, q2]
        exact hr2
      · cases hr2
    · cases hr
theorem mayDyn_symm {A : List (List Nat)} {ops : List Oper} {i j : Nat} {x y : Oper} (h : mayDyn A ops i j x y = true) : mayDyn A ops j i y x = true := by
  unfold mayDyn slotsApart at h ⊢
  simp only [Bool.and_eq_true, Bool.not_eq_true', Bool.or_eq_false_iff] at h ⊢
  obtain ⟨⟨⟨m1, m2⟩, m3⟩, m4⟩ := h
  refine ⟨⟨⟨?_, ?_⟩, m4⟩, m3⟩
  · cases hy : y.dst with
    | none => rfl
    | some d =>
      rw [hy] at m2
      simp only [Bool.or_eq_false_iff]
      refine ⟨by simpa using m2, ?_⟩
      cases hx : x.dst with
      | none => rfl
      | some d' =>
        rw [hx, hy] at m1
        simp only [Bool.or_eq_false_iff] at m1
        have := m1.2
        simp only [beq_eq_false_iff_ne, ne_eq] at this ⊢
        exact fun e => this e.symm
  · cases hx : x.dst with
    | none => rfl
    | some d =>
      rw [hx] at m1
      simp only [Bool.or_eq_false_iff] at m1
      exact m1.1
theorem dynOk_symm {E : Env} {s : Slots} {x y : Op} : dynOk E s x y = dynOk E s y x := by
  unfold dynOk dynS
  rw [apartF_symm (writes E s x) (writes E s y)]
  cases dynR E s x y <;> cases dynR E s y x <;> cases isSt x <;> cases isSt y <;> cases dynM x y <;> cases dynM y x <;> simp
theorem fam_sim (C : List (Nat × Nat)) (hC : covOk C E ops.toList = true) (ok : EnvOk E P) {F : List (List Nat)} (hF : famOkC C ops.toList F = true) {Q : Exit → Act → World → Prop} {R : Slots → Heap → Prop} : ∀ (fuel : Nat) (listed : Array Bool) (τ : List Nat) {h : Heap} {μ : Place} {w : World} {s : Slots} {a : Act}, listed.size = ops.size →
    (∀ j o, ops[j]? = some o → listed.getD j false = true → ∀ e ∈ o.after, Region.binds .any e = true → listed.getD e.on false = true) → (rest ops listed).length ≤ fuel →
    (∀ i, i ∈ τ ↔ i < ops.size ∧ listed.getD i false = true) → Resp ops τ →
    St E n base h μ w s a → (∀ l ∈ F, OKl (C) l τ → ∃ s' h', arun E cf0 true (aheads ops.toList) n ops (remL l listed) s h = some (s', h') ∧ dynAll C E ops.toList s' = true ∧ R s' h') →
    (∀ s' h' a' w' μ', R s' h' → St E n base h' μ' w' s' a' → To base h μ w h' μ' w' → Q .normal a' w') → wpAny P .any ops Q fuel listed a w := by
  have hF2 := hF
  unfold famOkC at hF2
  simp only [Bool.and_eq_true] at hF2
  obtain ⟨⟨⟨hb, hno0⟩, hl0⟩, _⟩ := hF2
  have hno : ∀ o ∈ ops.toList, noGo o.op = true := fun o ho => List.all_eq_true.1 hno0 o ho
  unfold covOk at hC
  simp only [Bool.and_eq_true] at hC
  have hC0 : ∀ i j, (i, j) ∈ C → i < j ∧ j < ops.size := fun i j hij => by
    have := List.all_eq_true.1 hC.1 (i, j) hij
    simpa using this
  have hlF : ∀ l ∈ F, respB (aheads ops.toList) l = true ∧ l.length = ops.size ∧ (∀ i ∈ l, i < ops.size) ∧ l.Nodup ∧ ∀ i, i < ops.size → i ∈ l := fun l hl => by
    have := List.all_eq_true.1 hl0 l hl
    simp only [Bool.and_eq_true, decide_eq_true_eq, List.all_eq_true, Array.length_toList, List.mem_range] at this
    exact ⟨this.1.1.1.1, this.1.1.1.2, this.1.1.2, this.1.2, this.2⟩
  intro fuel
  have unl : ∀ {listed : Array Bool} {i : Nat}, listed.size = ops.size → i < ops.size → listed.getD i false = listed.getD i true := fun {listed i} hs hi => by
    simp [Array.getD_eq_getD_getElem?, Array.getElem?_eq_getElem (show i < listed.size by omega)]
  have noready : ∀ {listed : Array Bool}, listed.size = ops.size → Region.ready .any ops listed = [] → rest ops listed = [] := by
    intro listed hs hr
    cases hl : rest ops listed with
    | nil => rfl
    | cons i r =>
      exfalso
      have hi : i ∈ rest ops listed := by rw [hl]; simp
      obtain ⟨h1, h2⟩ := mem_rest.1 hi
      have hmin : ∀ k, k < i → listed.getD k false = true := fun k hk => by
        rw [unl hs (by omega)]
        cases hb : listed.getD k true with
        | true => rfl
        | false =>
          exfalso
          have hk2 : k ∈ rest ops listed := mem_rest.2 ⟨by omega, hb⟩
          rw [hl] at hk2
          have hp : (i :: r).Pairwise (· < ·) := by
            rw [← hl]
            exact List.Pairwise.filter _ List.pairwise_lt_range
          rcases List.mem_cons.1 hk2 with rfl | hk2
          · omega
          · have := (List.pairwise_cons.1 hp).1 k hk2
            omega
      have : i ∈ Region.ready .any ops listed := by
        rw [mem_ready]
        obtain ⟨o, ho⟩ : ∃ o, ops[i]? = some o := ⟨_, Array.getElem?_eq_getElem h1⟩
        exact ⟨h2, o, ho, fun e he hb' => hmin _ (back_spec hb ho e he hb')⟩
      rw [hr] at this
      cases this
  have remnil : ∀ {listed : Array Bool} {l : List Nat}, l ∈ F → rest ops listed = [] → remL l listed = [] := fun {listed l} hl hr => by
    cases hx : remL l listed with
    | nil => rfl
    | cons i r =>
      exfalso
      have hi : i ∈ remL l listed := by rw [hx]; simp
      obtain ⟨h1, h2⟩ := mem_remL.1 hi
      have : i ∈ rest ops listed := mem_rest.2 ⟨(hlF l hl).2.2.1 i h1, h2⟩
      rw [hr] at this
      cases this
  have fin : ∀ {listed : Array Bool} {τ : List Nat} {h : Heap} {μ : Place} {w : World} {s : Slots} {a : Act}, rest ops listed = [] → Resp ops τ → St E n base h μ w s a → (∀ l ∈ F, OKl (C) l τ → ∃ s' h', arun E cf0 true (aheads ops.toList) n ops (remL l listed) s h = some (s', h') ∧ dynAll C E ops.toList s' = true ∧ R s' h') →
      (∀ s' h' a' w' μ', R s' h' → St E n base h' μ' w' s' a' → To base h μ w h' μ' w' → Q .normal a' w') → Q .normal a w := fun {listed τ h μ w s a} hr hresp S hl hQ => by
    obtain ⟨l, hlm, hok⟩ := fam_has hC0 hF hresp
    obtain ⟨s', h', h1, h2⟩ := hl l hlm hok
    rw [remnil hlm hr] at h1
    simp only [arun, Option.some.injEq, Prod.mk.injEq] at h1
    obtain ⟨rfl, rfl⟩ := h1
    exact hQ _ _ a w μ h2.2 S (To.refl _ _ _ _)
  induction fuel with
  | zero =>
    intro listed τ h μ w s a hs closed hf hτ hresp S hl hQ
    have hr : rest ops listed = [] := List.eq_nil_of_length_eq_zero (by omega)
    have hrd : Region.ready .any ops listed = [] := by
      cases hx : Region.ready .any ops listed with
      | nil => rfl
      | cons i r =>
        exfalso
        have : i ∈ Region.ready .any ops listed := by rw [hx]; simp
        obtain ⟨h1, o, ho, _⟩ := mem_ready.1 this
        have : i ∈ rest ops listed := mem_rest.2 ⟨(Array.getElem?_eq_some_iff.1 ho).1, h1⟩
        rw [hr] at this
        cases this
    exact ⟨hrd, fin hr hresp S hl hQ⟩
  | succ fuel ih =>
    intro listed τ h μ w s a hs closed hf hτ hresp S hl hQ
    refine ⟨fun hr => fin (noready hs hr) hresp S hl hQ, fun i hi => ?_⟩
    obtain ⟨hun, o, ho, hall⟩ := mem_ready.1 hi
    have hlt := (Array.getElem?_eq_some_iff.1 ho).1
    have hiτ : i ∉ τ := fun hm => by
      have := ((hτ i).1 hm).2
      rw [unl hs hlt, hun] at this
      cases this
    have ahead : ∀ k ∈ (aheads ops.toList).getD i [], listed.getD k false = true := ahead_listed' (listed := fun k => listed.getD k false = true) hb closed (i + 1) i o (by omega) ho hall
    have aheadτ : ∀ k ∈ (aheads ops.toList).getD i [], k ∈ τ := fun k hk => by
      refine (hτ k).2 ⟨?_, ahead k hk⟩
      have := aheads_lt hb (i + 1) i k (by omega) hk
      omega
    have hresp' : Resp ops (τ ++ [i]) := by
      intro k hk x hx
      rcases List.mem_append.1 hk with hk | hk
      · have := hresp k hk x hx
        have hxm : x ∈ τ := idx_mem.2 (Nat.lt_trans this (idx_mem.1 hk))
        rw [idx_app hxm, idx_app hk]
        exact this
      · obtain rfl := List.mem_singleton.1 hk
        have hxm := aheadτ x hx
        rw [idx_app hxm]
        exact Nat.lt_of_lt_of_le (idx_mem.1 hxm) (idx_new hiτ)
    have hnew : (τ ++ [i]).idxOf i = τ.length := by
      rw [List.idxOf_append, if_neg hiτ]
      simp
    have first : ∀ l ∈ F, OKl (C) l (τ ++ [i]) → ∃ s' h', arun E cf0 true (aheads ops.toList) n ops (i :: remL l (listed.setIfInBounds i true)) s h = some (s', h') ∧ dynAll C E ops.toList s' = true ∧ R s' h' := fun l hlm hok => by
      obtain ⟨hresB, hlen, hin, hnd, hfull⟩ := hlF l hlm
      obtain ⟨s', h', h1, h2⟩ := hl l hlm hok.back
      refine ⟨s', h', ?_, h2⟩
      have hil : i ∈ l := hfull i hlt
      have hir : i ∈ remL l listed := mem_remL.2 ⟨hil, hun⟩
      obtain ⟨l1, l2, hsplit⟩ := List.append_of_mem hir
      have hndr : (remL l listed).Nodup := List.Pairwise.filter _ hnd
      have hni : i ∉ l1 ∧ i ∉ l2 := by
        rw [hsplit, List.nodup_append] at hndr
        obtain ⟨_, g2, g3⟩ := hndr
        exact ⟨fun hm => g3 i hm i (by simp) rfl, (List.nodup_cons.1 g2).1⟩
      have before : ∀ k ∈ l1, l.idxOf k < l.idxOf i := fun k hk => by
        have hsub : (l1 ++ i :: l2).Sublist l := by
          rw [← hsplit]
          exact List.filter_sublist
        have hpw : l.Pairwise (fun a b => l.idxOf a < l.idxOf b) := by
          rw [List.pairwise_iff_getElem]
          intro a b ha hb' hab
          rw [hnd.idxOf_getElem a ha, hnd.idxOf_getElem b hb']
          exact hab
        exact (List.pairwise_append.1 (hpw.sublist hsub)).2.2 k hk i (by simp)
      have hcl : ∀ k ∈ l1, ∀ x, ops[k]? = some x → clash E (aheads ops.toList) ops.toList k i x o = false ∨ (mayDyn (aheads ops.toList) ops.toList k i x o = true ∧ dynOk E s' x.op o.op = true) := by
        intro k hk x hx
        have hkr : k ∈ remL l listed := by rw [hsplit]; simp [hk]
        obtain ⟨hkl, hku⟩ := mem_remL.1 hkr
        have hkτ : k ∉ τ := fun hm => by
          have := ((hτ k).1 hm).2
          rw [unl hs ((hτ k).1 hm).1, hku] at this
          cases this
        have hki : k ≠ i := fun e => hni.1 (e ▸ hk)
        have hkn : τ.length < (τ ++ [i]).idxOf k := by
          rw [List.idxOf_append, if_neg hkτ]
          have : [i].idxOf k = 1 := by simp [List.idxOf_cons, (show (i == k) = false by simpa using fun e => hki e.symm)]
          omega
        cases hcx : clash E (aheads ops.toList) ops.toList k i x o with
        | false => exact .inl rfl
        | true =>
          right
          have hb1 := before k hk
          have hapart : ∀ p q, (p, q) ∈ pairsOf E ops.toList → (p, q) ∉ C → ∀ x y, ops[p]? = some x → ops[q]? = some y → mayDyn (aheads ops.toList) ops.toList p q x y = true ∧ dynOk E s' x.op y.op = true := fun p q hpq hn x y hx hy => by
            have hm : (p, q) ∈ restOf C E ops.toList := by
              unfold restOf
              rw [List.mem_filter]
              exact ⟨hpq, by simpa using hn⟩
            have g1 := List.all_eq_true.1 hC.2 _ hm
            have g2 := List.all_eq_true.1 h2.1 _ hm
            simp only [Array.getElem?_toList, hx, hy] at g1 g2
            exact ⟨g1, g2⟩
          rcases Nat.lt_or_gt_of_ne hki with hlt' | hgt'
          · by_cases hA : k ∈ (aheads ops.toList).getD i []
            · exact absurd (aheadτ k hA) hkτ
            · by_cases hc : (k, i) ∈ C
              · have := (hok k i hc).2 (by rw [hnew]; exact hkn)
                omega
              · exact hapart k i (pairs_in hlt' hx ho hcx hA) hc x o hx ho
          · have hcx' : clash E (aheads ops.toList) ops.toList i k o x = true := by
              cases hz : clash E (aheads ops.toList) ops.toList i k o x with
              | true => rfl
              | false => rw [clash_symm hz] at hcx; cases hcx
            by_cases hA : i ∈ (aheads ops.toList).getD k []
            · have := respB_at hresB hA
              omega
            · by_cases hc : (i, k) ∈ C
              · have := (hok i k hc).1 (by rw [hnew]; exact hkn)
                omega
              · obtain ⟨g1, g2⟩ := hapart i k (pairs_in hgt' ho hx hcx' hA) hc o x ho hx
                exact ⟨mayDyn_symm g1, by rw [dynOk_symm]; exact g2⟩
      have hsubl : (l1 ++ i :: l2).Sublist l := by
        rw [← hsplit]
        exact List.filter_sublist
      have hpw0 : (l1 ++ i :: l2).Pairwise (fun p q => q ∉ (aheads ops.toList).getD p []) := by
        have hpw : l.Pairwise (fun a b => l.idxOf a < l.idxOf b) := by
          rw [List.pairwise_iff_getElem]
          intro a b ha hb' hab
          rw [hnd.idxOf_getElem a ha, hnd.idxOf_getElem b hb']
          exact hab
        exact (hpw.sublist hsubl).imp fun {p q} hpq hA => by
          have := respB_at hresB hA
          omega
      have hirr0 : ∀ p ∈ l1 ++ i :: l2, p ∉ (aheads ops.toList).getD p [] := fun p _ hA => by
        have := aheads_lt hb (p + 1) p p (by omega) hA
        omega
      have hin0 : ∀ q ∈ l1 ++ i :: l2, q ∉ (aheads ops.toList).getD i [] := fun q hq hA => by
        rw [← hsplit] at hq
        have h3 := (mem_remL.1 hq).2
        have h4 := ahead q hA
        have h5 := hin q (mem_remL.1 hq).1
        rw [unl hs h5, h3] at h4
        cases h4
      rw [hsplit] at h1
      have hm := move_firstD ok hno ho (s', h') l1 l2 ⟨base, μ, w, a, S⟩ hcl (fun k hk => hin k (mem_remL.1 (by rw [hsplit]; simp [hk] : k ∈ remL l listed)).1) hpw0 hirr0 hin0 h1
      have hrest : remL l (listed.setIfInBounds i true) = l1 ++ l2 := by
        have e1 : remL l (listed.setIfInBounds i true) = (remL l listed).filter (fun k => k != i) := by
          unfold remL
          rw [List.filter_filter]
          refine List.filter_congr fun k hk => ?_
          by_cases hki : k = i
          · subst hki
            simp [Array.getD_eq_getD_getElem?, Array.getElem?_setIfInBounds_self_of_lt (show k < listed.size by omega)]
          · rw [getD_set_ne true (fun h => hki h.symm)]
            simp [hki]
        rw [e1, hsplit, List.filter_append, List.filter_cons]
        simp only [bne_self_eq_false, Bool.false_eq_true, if_false]
        rw [List.filter_eq_self.2 fun k hk => by have : k ≠ i := fun e => hni.1 (e ▸ hk); simpa using this, List.filter_eq_self.2 fun k hk => by have : k ≠ i := fun e => hni.2 (e ▸ hk); simpa using this]
      rw [hrest]
      exact hm
    obtain ⟨l0, hl0m, hok0⟩ := fam_has hC0 hF hresp'
    obtain ⟨s0, h0, hm0, _⟩ := first l0 hl0m hok0
    simp only [arun] at hm0
    split at hm0
    · rename_i s1 h1 hstep
      refine step_sim ok cf0_sim S hstep fun a1 w1 μ1 S1 t1 => ?_
      refine ih (listed.setIfInBounds i true) (τ ++ [i]) (by simpa using hs) ?_ ?_ ?_ hresp' S1 (fun l hlm hok => ?_) fun s' h' a' w' μ' hR S' t' => hQ s' h' a' w' μ' hR S' (t1.trans t')
      · intro j oj hoj hj e he hb
        by_cases hji : j = i
        · subst hji
          rw [ho] at hoj
          obtain rfl := Option.some.inj hoj
          exact getD_set_true (hall e he hb)
        · rw [getD_set_ne false (fun h => hji h.symm)] at hj
          exact getD_set_true (closed j oj hoj hj e he hb)
      · have e1 : (rest ops (listed.setIfInBounds i true)).length + 1 ≤ (rest ops listed).length := by
          have hir : i ∈ rest ops listed := mem_rest.2 ⟨hlt, hun⟩
          have e1 : rest ops (listed.setIfInBounds i true) = (rest ops listed).filter (fun k => k != i) := by
            unfold rest
            rw [List.filter_filter]
            refine List.filter_congr fun k hk => ?_
            by_cases hki : k = i
            · subst hki
              simp [Array.getD_eq_getD_getElem?, Array.getElem?_setIfInBounds_self_of_lt (show k < listed.size by omega)]
            · rw [getD_set_ne true (fun h => hki h.symm)]
              simp [hki]
          rw [e1]
          obtain ⟨l1, l2, hsplit⟩ := List.append_of_mem hir
          rw [hsplit, List.filter_append, List.filter_cons]
          simp only [bne_self_eq_false, Bool.false_eq_true, if_false, List.length_append, List.length_cons]
          have g1 := List.length_filter_le (fun k => k != i) l1
          have g2 := List.length_filter_le (fun k => k != i) l2
          omega
        omega
      · intro k
        by_cases hki : k = i
        · subst hki
          simp only [List.mem_append, List.mem_singleton, or_true, true_iff]
          exact ⟨hlt, by simp [Array.getD_eq_getD_getElem?, Array.getElem?_setIfInBounds_self_of_lt (show k < listed.size by omega)]⟩
        · rw [getD_set_ne false (fun h => hki h.symm), ← hτ k]
          simp [hki]
      · obtain ⟨s', h', g1, g2⟩ := first l hlm hok
        simp only [arun, hstep] at g1
        exact ⟨s', h', g1, g2⟩
    · cases hm0
end
theorem aop_noGo {E : Env} {cf cf' : CallF} {op : Op} (hn : noGo op = true) (s : Slots) (h : Heap) : aop E cf op s h = aop E cf' op s h := by
  cases op <;> try rfl
  case call c =>
    obtain ⟨callee, args, tys⟩ := c
    cases callee with
    | builtin b =>
      simp only [aop]
      cases evs s args.toList <;> rfl
    | _ => cases hn
theorem isCall_noGo {E : Env} {op : Op} (hn : noGo op = true) : isCall E op = false := by
  cases op <;> try rfl
  case call c =>
    obtain ⟨callee, args, tys⟩ := c
    cases callee with
    | builtin b => rfl
    | _ => cases hn
theorem aops_perm {E : Env} {cf : Nat → CallF} {A : List (List Nat)} {n : Nat} {ops : Array Oper} (hn : ∀ o ∈ ops.toList, noGo o.op = true) : ∀ (l : List Nat) (i : Nat) (s : Slots) (h : Heap), (∀ k ∈ l, k < ops.size) →
    aops E cf true A n ops (l.filterMap (fun k => ops[k]?)) i s h = arun E cf0 true A n ops l s h
  | [], i, s, h, _ => rfl
  | k :: l, i, s, h, hl => by
    have hk : k < ops.size := hl k (by simp)
    have ho : ops[k]? = some ops[k] := Array.getElem?_eq_getElem hk
    have hno := hn ops[k] (Array.getElem_mem_toList hk)
    have hro : ∀ j, roAt E A ops.toList j ops[k] = false := fun j => by
      unfold roAt
      rw [isCall_noGo hno, Bool.false_and]
    rw [List.filterMap_cons, ho]
    simp only [aops, arun, astep, ho, hro, Bool.and_false, Bool.false_eq_true, if_false]
    have ih := aops_perm (cf := cf) (A := A) (E := E) (n := n) hn l (i + 1)
    by_cases h1 : okAt n ops ops[k] s = true
    · rw [if_pos h1, if_pos h1]
      by_cases h2 : wants ops ops[k] s = true
      · rw [if_pos h2, if_pos h2, aop_noGo (cf := cf i) (cf' := cf0 k) hno]
        cases hx : aop E (cf0 k) ops[k].op s h with
        | none => rfl
        | some p => exact ih _ _ (fun k hk => hl k (List.mem_cons_of_mem _ hk))
      · rw [if_neg h2, if_neg h2]
        exact ih _ _ (fun k hk => hl k (List.mem_cons_of_mem _ hk))
    · rw [if_neg h1, if_neg h1]
theorem Wp.regionD {L : Nat} {E : Env} {n : Nat} {s : Slots} {h : Heap} {K : AExit → Slots → Heap → Prop} {id : Nat} {ops : Array Oper} (C : List (Nat × Nat)) (F : List (List Nat)) (hC : covOk C E ops.toList = true) (hF : famOkC C ops.toList F = true) (l : List (Nat × Value)) (bs : List Blk)
    (hw : ∀ o ∈ F, WpOps E n true (aheads ops.toList) ops (o.filterMap (fun k => ops[k]?)) 0 s h (fun s' h' => dynAll C E ops.toList s' = true ∧ View L E n s' h' (layj l) (heapOf bs))) (hk : K .normal (layj l) (heapOf bs)) : Wp L E n (.region id ops true) s h K := by
  intro ok hL base μ w a Q S hQ
  have hF2 := hF
  unfold famOkC at hF2
  simp only [Bool.and_eq_true] at hF2
  obtain ⟨⟨⟨_, hno⟩, hl0⟩, _⟩ := hF2
  have hno' : ∀ o ∈ ops.toList, noGo o.op = true := fun o ho => List.all_eq_true.1 hno o ho
  have hin : ∀ l ∈ F, ∀ k ∈ l, k < ops.size := fun l hl => by
    have := List.all_eq_true.1 hl0 l hl
    simp only [Bool.and_eq_true, decide_eq_true_eq, List.all_eq_true, Array.length_toList, List.mem_range] at this
    exact this.1.1.2
  have hrest : rest ops (Array.replicate ops.size false) = List.range ops.size := by
    unfold rest
    refine List.filter_eq_self.2 fun k hk => ?_
    have hk' : k < ops.size := by simpa using hk
    simp [Array.getD_eq_getD_getElem?, hk']
  refine wp_region_any ok.mixed (fam_sim C hC (w := { w with drawn := w.drawn + 1 }) (R := fun s' h' => View L E n s' h' (layj l) (heapOf bs)) ok hF ops.size _ [] (by simp) ?_ (by rw [hrest]; simp) ?_ (fun k hk => absurd hk List.not_mem_nil) ⟨S.rel, S.base_le, S.sl, S.size, S.defers⟩ (fun o ho _ => ?_) fun s' h' a' w' μ' hR S' t' => ?_)
  · intro j o _ hj
    exfalso
    rw [Array.getD_eq_getD_getElem?] at hj
    by_cases hjs : j < ops.size
    · simp [hjs] at hj
    · simp [hjs] at hj
  · intro i
    simp only [List.not_mem_nil, false_iff, not_and]
    intro hi
    simp [Array.getD_eq_getD_getElem?, hi]
  · obtain ⟨cf, hcf, s', h', hr, hv⟩ := hw o ho ok
    rw [aops_perm hno' o 0 s h (hin o ho)] at hr
    have hrem : remL o (Array.replicate ops.size false) = o := by
      unfold remL
      refine List.filter_eq_self.2 fun k hk => ?_
      have hk' := hin o ho k hk
      simp [Array.getD_eq_getD_getElem?, hk']
    rw [hrem]
    exact ⟨s', h', hr, hv⟩
  · obtain ⟨μ2, S2, t2⟩ := hR (Nat.le_trans hL t'.ext.next) base μ' w' a' S'
    have t3 : To base h μ w h' μ' w' := ⟨t'.ext, ⟨t'.below.os, t'.below.tape, t'.below.output, t'.below.size, t'.below.block⟩⟩
    exact hQ .normal _ _ a' w' μ2 hk S2 ((t3.tom hL).trans t2)
theorem pairs_cov (E : Env) (ops : Array Oper) : covOk (pairsOf E ops.toList) E ops.toList = true ∧ restOf (pairsOf E ops.toList) E ops.toList = [] := by
  have hr : restOf (pairsOf E ops.toList) E ops.toList = [] := by
    unfold restOf
    rw [List.filter_eq_nil_iff]
    intro p hp
    simpa using hp
  refine ⟨?_, hr⟩
  unfold covOk
  rw [hr, List.all_nil, Bool.and_true, List.all_eq_true]
  rintro ⟨i, j⟩ hij
  obtain ⟨h1, h2⟩ := pairs_spec hij
  rw [Array.length_toList]
  simp [h1, h2]
theorem Wp.regionV {L : Nat} {E : Env} {n : Nat} {s : Slots} {h : Heap} {K : AExit → Slots → Heap → Prop} {id : Nat} {ops : Array Oper} (F : List (List Nat)) (hF : famOk E ops.toList F = true) (l : List (Nat × Value)) (bs : List Blk)
    (hw : ∀ o ∈ F, WpOps E n true (aheads ops.toList) ops (o.filterMap (fun k => ops[k]?)) 0 s h (fun s' h' => View L E n s' h' (layj l) (heapOf bs))) (hk : K .normal (layj l) (heapOf bs)) : Wp L E n (.region id ops true) s h K := by
  obtain ⟨hc, hr⟩ := pairs_cov E ops
  refine Wp.regionD (pairsOf E ops.toList) F hc hF l bs (fun o ho ok => ?_) hk
  obtain ⟨cf, c, s', h', r, v⟩ := hw o ho ok
  refine ⟨cf, c, s', h', r, ?_, v⟩
  unfold dynAll
  rw [hr]
  rfl
theorem range_get {α : Type} : ∀ l : List α, (List.range l.length).filterMap (fun k => l[k]?) = l
  | [] => rfl
  | a :: l => by
    rw [List.length_cons, List.range_succ_eq_map, List.filterMap_cons]
    simp only [List.getElem?_cons_zero, List.filterMap_map]
    congr 1
    exact range_get l
theorem Wp.regionT {L : Nat} {E : Env} {n : Nat} {s : Slots} {h : Heap} {K : AExit → Slots → Heap → Prop} {id : Nat} {ops : Array Oper} (hC : covOk [] E ops.toList = true) (hF : famOkC [] ops.toList [List.range ops.toList.length] = true)
    (hw : WpOps E n true (aheads ops.toList) ops ops.toList 0 s h (fun s' h' => dynAll [] E ops.toList s' = true ∧ K .normal s' h')) : Wp L E n (.region id ops true) s h K := by
  intro ok hL base μ w a Q S hQ
  have hF2 := hF
  unfold famOkC at hF2
  simp only [Bool.and_eq_true] at hF2
  obtain ⟨⟨⟨_, hno⟩, _⟩, _⟩ := hF2
  have hno' : ∀ o ∈ ops.toList, noGo o.op = true := fun o ho => List.all_eq_true.1 hno o ho
  have hrest : rest ops (Array.replicate ops.size false) = List.range ops.size := by
    unfold rest
    refine List.filter_eq_self.2 fun k hk => ?_
    have hk' : k < ops.size := by simpa using hk
    simp [Array.getD_eq_getD_getElem?, hk']
  refine wp_region_any ok.mixed (fam_sim [] hC (w := { w with drawn := w.drawn + 1 }) (R := fun s' h' => K .normal s' h') ok hF ops.size _ [] (by simp) ?_ (by rw [hrest]; simp) ?_ (fun k hk => absurd hk List.not_mem_nil) ⟨S.rel, S.base_le, S.sl, S.size, S.defers⟩ (fun o ho _ => ?_) fun s' h' a' w' μ' hR S' t' => ?_)
  · intro j o _ hj
    exfalso
    rw [Array.getD_eq_getD_getElem?] at hj
    by_cases hjs : j < ops.size
    · simp [hjs] at hj
    · simp [hjs] at hj
  · intro i
    simp only [List.not_mem_nil, false_iff, not_and]
    intro hi
    simp [Array.getD_eq_getD_getElem?, hi]
  · obtain rfl := List.mem_singleton.1 ho
    obtain ⟨cf, hcf, s', h', hr, hv⟩ := hw ok
    have hall : (List.range ops.toList.length).filterMap (fun k => ops[k]?) = ops.toList := by
      have := range_get ops.toList
      simp only [Array.getElem?_toList] at this
      exact this
    have hp := aops_perm (cf := cf) (E := E) (A := aheads ops.toList) (n := n) hno' (List.range ops.toList.length) 0 s h (fun k hk => by simpa using hk)
    rw [hall] at hp
    rw [hp] at hr
    have hrem : remL (List.range ops.toList.length) (Array.replicate ops.size false) = List.range ops.toList.length := by
      unfold remL
      refine List.filter_eq_self.2 fun k hk => ?_
      have hk' : k < ops.size := by simpa using hk
      simp [Array.getD_eq_getD_getElem?, hk']
    rw [hrem]
    exact ⟨s', h', hr, hv⟩
  · have t3 : To base h μ w h' μ' w' := ⟨t'.ext, ⟨t'.below.os, t'.below.tape, t'.below.output, t'.below.size, t'.below.block⟩⟩
    exact hQ .normal _ _ a' w' μ' hR S' (t3.tom hL)
def kindOk (E : Env) (x y : Op) : Bool :=
  let rd : Op → Bool := fun o => match o with | .load _ (.tmp _) => true | .slice _ (.tmp _) .. => true | _ => false
  let ap : Op → Bool := fun o => match o with | .call { callee := .builtin .append, args := ⟨.tmp _ :: _⟩, .. } => true | _ => false
  (rd x && clsOf E x == .read && (isSt y || ap y)) || (rd y && clsOf E y == .read && (isSt x || ap x)) || (isSt x && isSt y) || dynM x y || dynM y x
def pairsC (E : Env) (ops : List Oper) : List (Nat × Nat) := (pairsOf E ops).filter fun p => match ops[p.1]?, ops[p.2]? with
  | some x, some y => !(mayDyn (aheads ops) ops p.1 p.2 x y && kindOk E x.op y.op)
  | _, _ => true
theorem all1 {P : List Nat → Prop} {a : List Nat} (h1 : P a) : ∀ o ∈ [a], P o := fun o ho => by
  rcases List.mem_cons.1 ho with rfl | ho
  · exact h1
  · cases ho
theorem allC {P : List Nat → Prop} {a : List Nat} {F : List (List Nat)} (h1 : P a) (h2 : ∀ o ∈ F, P o) : ∀ o ∈ a :: F, P o := fun o ho => by
  rcases List.mem_cons.1 ho with rfl | ho
  · exact h1
  · exact h2 o ho
def opAt (ops : List Oper) (i : Nat) : Op := match ops[i]? with
  | some x => x.op
  | none => .assign (.const .nilFunc)
def pairOk (E : Env) (ops : List Oper) (s : Slots) (p : Nat × Nat) : Bool := match ops[p.1]?, ops[p.2]? with
  | some x, some y => dynOk E s x.op y.op
  | _, _ => false
def PairsOk (E : Env) (ops : List Oper) (s : Slots) : List (Nat × Nat) → Prop
  | [] => True
  | p :: r => pairOk E ops s p = true ∧ PairsOk E ops s r
theorem PairsOk.all {E : Env} {ops : List Oper} {s : Slots} : ∀ {ps : List (Nat × Nat)}, PairsOk E ops s ps → ps.all (pairOk E ops s) = true
  | [], _ => rfl
  | p :: r, ⟨h1, h2⟩ => by rw [List.all_cons, h1, h2.all]; rfl
theorem dynAll_of {C : List (Nat × Nat)} {E : Env} {ops : List Oper} {s : Slots} (ps : List (Nat × Nat)) (h : restOf C E ops = ps) (k : PairsOk E ops s ps) : dynAll C E ops s = true := by
  unfold dynAll
  rw [h]
  exact k.all
theorem apart_ne {f g : Foot} {b b' : Nat} (hf : footB f = some b) (hg : footB g = some b') (hn : b ≠ b') : apartF f g = true := by
  have hb : (b != b') = true := by simpa using hn
  cases f with
  | nil => cases hf
  | any => cases hf
  | cells c lo n =>
    obtain rfl : c = b := Option.some.inj hf
    cases g with
    | nil => cases hg
    | any => cases hg
    | cells c' lo' n' =>
      obtain rfl : c' = b' := Option.some.inj hg
      simp only [apartF, hb, Bool.true_or]
    | blk c' =>
      obtain rfl : c' = b' := Option.some.inj hg
      exact hb
  | blk c =>
    obtain rfl : c = b := Option.some.inj hf
    cases g with
    | nil => cases hg
    | any => cases hg
    | cells c' lo' n' =>
      obtain rfl : c' = b' := Option.some.inj hg
      exact hb
    | blk c' =>
      obtain rfl : c' = b' := Option.some.inj hg
      exact hb
theorem pair_at {E : Env} {ops : List Oper} {s : Slots} {i j : Nat} (hi : (decide (i < ops.length) && decide (j < ops.length)) = true) (h : dynOk E s (opAt ops i) (opAt ops j) = true) : pairOk E ops s (i, j) = true := by
  simp only [Bool.and_eq_true, decide_eq_true_eq] at hi
  unfold opAt at h
  unfold pairOk
  simp only [List.getElem?_eq_getElem hi.1, List.getElem?_eq_getElem hi.2] at h ⊢
  exact h
theorem pair_rw {E : Env} {ops : List Oper} {s : Slots} {i j b b' : Nat} (hn : b ≠ b') (hi : (decide (i < ops.length) && decide (j < ops.length)) = true) (h1 : (clsOf E (opAt ops i) == .read) = true) (h2 : footB (reads E s (opAt ops i)) = some b) (h3 : footB (writes E s (opAt ops j)) = some b') : pairOk E ops s (i, j) = true :=
  pair_at hi (by unfold dynOk dynR; rw [h1, apart_ne h2 h3 hn]; rfl)
theorem pair_wr {E : Env} {ops : List Oper} {s : Slots} {i j b b' : Nat} (hn : b' ≠ b) (hi : (decide (i < ops.length) && decide (j < ops.length)) = true) (h1 : (clsOf E (opAt ops j) == .read) = true) (h2 : footB (reads E s (opAt ops j)) = some b') (h3 : footB (writes E s (opAt ops i)) = some b) : pairOk E ops s (i, j) = true :=
  pair_at hi (by
    have : dynR E s (opAt ops j) (opAt ops i) = true := by unfold dynR; rw [h1, apart_ne h2 h3 hn]; rfl
    unfold dynOk
    rw [this]
    cases dynR E s (opAt ops i) (opAt ops j) <;> rfl)
theorem pair_ww {E : Env} {ops : List Oper} {s : Slots} {i j b b' : Nat} (hn : b ≠ b') (hi : (decide (i < ops.length) && decide (j < ops.length)) = true) (h1 : (isSt (opAt ops i) && isSt (opAt ops j)) = true) (h2 : footB (writes E s (opAt ops i)) = some b) (h3 : footB (writes E s (opAt ops j)) = some b') : pairOk E ops s (i, j) = true :=
  pair_at hi (by
    have : dynS E s (opAt ops i) (opAt ops j) = true := by unfold dynS; rw [h1, apart_ne h2 h3 hn]; rfl
    unfold dynOk
    rw [this]
    cases dynR E s (opAt ops i) (opAt ops j) <;> cases dynR E s (opAt ops j) (opAt ops i) <;> rfl)
end Go.Fw
