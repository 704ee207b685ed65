/- Blocks lent to a call, of which some are gone behind it. -/
import Derived.Test.YtlejgfeoffhjoaaFwHole
namespace Go.Fw
open Go.RowKit
theorem join_mem {l : List (Option Blk)} {b : Nat} {x : Blk} (h : (l[b]?).join = some x) : some x ∈ l := by
  cases e : l[b]? with
  | none => rw [e] at h; cases h
  | some y =>
    rw [e] at h
    have h2 : y = some x := h
    subst h2
    exact List.mem_of_getElem? e
theorem join_lt {l : List (Option Blk)} {b : Nat} {x : Blk} (h : (l[b]?).join = some x) : b < l.length := by
  rcases Nat.lt_or_ge b l.length with h1 | h1
  · exact h1
  · rw [List.getElem?_eq_none h1] at h
    cases h
def Heap.alloc' (h : Heap) (x : Option Blk) : Heap := ⟨h.next + 1, fun b => if b = h.next then x else h.get b⟩
theorem Heap.alloc'_some (h : Heap) (x : Blk) : h.alloc' (some x) = h.alloc x := rfl
def layQ (rl : List Nat) : Heap → List Nat → List (Option Blk) → Heap
  | h, k :: ks, x :: xs => layQ rl (h.set k (x.map (unB rl))) ks xs
  | h, [], x :: xs => layQ rl (h.alloc' (x.map (unB rl))) [] xs
  | h, _, [] => h
theorem layQ_next (rl : List Nat) : ∀ (xs : List (Option Blk)) (h : Heap) (ks : List Nat), (layQ rl h ks xs).next = h.next + (xs.length - ks.length)
  | [], h, ks => by cases ks <;> simp [layQ]
  | x :: xs, h, [] => by
    simp only [layQ]
    rw [layQ_next rl xs]
    show h.next + 1 + _ = _
    simp only [List.length_nil, List.length_cons, Nat.sub_zero]
    omega
  | x :: xs, h, k :: ks => by
    simp only [layQ]
    rw [layQ_next rl xs]
    simp only [Heap.next_set, List.length_cons]
    omega
theorem layQ_keep (rl : List Nat) {b : Nat} : ∀ (xs : List (Option Blk)) (h : Heap) (ks : List Nat), b < h.next → b ∉ ks → (layQ rl h ks xs).get b = h.get b
  | [], h, ks, _, _ => by cases ks <;> simp [layQ]
  | x :: xs, h, [], hb, _ => by
    simp only [layQ]
    rw [layQ_keep rl xs (h.alloc' _) _ (by show b < h.next + 1; omega) List.not_mem_nil]
    show (if b = h.next then _ else h.get b) = _
    rw [if_neg (by omega)]
  | x :: xs, h, k :: ks, hb, hk => by
    simp only [List.mem_cons, not_or] at hk
    simp only [layQ]
    rw [layQ_keep rl xs (h.set k _) _ hb hk.2, Heap.get_set, if_neg hk.1]
theorem layQ_get (rl : List Nat) {y : Option Blk} : ∀ (xs : List (Option Blk)) (h : Heap) (ks : List Nat) (i : Nat), xs[i]? = some y → ks.Nodup → (∀ k ∈ ks, k < h.next) → (layQ rl h ks xs).get (idAt ks h.next i) = y.map (unB rl)
  | [], h, ks, i, hi, _, _ => by simp at hi
  | x :: xs, h, [], i, hi, _, _ => by
    simp only [layQ]
    cases i with
    | zero =>
      simp only [List.getElem?_cons_zero, Option.some.injEq] at hi
      subst hi
      rw [idAt_new (ks := []) (Nat.zero_le _), layQ_keep rl xs (h.alloc' _) _ (by show h.next + _ < h.next + 1; simp) List.not_mem_nil]
      show (if h.next + _ = h.next then _ else _) = _
      rw [if_pos (by simp)]
    | succ i =>
      have := layQ_get rl xs (h.alloc' (x.map (unB rl))) [] i (by simpa using hi) List.nodup_nil (fun k hk => absurd hk List.not_mem_nil)
      rw [idAt_new (ks := []) (Nat.zero_le _)] at this ⊢
      rw [← this]
      congr 1
      show _ = h.next + 1 + _
      simp only [List.length_nil]
      omega
  | x :: xs, h, k :: ks, i, hi, hnd, hlt => by
    simp only [layQ]
    rw [List.nodup_cons] at hnd
    cases i with
    | zero =>
      simp only [List.getElem?_cons_zero, Option.some.injEq] at hi
      subst hi
      rw [idAt_old (by simp), List.getD_cons_zero, layQ_keep rl xs (h.set k _) _ (hlt k (by simp)) hnd.1]
      simp
    | succ i =>
      have := layQ_get rl xs (h.set k (x.map (unB rl))) ks i (by simpa using hi) hnd.2 (fun k hk => hlt k (by simp [hk]))
      rw [← this]
      congr 1
      simp only [idAt, List.length_cons, Heap.next_set, List.getD_cons_succ]
      split <;> split <;> omega
theorem layQ_inv (rl : List Nat) {b : Nat} {x' : Blk} : ∀ (xs : List (Option Blk)) (h : Heap) (ks : List Nat), ks.length ≤ xs.length → (layQ rl h ks xs).get b = some x' → (∃ i y, (xs[i]?).join = some y ∧ b = idAt ks h.next i ∧ x' = unB rl y) ∨ (h.get b = some x' ∧ b ∉ ks)
  | [], h, ks, hl, hx => by
    obtain rfl : ks = [] := List.eq_nil_of_length_eq_zero (by simpa using hl)
    exact .inr ⟨by simpa [layQ] using hx, List.not_mem_nil⟩
  | x :: xs, h, [], _, hx => by
    simp only [layQ] at hx
    rcases layQ_inv rl xs _ _ (Nat.zero_le _) hx with ⟨i, y, h1, h2, h3⟩ | ⟨h1, h2⟩
    · refine .inl ⟨i + 1, y, by simpa using h1, ?_, h3⟩
      rw [h2, idAt_new (ks := []) (Nat.zero_le _), idAt_new (ks := []) (Nat.zero_le _)]
      show h.next + 1 + _ = _
      simp only [List.length_nil]
      omega
    · have h1 : (if b = h.next then x.map (unB rl) else h.get b) = some x' := h1
      split at h1
      · rename_i e
        obtain ⟨y, rfl, hy⟩ := Option.map_eq_some_iff.1 h1
        exact .inl ⟨0, y, rfl, by rw [e, idAt_new (ks := []) (Nat.zero_le _)]; simp, hy.symm⟩
      · exact .inr ⟨h1, h2⟩
  | x :: xs, h, k :: ks, hl, hx => by
    simp only [layQ] at hx
    rcases layQ_inv rl xs _ _ (by simpa using hl) hx with ⟨i, y, h1, h2, h3⟩ | ⟨h1, h2⟩
    · refine .inl ⟨i + 1, y, by simpa using h1, ?_, h3⟩
      rw [h2]
      simp only [idAt, List.length_cons, Heap.next_set, List.getD_cons_succ]
      split <;> split <;> omega
    · rw [Heap.get_set] at h1
      split at h1
      · rename_i e
        obtain ⟨y, rfl, hy⟩ := Option.map_eq_some_iff.1 h1
        exact .inl ⟨0, y, rfl, by rw [e, idAt_old (by simp)]; rfl, hy.symm⟩
      · rename_i e
        exact .inr ⟨h1, by simp only [List.mem_cons, not_or]; exact ⟨e, h2⟩⟩
structure LentP (E : Env) (f : FuncId) (args : List Value) (bs : List Blk) (v : Value) (bs' : List (Option Blk)) : Prop where
  call : SCall E f args (heapOf bs) v (heapO bs')
  own : bs.all (·.own) = true
  own' : ownO bs' = true
  len : bs.length ≤ bs'.length
  args : args.all (okV bs.length) = true
  cells : ∀ x, some x ∈ bs' → x.cells.all (okC bs'.length) = true
  res : okT bs'.length v = true
theorem SCall.lendP {E : Env} {f : FuncId} {args args0 : List Value} {h : Heap} {bs : List Blk} {bs' : List (Option Blk)} {v : Value} (rl : List Nat) (c : LentP E f args0 bs v bs') (hnd : rl.Nodup) (hb : BlksOk rl bs.length h rl bs) (ha : args = args0.map (unV rl)) :
    SCall E f args h (unT (idsOf rl h.next bs'.length) v) (layQ (idsOf rl h.next bs'.length) h rl bs') := by
  intro ok
  obtain ⟨hf, hc⟩ := c.call ok
  refine ⟨hf, fun μ base w args' R hbase har => ?_⟩
  obtain ⟨hlen, hat⟩ := hb.at
  have own : ∀ (b : Nat) (x : Blk), bs[b]? = some x → x.own = true := fun b x hx => List.all_eq_true.1 c.own x (List.mem_of_getElem? hx)
  have own' : ∀ (b : Nat) (x : Blk), (bs'[b]?).join = some x → x.own = true := fun b x hx => List.all_eq_true.1 c.own' (some x) (join_mem hx)
  have inb : ∀ (k : Nat) o, w.heap[k]? = some o → k < w.heap.size := fun k o hk => by
    rcases Nat.lt_or_ge k w.heap.size with h | h
    · exact h
    · rw [Array.getElem?_eq_none h] at hk; cases hk
  have hgetD : ∀ (b k : Nat), rl[b]? = some k → rl.getD b 0 = k := fun b k e => by rw [List.getD_eq_getElem?_getD, e]; rfl
  have hrl : ∀ k ∈ rl, ∃ (b : Nat) (x : Blk) (old : List Value), rl[b]? = some k ∧ bs[b]? = some x ∧ h.get k = some ⟨x.elem, x.own, old⟩ ∧ k < h.next := fun k hk => by
    obtain ⟨b, hb2, e⟩ := List.getElem_of_mem hk
    have hb3 : b < bs.length := by omega
    obtain ⟨k', old, g1, g2, _⟩ := hat b bs[b] (List.getElem?_eq_getElem hb3)
    rw [List.getElem?_eq_getElem hb2, e] at g1
    obtain rfl := Option.some.inj g1
    exact ⟨b, bs[b], old, by rw [List.getElem?_eq_getElem hb2, e], List.getElem?_eq_getElem hb3, g2, (R.blk k _ g2).1⟩
  let Y1 : Nat → Prop := fun k => μ.Y k ∨ (k < w.heap.size ∧ ∀ b ∈ rl, (μ b).1 ≠ k)
  let μ1 : Place := ⟨fun b => μ (rl.getD b 0), μ.Z, Y1, fun k hk => .inl (μ.zy k hk)⟩
  have S1 : ∀ {v v' : Value}, okV bs.length v = true → VRel E h μ w.heap (unV rl v) v' → VRel E (heapOf bs) μ1 w.heap v v' := fun hv r => by
    have := VRel.view hb hv r
    exact this.mono0 (h := heapOf bs) (μ := μOf μ rl) (h' := heapOf bs) (μ' := μ1) ⟨Nat.le_refl _, fun _ _ => rfl, fun _ x' _ hx => ⟨x', hx, rfl⟩, fun _ cs _ fr hk => ⟨cs, fr, hk, rfl⟩, fun _ h => h, fun _ _ => rfl⟩
  have C1 : ∀ {v v' : Value}, okC bs.length v = true → CRel E h μ w.heap (unC rl v) v' → CRel E (heapOf bs) μ1 w.heap v v' := fun hv r => by
    have := CRel.view hb hv r
    exact this.mono0 (h := heapOf bs) (μ := μOf μ rl) (h' := heapOf bs) (μ' := μ1) ⟨Nat.le_refl _, fun _ _ => rfl, fun _ x' _ hx => ⟨x', hx, rfl⟩, fun _ cs _ fr hk => ⟨cs, fr, hk, rfl⟩, fun _ h => h, fun _ _ => rfl⟩
  have R1 : Rel E (heapOf bs) μ1 w.heap base := by
    refine ⟨fun b x hx => ?_, fun b b' x x' h1 h2 hne ho => ?_, fun b x hx ho hY => ?_, fun k hk => hk.elim (R.ice k) fun h => h.1⟩
    · obtain ⟨k, old, g1, g3, g4, g5⟩ := hat b x hx
      obtain ⟨hlt, cs, fr, hH, hl, hcc, hown⟩ := R.blk k _ g3
      have hm : μ1.at' b = μ.at' k := by show μ.at' (rl.getD b 0) = _; rw [hgetD b k g1]
      have hbl : b < bs.length := (List.getElem?_eq_some_iff.1 hx).1
      simp only at hl hcc hown
      subst g4
      rw [List.length_map] at hl
      refine ⟨hbl, cs, fr, by rw [hm]; exact hH, by rw [hm]; exact hl, fun i v hi => ?_, fun ho => by rw [hm]; exact hown ho⟩
      obtain ⟨v', a1, a2⟩ := hcc i (unC rl v) (by rw [List.getElem?_map, hi]; rfl)
      exact ⟨v', by rw [hm]; exact a1, C1 (List.all_eq_true.1 g5 v (List.mem_of_getElem? hi)) a2⟩
    · obtain ⟨k, old, g1, g3, g4⟩ := hat b x h1
      obtain ⟨k', old', q1, q3, q4⟩ := hat b' x' h2
      show (μ (rl.getD b 0)).1 ≠ (μ (rl.getD b' 0)).1
      rw [hgetD b k g1, hgetD b' k' q1]
      refine R.inj k k' _ _ g3 q3 (fun e => hne ?_) ho
      subst e
      exact (List.getElem?_inj (List.getElem?_eq_some_iff.1 g1).1 hnd).1 (g1.trans q1.symm)
    · obtain ⟨k, old, g1, g3, g4⟩ := hat b x hx
      have hY : Y1 (μ (rl.getD b 0)).1 := hY
      rw [hgetD b k g1] at hY
      rcases hY with hY | hY
      · exact R.cold k _ g3 ho hY
      · exact hY.2 k (List.mem_of_getElem? g1) rfl
  have A1 : All2 (VRel E (heapOf bs) μ1 w.heap) args0 args'.toList := by
    subst ha
    have : ∀ {l m : List Value}, l.all (okV bs.length) = true → All2 (VRel E h μ w.heap) (l.map (unV rl)) m → All2 (VRel E (heapOf bs) μ1 w.heap) l m := by
      intro l
      induction l with
      | nil => intro m _ hr; cases hr; exact .nil
      | cons v r ih =>
        intro m hl hr
        simp only [List.all_cons, Bool.and_eq_true] at hl
        cases hr with
        | cons h1 h2 => exact .cons (S1 hl.1 h1) (ih hl.2 h2)
    exact this c.args har
  refine Calls.mono (hc μ1 base w args' R1 hbase A1) fun e w' he => ?_
  obtain ⟨v', μ2, rfl, R2, ex, bl, hv⟩ := he
  have len := c.len
  generalize hids : idsOf rl h.next bs'.length = ids
  have hid : ∀ i, i < bs'.length → ids.getD i 0 = idAt rl h.next i := fun i hi => by rw [← hids]; exact idsOf_at hi
  let h2 := layQ ids h rl bs'
  have hn2 : h2.next = h.next + (bs'.length - bs.length) := by
    have := layQ_next ids bs' h rl
    rw [hlen] at this
    exact this
  let μ3 : Place := ⟨fun b => if b < h.next then μ b else μ2 (bs.length + (b - h.next)), μ2.Z, fun k => μ.Y k ∨ μ2.Z k, fun k hk => .inr hk⟩
  have m3 : ∀ i, i < bs'.length → μ3 (idAt rl h.next i) = μ2 i := fun i hi => by
    rcases Nat.lt_or_ge i bs.length with hlt | hge
    · rw [idAt_old (by omega)]
      obtain ⟨b, x, old, q1, q2, q3, q4⟩ := hrl (rl.getD i 0) (by
        have : i < rl.length := by omega
        rw [List.getD_eq_getElem?_getD, List.getElem?_eq_getElem this]
        exact List.getElem_mem this)
      have : μ2 i = μ1 i := ex.mu i hlt
      rw [this]
      exact if_pos q4
    · rw [idAt_new (by omega)]
      have : ¬ (h.next + (i - rl.length) < h.next) := by omega
      show (if _ then _ else _) = _
      rw [if_neg this]
      congr 1
      omega
  have g3 : ∀ i o, bs'[i]? = some o → h2.get (idAt rl h.next i) = o.map (unB ids) := fun i o hx => layQ_get ids bs' h rl i hx hnd fun k hk => by obtain ⟨_, _, _, _, _, _, h⟩ := hrl k hk; exact h
  have inv : ∀ b x, h2.get b = some x → (∃ i y, (bs'[i]?).join = some y ∧ b = idAt rl h.next i ∧ x = unB ids y) ∨ (h.get b = some x ∧ b ∉ rl) := fun b x hx => layQ_inv ids bs' h rl (by omega) hx
  have idlt : ∀ i, i < bs'.length → idAt rl h.next i < h2.next := fun i hi => by
    rw [hn2]
    rcases Nat.lt_or_ge i bs.length with hlt | hge
    · rw [idAt_old (by omega)]
      obtain ⟨_, _, _, _, _, _, q4⟩ := hrl (rl.getD i 0) (by
        have : i < rl.length := by omega
        rw [List.getD_eq_getElem?_getD, List.getElem?_eq_getElem this]
        exact List.getElem_mem this)
      omega
    · rw [idAt_new (by omega)]
      omega
  have up : Up (heapO bs') μ2 h2 μ3 ids bs'.length := by
    refine ⟨fun b hb => by rw [hid b hb]; exact idlt b hb, fun b hb => by rw [hid b hb]; exact m3 b hb, fun b x hb hx => ?_, fun _ h => h⟩
    rw [hid b hb, g3 b _ (List.getElem?_eq_getElem hb)] at hx
    obtain ⟨y, hy, rfl⟩ := Option.map_eq_some_iff.1 hx
    exact ⟨y, by show (bs'[b]?).join = some y; rw [List.getElem?_eq_getElem hb, hy]; rfl, rfl⟩
  have old : ∀ b x, h.get b = some x → b ∉ rl → Y1 (μ b).1 := fun b x hx hb => by
    obtain ⟨_, cs, fr, hH, _⟩ := R.blk b x hx
    refine .inr ⟨inb _ _ hH, fun k hk e => ?_⟩
    obtain ⟨i, y, od, q1, q2, q3, q4⟩ := hrl k hk
    exact R.inj k b _ _ q3 hx (fun e => hb (e ▸ hk)) (own i y q2) e
  have ex3 : Ext h μ w.heap h2 μ3 w'.heap := by
    refine ⟨by rw [hn2]; omega, fun b hb => if_pos hb, fun b x' hb hx => ?_, fun b x hb hx ho => ?_, fun b x hb hb' hx => ?_, ex.mem, ex.ice, fun k hk => ex.icy k (.inl hk), fun k hk => (ex.iced k hk).imp id fun h hy => h (.inl hy), ex.grow, fun k hk => .inl hk, fun k hk => hk⟩
    · rcases inv b x' hx with ⟨i, y, q1, q2, q3⟩ | ⟨q1, q2⟩
      · have hi : i < bs.length := by
          rcases Nat.lt_or_ge i bs.length with h | hge
          · exact h
          · rw [idAt_new (by omega)] at q2
            omega
        obtain ⟨k, od, p1, p2, _⟩ := hat i bs[i] (List.getElem?_eq_getElem hi)
        rw [idAt_old (by omega), hgetD i k p1] at q2
        subst q2
        obtain ⟨x0, r1, r2, r3⟩ := ex.back i y hi q1
        have : bs[i] = x0 := by
          have : bs[i]? = some x0 := r1
          rw [List.getElem?_eq_getElem hi] at this
          exact Option.some.inj this
        subst this
        exact ⟨_, p2, by rw [q3]; exact r2, by rw [q3]; exact r3⟩
      · exact ⟨x', q1, rfl, rfl⟩
    · have : b ∉ rl := fun hm => by
        obtain ⟨i, y, od, q1, q2, q3, q4⟩ := hrl b hm
        rw [hx] at q3
        obtain rfl := Option.some.inj q3
        have := own i y q2
        rw [show y.own = false from ho] at this
        cases this
      show (layQ ids h rl bs').get b = _
      rw [layQ_keep ids bs' h rl hb this]
      exact hx
    · rcases inv b x hx with ⟨i, y, q1, q2, rfl⟩ | ⟨q1, q2⟩
      · exact own' i y q1
      · exact absurd (R.blk b x q1).1 (Nat.not_lt.2 hb)
  refine ⟨v', μ3, rfl, ⟨fun b x hx => ?_, fun b b' x x' h1 h2' hne ho => ?_, fun b x hx ho hY => ?_, fun k hk => hk.elim (fun h => Nat.lt_of_lt_of_le (R.ice k h) ex.grow) fun h => R2.ice k (μ2.zy k h)⟩, ex3, bl, VRel.up up c.res hv⟩
  · rcases inv b x hx with ⟨i, y, q1, rfl, rfl⟩ | ⟨q1, q2⟩
    · have hi : i < bs'.length := join_lt q1
      obtain ⟨hlt, cs, fr, hH, hl, hcc, hown⟩ := R2.blk i y q1
      have hm := m3 i hi
      refine ⟨idlt i hi, cs, fr, by rw [hm]; exact hH, by rw [hm]; simpa [unB] using hl, fun j v hj => ?_, fun ho => by rw [hm]; exact hown ho⟩
      simp only [unB, List.getElem?_map] at hj
      obtain ⟨v0, e1, rfl⟩ := Option.map_eq_some_iff.1 hj
      obtain ⟨v', a1, a2⟩ := hcc j v0 e1
      have hall := List.all_eq_true.1 (c.cells y (join_mem q1)) v0 (List.mem_of_getElem? e1)
      exact ⟨v', by rw [hm]; exact a1, CRel.up up hall a2⟩
    · obtain ⟨hlt, cs, fr, hH, hl, hcc, hown⟩ := R.blk b x q1
      have hm : μ3.at' b = μ.at' b := if_pos hlt
      refine ⟨Nat.lt_of_lt_of_le hlt ex3.next, cs, fr, by rw [hm, ex.icy _ (old b x q1 q2)]; exact hH, by rw [hm]; exact hl, fun j v hj => ?_, fun ho => by rw [hm]; exact hown ho⟩
      obtain ⟨v', a1, a2⟩ := hcc j v hj
      exact ⟨v', by rw [hm]; exact a1, a2.mono ex3⟩
  · have other : ∀ i y b x, (bs'[i]?).join = some y → h.get b = some x → b ∉ rl → (μ2 i).1 ≠ (μ b).1 := fun i y b x q1 q2 q3 e => by
      refine R2.cold i y q1 (own' i y q1) ?_
      rw [e]
      exact ex.iceY _ (old b x q2 q3)
    rcases inv b x h1 with ⟨i, y, q1, rfl, rfl⟩ | ⟨q1, q2⟩
    · rw [m3 i (join_lt q1)]
      rcases inv b' x' h2' with ⟨i', y', p1, rfl, rfl⟩ | ⟨p1, p2⟩
      · rw [m3 i' (join_lt p1)]
        exact R2.inj i i' y y' q1 p1 (fun e => hne (by rw [e])) ho
      · rw [show μ3 b' = μ b' from if_pos (R.blk b' x' p1).1]
        exact other i y b' x' q1 p1 p2
    · rw [show μ3 b = μ b from if_pos (R.blk b x q1).1]
      rcases inv b' x' h2' with ⟨i', y', p1, rfl, rfl⟩ | ⟨p1, p2⟩
      · rw [m3 i' (join_lt p1)]
        exact (other i' y' b x p1 q1 q2).symm
      · rw [show μ3 b' = μ b' from if_pos (R.blk b' x' p1).1]
        exact R.inj b b' x x' q1 p1 hne ho
  · rcases inv b x hx with ⟨i, y, q1, rfl, rfl⟩ | ⟨q1, q2⟩
    · rw [m3 i (join_lt q1)] at hY
      refine R2.cold i y q1 ho ?_
      rcases hY with hY | hY
      · exact ex.iceY _ (.inl hY)
      · exact μ2.zy _ hY
    · rw [show μ3 b = μ b from if_pos (R.blk b x q1).1] at hY
      have c0 := R.cold b x q1 ho
      rcases hY with hY | hY
      · exact c0 hY
      · rcases ex.iced _ hY with hZ | hZ
        · exact c0 (μ.zy _ hZ)
        · exact hZ (old b x q1 q2)
def layR : Heap → List Nat → List (Option Blk) → Heap
  | h, k :: ks, x :: xs => layR (h.set k x) ks xs
  | h, [], x :: xs => layR (h.alloc' x) [] xs
  | h, _, [] => h
theorem layQ_eq (rl : List Nat) : ∀ {xs ys : List (Option Blk)} (h : Heap) (ks : List Nat), All2 (fun x y => x.map (unB rl) = y) xs ys → layQ rl h ks xs = layR h ks ys
  | _, _, h, ks, .nil => by cases ks <;> rfl
  | _, _, h, [], .cons h1 h2 => by
    simp only [layQ, layR, h1]
    exact layQ_eq rl _ _ h2
  | _, _, h, k :: ks, .cons h1 h2 => by
    simp only [layQ, layR, h1]
    exact layQ_eq rl _ _ h2
theorem WpCall.lentP {E : Env} {f : FuncId} {args args0 : List Value} {h : Heap} {bs : List Blk} {bs' : List (Option Blk)} {v : Value} {K : Value → Heap → Prop} (rl : List Nat) (c : LentP E f args0 bs v bs') (hnd : rl.Nodup) (hb : BlksOk rl bs.length h rl bs) (ha : args = args0.map (unV rl))
    (v2 : Value) (bs2 : List (Option Blk)) (h2b : All2 (fun x y => x.map (unB (idsOf rl h.next bs'.length)) = y) bs' bs2) (hv : unT (idsOf rl h.next bs'.length) v = v2) (h2 : Heap) (hh : layR h rl bs2 = h2) (k : K v2 h2) : WpCall E f args h K := by
  refine ⟨v2, h2, ?_, k⟩
  have := SCall.lendP rl c hnd hb ha
  rw [hv, layQ_eq _ _ _ h2b, hh] at this
  exact this
end Go.Fw
