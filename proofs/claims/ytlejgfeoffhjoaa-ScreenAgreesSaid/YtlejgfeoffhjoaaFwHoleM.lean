/- Blocks lent to a call, of which some are not there. -/
import Derived.Test.YtlejgfeoffhjoaaFwHoleL
namespace Go.Fw
open Go.RowKit
def BlksOp (rl : List Nat) (m : Nat) (h : Heap) : List Nat → List (Option Blk) → Prop
  | [], [] => True
  | k :: ks, some x :: xs => (∃ old, h.get k = some ⟨x.elem, x.own, old⟩ ∧ CellsOk rl m old x.cells) ∧ BlksOp rl m h ks xs
  | k :: ks, none :: xs => (h.get k = none ∧ k < h.next) ∧ BlksOp rl m h ks xs
  | _, _ => False
theorem BlksOp.at {rl : List Nat} {m : Nat} {h : Heap} : ∀ {ks : List Nat} {xs : List (Option Blk)}, BlksOp rl m h ks xs → ks.length = xs.length ∧ (∀ (b : Nat) (x : Blk), (xs[b]?).join = some x → ∃ k old, ks[b]? = some k ∧ h.get k = some ⟨x.elem, x.own, old⟩ ∧ CellsOk rl m old x.cells) ∧ ∀ (b : Nat), xs[b]? = some none → ∃ k, ks[b]? = some k ∧ h.get k = none ∧ k < h.next
  | [], [], _ => ⟨rfl, fun b x hx => by simp at hx, fun b hx => by simp at hx⟩
  | k :: ks, some x :: xs, hb => by
    obtain ⟨h1, h2⟩ := hb
    obtain ⟨h3, h4, h5⟩ := BlksOp.at h2
    refine ⟨by simp [h3], fun b y hy => ?_, fun b hy => ?_⟩
    · cases b with
      | zero =>
        have hy : some x = some y := hy
        obtain rfl := Option.some.inj hy
        obtain ⟨old, g1, g2⟩ := h1
        exact ⟨k, old, rfl, g1, g2⟩
      | succ b => exact h4 b y hy
    · cases b with
      | zero => have hy : some (some x) = some none := hy; cases hy
      | succ b => exact h5 b (by simpa using hy)
  | k :: ks, none :: xs, hb => by
    obtain ⟨h1, h2⟩ := hb
    obtain ⟨h3, h4, h5⟩ := BlksOp.at h2
    refine ⟨by simp [h3], fun b y hy => ?_, fun b hy => ?_⟩
    · cases b with
      | zero => have hy : none = some y := hy; cases hy
      | succ b => exact h4 b y hy
    · cases b with
      | zero => exact ⟨k, rfl, h1⟩
      | succ b => exact h5 b (by simpa using hy)
  | [], _ :: _, hb => hb.elim
  | _ :: _, [], hb => by cases hb
section
variable {E : Env} {n base : Nat} {h : Heap} {μ : Place} {H : Mem} {rl : List Nat} {bs : List (Option Blk)}
theorem SRel.viewO (hb : BlksOp rl bs.length h rl bs) {v v' : Value} (hv : okC bs.length v = true) (r : SRel E h μ H (unC rl v) v') : SRel E (heapO bs) (μOf μ rl) H v v' := by
  obtain ⟨hlen, hat, hno⟩ := hb.at
  have tr : ∀ {b off c' : Nat} {a' : Addr}, b < bs.length → SliceAt E h μ H (rl.getD b 0) off a' c' → SliceAt E (heapO bs) (μOf μ rl) H b off a' c' := fun {b off c' a'} hlt ⟨h1, h2, h3⟩ => by
    refine ⟨h1, h2, fun x hx => ?_⟩
    obtain ⟨k, old, g1, g2, _⟩ := hat b x hx
    have : rl.getD b 0 = k := by rw [List.getD_eq_getElem?_getD, g1]; rfl
    rw [this] at h3
    exact h3 ⟨x.elem, x.own, old⟩ g2
  cases v with
  | pointer a => cases a with
    | none => cases r; exact .nilptr
    | some a =>
      obtain ⟨b, o, sp⟩ := a
      cases sp with
      | none =>
        simp only [okC, decide_eq_true_eq] at hv
        cases r with
        | ptr b' off' hb' => exact .ptr b o hv
      | some _ => cases hv
  | slice a n c => cases a with
    | none => cases r; exact .nilslice
    | some a =>
      obtain ⟨b, o, sp⟩ := a
      cases sp with
      | none =>
        simp only [okC, decide_eq_true_eq] at hv
        cases r with
        | slice b' off' n' c' a' cc hb' hn hc hs ha => exact .slice b o n c a' cc hv hn hc hs (ha.imp id (tr hv))
      | some _ => cases hv
  | bool b => cases r; exact .bool b
  | int k i => cases r; exact .int k i
  | string s => cases r; exact .string s
  | map m => cases r; exact .nilmap
  | nilFunc => cases r; exact .nilfunc
  | nilIface => cases r; exact .niliface
  | iface e x => cases r with
    | ice r => exact .ice r
  | func => cases r
  | _ => cases hv
theorem CRel.viewO (hb : BlksOp rl bs.length h rl bs) {v v' : Value} (hv : okC bs.length v = true) (r : CRel E h μ H (unC rl v) v') : CRel E (heapO bs) (μOf μ rl) H v v' := by
  by_cases hf : ∃ fn a c, v = .func fn a c
  · obtain ⟨fn, a, c, rfl⟩ := hf
    exact func0 hv r
  refine .s (SRel.viewO hb hv ?_)
  revert r
  generalize hw : unC rl v = w
  intro r
  cases r with
  | s r => exact r
  | func fn a c =>
    exfalso
    cases v with
    | pointer a => cases a <;> cases hw
    | slice a n c => cases a <;> cases hw
    | func => exact hf ⟨_, _, _, rfl⟩
    | _ => cases hw
theorem VRel.viewO (hb : BlksOp rl bs.length h rl bs) {v v' : Value} (hv : okV bs.length v = true) (r : VRel E h μ H (unV rl v) v') : VRel E (heapO bs) (μOf μ rl) H v v' := by
  have key : ∀ v, okC bs.length v = true → VRel E h μ H (unC rl v) v' → VRel E (heapO bs) (μOf μ rl) H v v' := fun v hv r => by
    refine .w (.c (CRel.viewO hb hv ?_))
    revert r
    generalize hw : unC rl v = w
    intro r
    cases r with
    | w r => cases r with
      | c r => exact r
      | agg =>
        exfalso
        cases v with
        | pointer a => cases a <;> cases hw
        | slice a n c => cases a <;> cases hw
        | agg => cases hv
        | _ => cases hw
    | tuple =>
      exfalso
      cases v with
      | pointer a => cases a <;> cases hw
      | slice a n c => cases a <;> cases hw
      | tuple => cases hv
      | _ => cases hw
    | any =>
      exfalso
      cases v with
      | pointer a => cases a <;> cases hw
      | slice a n c => cases a <;> cases hw
      | chan => cases hv
      | _ => cases hw
  cases v with
  | agg cs =>
    obtain ⟨a', rfl, h1⟩ := r.inv_agg
    refine .w (.agg ?_)
    have hall : cs.toList.all (okC bs.length) = true := hv
    have : ∀ (l m : List Value), l.all (okC bs.length) = true → All2 (CRel E h μ H) (l.map (unC rl)) m → All2 (CRel E (heapO bs) (μOf μ rl) H) l m := by
      intro l
      induction l with
      | nil => intro m _ hr; cases hr; exact .nil
      | cons v r ih =>
        intro m hl hr
        simp only [List.all_cons, Bool.and_eq_true] at hl
        cases hr with
        | cons h1 h2 => exact .cons (CRel.viewO hb hl.1 h1) (ih _ hl.2 h2)
    exact this _ _ hall (by simpa using h1)
  | tuple vs =>
    have h0 : vs.toList = [] := by simpa [okV] using hv
    obtain ⟨a', rfl, h1⟩ := VRel.inv_tuple (a := vs) r
    rw [h0] at h1
    refine .tuple ?_
    rw [h0]
    generalize a'.toList = m at h1 ⊢
    cases h1
    exact .nil
  | bool b => exact key _ hv r
  | int k i => exact key _ hv r
  | string s => exact key _ hv r
  | float => cases hv
  | complex => cases hv
  | chan => cases hv
  | func fn a c =>
    have hall : a.toList.all (okC bs.length) = true ∧ c.toList.all (okC bs.length) = true := by
      have h0 : (a.toList.all (okC bs.length) && c.toList.all (okC bs.length)) = true := hv
      rwa [Bool.and_eq_true] at h0
    obtain ⟨a', c', rfl, h1, h2⟩ := r.inv_func
    have : ∀ (l m : List Value), l.all (okC bs.length) = true → All2 (SRel E h μ H) (l.map (unC rl)) m → All2 (SRel E (heapO bs) (μOf μ rl) H) l m := by
      intro l
      induction l with
      | nil => intro m _ hr; cases hr; exact .nil
      | cons v r ih =>
        intro m hl hr
        simp only [List.all_cons, Bool.and_eq_true] at hl
        cases hr with
        | cons h1 h2 => exact .cons (SRel.viewO hb hl.1 h1) (ih _ hl.2 h2)
    exact .w (.c (.func fn (this _ _ hall.1 (by simpa using h1)) (this _ _ hall.2 (by simpa using h2))))
  | pointer a => exact key _ hv r
  | slice a n c => exact key _ hv r
  | map m => exact key _ hv r
  | nilFunc => exact key _ hv r
  | nilIface => exact key _ hv r
  | iface e x => exact key _ hv r
end
structure LentH (E : Env) (f : FuncId) (args : List Value) (bs : List (Option Blk)) (v : Value) (bs' : List (Option Blk)) : Prop where
  call : SCall E f args (heapO bs) v (heapO bs')
  own : ownO bs = true
  own' : ownO bs' = true
  len : bs.length ≤ bs'.length
  args : args.all (okV bs.length) = true
  cells : ∀ x, some x ∈ bs' → x.cells.all (okC bs'.length) = true
  res : okT bs'.length v = true
theorem SCall.lendH {E : Env} {f : FuncId} {args args0 : List Value} {h : Heap} {bs bs' : List (Option Blk)} {v : Value} (rl : List Nat) (c : LentH E f args0 bs v bs') (hnd : rl.Nodup) (hb : BlksOp rl bs.length h rl bs) (ha : args = args0.map (unV rl)) :
    SCall E f args h (unT (idsOf rl h.next bs'.length) v) (layQ (idsOf rl h.next bs'.length) h rl bs') := by
  intro ok
  obtain ⟨hf, hc⟩ := c.call ok
  refine ⟨hf, fun μ base w args' R hbase har => ?_⟩
  obtain ⟨hlen, hat, hno⟩ := hb.at
  have own : ∀ (b : Nat) (x : Blk), (bs[b]?).join = some x → x.own = true := fun b x hx => List.all_eq_true.1 c.own (some x) (join_mem hx)
  have own' : ∀ (b : Nat) (x : Blk), (bs'[b]?).join = some x → x.own = true := fun b x hx => List.all_eq_true.1 c.own' (some x) (join_mem hx)
  have inb : ∀ (k : Nat) o, w.heap[k]? = some o → k < w.heap.size := fun k o hk => by
    rcases Nat.lt_or_ge k w.heap.size with h | h
    · exact h
    · rw [Array.getElem?_eq_none h] at hk; cases hk
  have hgetD : ∀ (b k : Nat), rl[b]? = some k → rl.getD b 0 = k := fun b k e => by rw [List.getD_eq_getElem?_getD, e]; rfl
  have hrl : ∀ k ∈ rl, k < h.next ∧ ((∃ (b : Nat) (x : Blk) (old : List Value), rl[b]? = some k ∧ (bs[b]?).join = some x ∧ h.get k = some ⟨x.elem, x.own, old⟩) ∨ h.get k = none) := fun k hk => by
    obtain ⟨b, hb2, e⟩ := List.getElem_of_mem hk
    have hb3 : b < bs.length := by omega
    cases hx : bs[b] with
    | some x =>
      have hj : (bs[b]?).join = some x := by rw [List.getElem?_eq_getElem hb3, hx]; rfl
      obtain ⟨k', old, g1, g2, _⟩ := hat b x hj
      rw [List.getElem?_eq_getElem hb2, e] at g1
      obtain rfl := Option.some.inj g1
      exact ⟨(R.blk k _ g2).1, .inl ⟨b, x, old, by rw [List.getElem?_eq_getElem hb2, e], hj, g2⟩⟩
    | none =>
      obtain ⟨k', g1, g2, g3⟩ := hno b (by rw [List.getElem?_eq_getElem hb3, hx])
      rw [List.getElem?_eq_getElem hb2, e] at g1
      obtain rfl := Option.some.inj g1
      exact ⟨g3, .inr g2⟩
  let Y1 : Nat → Prop := fun k => μ.Y k ∨ (k < w.heap.size ∧ ∀ b ∈ rl, h.get b ≠ none → (μ b).1 ≠ k)
  let μ1 : Place := ⟨fun b => μ (rl.getD b 0), μ.Z, Y1, fun k hk => .inl (μ.zy k hk)⟩
  have S1 : ∀ {v v' : Value}, okV bs.length v = true → VRel E h μ w.heap (unV rl v) v' → VRel E (heapO bs) μ1 w.heap v v' := fun hv r => by
    have := VRel.viewO hb hv r
    exact this.mono0 (h := heapO bs) (μ := μOf μ rl) (h' := heapO bs) (μ' := μ1) ⟨Nat.le_refl _, fun _ _ => rfl, fun _ x' _ hx => ⟨x', hx, rfl⟩, fun _ cs _ fr hk => ⟨cs, fr, hk, rfl⟩, fun _ h => h, fun _ _ => rfl⟩
  have C1 : ∀ {v v' : Value}, okC bs.length v = true → CRel E h μ w.heap (unC rl v) v' → CRel E (heapO bs) μ1 w.heap v v' := fun hv r => by
    have := CRel.viewO hb hv r
    exact this.mono0 (h := heapO bs) (μ := μOf μ rl) (h' := heapO bs) (μ' := μ1) ⟨Nat.le_refl _, fun _ _ => rfl, fun _ x' _ hx => ⟨x', hx, rfl⟩, fun _ cs _ fr hk => ⟨cs, fr, hk, rfl⟩, fun _ h => h, fun _ _ => rfl⟩
  have R1 : Rel E (heapO bs) μ1 w.heap base := by
    refine ⟨fun b x hx => ?_, fun b b' x x' h1 h2 hne ho => ?_, fun b x hx ho hY => ?_, fun k hk => hk.elim (R.ice k) fun h => h.1⟩
    · obtain ⟨k, old, g1, g3, g4, g5⟩ := hat b x hx
      obtain ⟨hlt, cs, fr, hH, hl, hcc, hown⟩ := R.blk k _ g3
      have hm : μ1.at' b = μ.at' k := by show μ.at' (rl.getD b 0) = _; rw [hgetD b k g1]
      have hbl : b < bs.length := join_lt hx
      simp only at hl hcc hown
      subst g4
      rw [List.length_map] at hl
      refine ⟨hbl, cs, fr, by rw [hm]; exact hH, by rw [hm]; exact hl, fun i v hi => ?_, fun ho => by rw [hm]; exact hown ho⟩
      obtain ⟨v', a1, a2⟩ := hcc i (unC rl v) (by rw [List.getElem?_map, hi]; rfl)
      exact ⟨v', by rw [hm]; exact a1, C1 (List.all_eq_true.1 g5 v (List.mem_of_getElem? hi)) a2⟩
    · obtain ⟨k, old, g1, g3, g4⟩ := hat b x h1
      obtain ⟨k', old', q1, q3, q4⟩ := hat b' x' h2
      show (μ (rl.getD b 0)).1 ≠ (μ (rl.getD b' 0)).1
      rw [hgetD b k g1, hgetD b' k' q1]
      refine R.inj k k' _ _ g3 q3 (fun e => hne ?_) ho
      subst e
      exact (List.getElem?_inj (List.getElem?_eq_some_iff.1 g1).1 hnd).1 (g1.trans q1.symm)
    · obtain ⟨k, old, g1, g3, g4⟩ := hat b x hx
      have hY : Y1 (μ (rl.getD b 0)).1 := hY
      rw [hgetD b k g1] at hY
      rcases hY with hY | hY
      · exact R.cold k _ g3 ho hY
      · exact hY.2 k (List.mem_of_getElem? g1) (by rw [g3]; exact fun h => by cases h) rfl
  have A1 : All2 (VRel E (heapO bs) μ1 w.heap) args0 args'.toList := by
    subst ha
    have : ∀ {l m : List Value}, l.all (okV bs.length) = true → All2 (VRel E h μ w.heap) (l.map (unV rl)) m → All2 (VRel E (heapO bs) μ1 w.heap) l m := by
      intro l
      induction l with
      | nil => intro m _ hr; cases hr; exact .nil
      | cons v r ih =>
        intro m hl hr
        simp only [List.all_cons, Bool.and_eq_true] at hl
        cases hr with
        | cons h1 h2 => exact .cons (S1 hl.1 h1) (ih hl.2 h2)
    exact this c.args har
  refine Calls.mono (hc μ1 base w args' R1 hbase A1) fun e w' he => ?_
  obtain ⟨v', μ2, rfl, R2, ex, bl, hv⟩ := he
  have len := c.len
  generalize hids : idsOf rl h.next bs'.length = ids
  have hid : ∀ i, i < bs'.length → ids.getD i 0 = idAt rl h.next i := fun i hi => by rw [← hids]; exact idsOf_at hi
  let h2 := layQ ids h rl bs'
  have hn2 : h2.next = h.next + (bs'.length - bs.length) := by
    have := layQ_next ids bs' h rl
    rw [hlen] at this
    exact this
  let μ3 : Place := ⟨fun b => if b < h.next then μ b else μ2 (bs.length + (b - h.next)), μ2.Z, fun k => μ.Y k ∨ μ2.Z k, fun k hk => .inr hk⟩
  have m3 : ∀ i, i < bs'.length → μ3 (idAt rl h.next i) = μ2 i := fun i hi => by
    rcases Nat.lt_or_ge i bs.length with hlt | hge
    · rw [idAt_old (by omega)]
      obtain ⟨q4, _⟩ := hrl (rl.getD i 0) (by
        have : i < rl.length := by omega
        rw [List.getD_eq_getElem?_getD, List.getElem?_eq_getElem this]
        exact List.getElem_mem this)
      have : μ2 i = μ1 i := ex.mu i hlt
      rw [this]
      exact if_pos q4
    · rw [idAt_new (by omega)]
      have : ¬ (h.next + (i - rl.length) < h.next) := by omega
      show (if _ then _ else _) = _
      rw [if_neg this]
      congr 1
      omega
  have g3 : ∀ i o, bs'[i]? = some o → h2.get (idAt rl h.next i) = o.map (unB ids) := fun i o hx => layQ_get ids bs' h rl i hx hnd fun k hk => (hrl k hk).1
  have inv : ∀ b x, h2.get b = some x → (∃ i y, (bs'[i]?).join = some y ∧ b = idAt rl h.next i ∧ x = unB ids y) ∨ (h.get b = some x ∧ b ∉ rl) := fun b x hx => layQ_inv ids bs' h rl (by omega) hx
  have idlt : ∀ i, i < bs'.length → idAt rl h.next i < h2.next := fun i hi => by
    rw [hn2]
    rcases Nat.lt_or_ge i bs.length with hlt | hge
    · rw [idAt_old (by omega)]
      obtain ⟨q4, _⟩ := hrl (rl.getD i 0) (by
        have : i < rl.length := by omega
        rw [List.getD_eq_getElem?_getD, List.getElem?_eq_getElem this]
        exact List.getElem_mem this)
      omega
    · rw [idAt_new (by omega)]
      omega
  have up : Up (heapO bs') μ2 h2 μ3 ids bs'.length := by
    refine ⟨fun b hb => by rw [hid b hb]; exact idlt b hb, fun b hb => by rw [hid b hb]; exact m3 b hb, fun b x hb hx => ?_, fun _ h => h⟩
    rw [hid b hb, g3 b _ (List.getElem?_eq_getElem hb)] at hx
    obtain ⟨y, hy, rfl⟩ := Option.map_eq_some_iff.1 hx
    exact ⟨y, by show (bs'[b]?).join = some y; rw [List.getElem?_eq_getElem hb, hy]; rfl, rfl⟩
  have old : ∀ b x, h.get b = some x → b ∉ rl → Y1 (μ b).1 := fun b x hx hb => by
    obtain ⟨_, cs, fr, hH, _⟩ := R.blk b x hx
    refine .inr ⟨inb _ _ hH, fun k hk hne e => ?_⟩
    obtain ⟨q4, ⟨i, y, od, q1, q2, q3⟩ | q3⟩ := hrl k hk
    · exact R.inj k b _ _ q3 hx (fun e => hb (e ▸ hk)) (own i y q2) e
    · exact hne q3
  have ex3 : Ext h μ w.heap h2 μ3 w'.heap := by
    refine ⟨by rw [hn2]; omega, fun b hb => if_pos hb, fun b x' hb hx => ?_, fun b x hb hx ho => ?_, fun b x hb hb' hx => ?_, ex.mem, ex.ice, fun k hk => ex.icy k (.inl hk), fun k hk => (ex.iced k hk).imp id fun h hy => h (.inl hy), ex.grow, fun k hk => .inl hk, fun k hk => hk⟩
    · rcases inv b x' hx with ⟨i, y, q1, q2, q3⟩ | ⟨q1, q2⟩
      · have hi : i < bs.length := by
          rcases Nat.lt_or_ge i bs.length with h | hge
          · exact h
          · rw [idAt_new (by omega)] at q2
            omega
        obtain ⟨x0, r1, r2, r3⟩ := ex.back i y hi q1
        obtain ⟨k, od, p1, p2, _⟩ := hat i x0 r1
        rw [idAt_old (by omega), hgetD i k p1] at q2
        subst q2
        exact ⟨_, p2, by rw [q3]; exact r2, by rw [q3]; exact r3⟩
      · exact ⟨x', q1, rfl, rfl⟩
    · have : b ∉ rl := fun hm => by
        obtain ⟨q4, ⟨i, y, od, q1, q2, q3⟩ | q3⟩ := hrl b hm
        · rw [hx] at q3
          obtain rfl := Option.some.inj q3
          have := own i y q2
          rw [show y.own = false from ho] at this
          cases this
        · rw [hx] at q3
          cases q3
      show (layQ ids h rl bs').get b = _
      rw [layQ_keep ids bs' h rl hb this]
      exact hx
    · rcases inv b x hx with ⟨i, y, q1, q2, rfl⟩ | ⟨q1, q2⟩
      · exact own' i y q1
      · exact absurd (R.blk b x q1).1 (Nat.not_lt.2 hb)
  refine ⟨v', μ3, rfl, ⟨fun b x hx => ?_, fun b b' x x' h1 h2' hne ho => ?_, fun b x hx ho hY => ?_, fun k hk => hk.elim (fun h => Nat.lt_of_lt_of_le (R.ice k h) ex.grow) fun h => R2.ice k (μ2.zy k h)⟩, ex3, bl, VRel.up up c.res hv⟩
  · rcases inv b x hx with ⟨i, y, q1, rfl, rfl⟩ | ⟨q1, q2⟩
    · have hi : i < bs'.length := join_lt q1
      obtain ⟨hlt, cs, fr, hH, hl, hcc, hown⟩ := R2.blk i y q1
      have hm := m3 i hi
      refine ⟨idlt i hi, cs, fr, by rw [hm]; exact hH, by rw [hm]; simpa [unB] using hl, fun j v hj => ?_, fun ho => by rw [hm]; exact hown ho⟩
      simp only [unB, List.getElem?_map] at hj
      obtain ⟨v0, e1, rfl⟩ := Option.map_eq_some_iff.1 hj
      obtain ⟨v', a1, a2⟩ := hcc j v0 e1
      have hall := List.all_eq_true.1 (c.cells y (join_mem q1)) v0 (List.mem_of_getElem? e1)
      exact ⟨v', by rw [hm]; exact a1, CRel.up up hall a2⟩
    · obtain ⟨hlt, cs, fr, hH, hl, hcc, hown⟩ := R.blk b x q1
      have hm : μ3.at' b = μ.at' b := if_pos hlt
      refine ⟨Nat.lt_of_lt_of_le hlt ex3.next, cs, fr, by rw [hm, ex.icy _ (old b x q1 q2)]; exact hH, by rw [hm]; exact hl, fun j v hj => ?_, fun ho => by rw [hm]; exact hown ho⟩
      obtain ⟨v', a1, a2⟩ := hcc j v hj
      exact ⟨v', by rw [hm]; exact a1, a2.mono ex3⟩
  · have other : ∀ i y b x, (bs'[i]?).join = some y → h.get b = some x → b ∉ rl → (μ2 i).1 ≠ (μ b).1 := fun i y b x q1 q2 q3 e => by
      refine R2.cold i y q1 (own' i y q1) ?_
      rw [e]
      exact ex.iceY _ (old b x q2 q3)
    rcases inv b x h1 with ⟨i, y, q1, rfl, rfl⟩ | ⟨q1, q2⟩
    · rw [m3 i (join_lt q1)]
      rcases inv b' x' h2' with ⟨i', y', p1, rfl, rfl⟩ | ⟨p1, p2⟩
      · rw [m3 i' (join_lt p1)]
        exact R2.inj i i' y y' q1 p1 (fun e => hne (by rw [e])) ho
      · rw [show μ3 b' = μ b' from if_pos (R.blk b' x' p1).1]
        exact other i y b' x' q1 p1 p2
    · rw [show μ3 b = μ b from if_pos (R.blk b x q1).1]
      rcases inv b' x' h2' with ⟨i', y', p1, rfl, rfl⟩ | ⟨p1, p2⟩
      · rw [m3 i' (join_lt p1)]
        exact (other i' y' b x p1 q1 q2).symm
      · rw [show μ3 b' = μ b' from if_pos (R.blk b' x' p1).1]
        exact R.inj b b' x x' q1 p1 hne ho
  · rcases inv b x hx with ⟨i, y, q1, rfl, rfl⟩ | ⟨q1, q2⟩
    · rw [m3 i (join_lt q1)] at hY
      refine R2.cold i y q1 ho ?_
      rcases hY with hY | hY
      · exact ex.iceY _ (.inl hY)
      · exact μ2.zy _ hY
    · rw [show μ3 b = μ b from if_pos (R.blk b x q1).1] at hY
      have c0 := R.cold b x q1 ho
      rcases hY with hY | hY
      · exact c0 hY
      · rcases ex.iced _ hY with hZ | hZ
        · exact c0 (μ.zy _ hZ)
        · exact hZ (old b x q1 q2)
theorem WpCall.lentH {E : Env} {f : FuncId} {args args0 : List Value} {h : Heap} {bs bs' : List (Option Blk)} {v : Value} {K : Value → Heap → Prop} (rl : List Nat) (c : LentH E f args0 bs v bs') (hnd : rl.Nodup) (hb : BlksOp rl bs.length h rl bs) (ha : args = args0.map (unV rl))
    (v2 : Value) (bs2 : List (Option Blk)) (h2b : All2 (fun x y => x.map (unB (idsOf rl h.next bs'.length)) = y) bs' bs2) (hv : unT (idsOf rl h.next bs'.length) v = v2) (h2 : Heap) (hh : layR h rl bs2 = h2) (k : K v2 h2) : WpCall E f args h K := by
  refine ⟨v2, h2, ?_, k⟩
  have := SCall.lendH rl c hnd hb ha
  rw [hv, layQ_eq _ _ _ h2b, hh] at this
  exact this
end Go.Fw
