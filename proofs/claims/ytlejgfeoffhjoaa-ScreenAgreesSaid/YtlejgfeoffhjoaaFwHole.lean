/- A memory with holes: rows that were appended to are gone, what is behind them stays. -/
import Derived.Test.YtlejgfeoffhjoaaFwEnter
namespace Go.Fw
open Go.RowKit
structure FineT (E : Env) (h : Heap) (rl : List Nat) (tg : Heap) : Prop where
  nd : rl.Nodup
  len : rl.length = tg.next
  at' : ∀ (b : Nat) (x : Blk), tg.get b = some x → ∃ (k : Nat) (old : List Value), rl[b]? = some k ∧ h.get k = some ⟨x.elem, x.own, old⟩ ∧ All2 (ToldC E (h.less rl) rl tg.next) old x.cells
section
variable {E : Env} {h : Heap} {μ : Place} {H : Mem} {base : Nat} {rl : List Nat} {tg : Heap}
theorem SRel.toldT (f : FineT E h rl tg) {v v' : Value} (hv : okC tg.next v = true) (r : SRel E h μ H (unC rl v) v') : SRel E tg (μIce h μ rl) H v v' := by
  have tr : ∀ {b off c' : Nat} {a' : Addr}, SliceAt E h μ H (rl.getD b 0) off a' c' → SliceAt E tg (μIce h μ rl) H b off a' c' := fun {b _ _ _} ⟨h1, h2, h3⟩ => by
    refine ⟨h1, h2, fun x hx => ?_⟩
    obtain ⟨k, old, g1, g2, _⟩ := f.at' b x hx
    have : rl.getD b 0 = k := by rw [List.getD_eq_getElem?_getD, g1]; rfl
    rw [this] at h3
    exact h3 ⟨x.elem, x.own, old⟩ g2
  cases v with
  | pointer a => cases a with
    | none => cases r; exact .nilptr
    | some a =>
      obtain ⟨b, o, sp⟩ := a
      cases sp with
      | none =>
        simp only [okC, decide_eq_true_eq] at hv
        cases r with
        | ptr b' off' hb' => exact .ptr b o hv
      | some _ => cases hv
  | slice a n c => cases a with
    | none => cases r; exact .nilslice
    | some a =>
      obtain ⟨b, o, sp⟩ := a
      cases sp with
      | none =>
        simp only [okC, decide_eq_true_eq] at hv
        cases r with
        | slice b' off' n' c' a' cc hb' hn hc hs ha => exact .slice b o n c a' cc hv hn hc hs (ha.imp id tr)
      | some _ => cases hv
  | bool b => cases r; exact .bool b
  | int k i => cases r; exact .int k i
  | string s => cases r; exact .string s
  | map m => cases r; exact .nilmap
  | nilFunc => cases r; exact .nilfunc
  | nilIface => cases r; exact .niliface
  | iface e x => cases r with
    | ice r => exact .ice (r.mono (fun k hk => .inl hk) fun _ _ => rfl)
  | func => cases r
  | _ => cases hv
theorem CRel.toldT (f : FineT E h rl tg) {v v' : Value} (hv : okC tg.next v = true) (r : CRel E h μ H (unC rl v) v') : CRel E tg (μIce h μ rl) H v v' := by
  by_cases hf : ∃ fn a c, v = .func fn a c
  · obtain ⟨fn, a, c, rfl⟩ := hf
    exact func0 hv r
  refine .s (SRel.toldT f hv ?_)
  revert r
  generalize hw : unC rl v = w
  intro r
  cases r with
  | s r => exact r
  | func fn a c =>
    exfalso
    cases v with
    | pointer a => cases a <;> cases hw
    | slice a n c => cases a <;> cases hw
    | func => exact hf ⟨_, _, _, rfl⟩
    | _ => cases hw
theorem CRel.toldH (R : Rel E h μ H base) (f : FineT E h rl tg) {v n v' : Value} (ht : ToldC E (h.less rl) rl tg.next v n) (r : CRel E h μ H v v') : CRel E tg (μIce h μ rl) H n v' := by
  rcases ht with ⟨rfl, hv⟩ | ⟨u, h1, h2⟩
  · exact CRel.toldT f hv r
  · have := iceC_rel (R.less rl) (Z' := iceZ h μ rl) (fun k hk => .inl hk) (fun b x hx ho => .inr ⟨b, x, (less_get hx).1, (less_get hx).2, ho, rfl⟩) 4 h1 (r.mono0 Ext0.less)
    exact CRel.nilC h2 (.s (IRel.toS (μ := μIce h μ rl) this))
theorem WRel.toldH (R : Rel E h μ H base) (f : FineT E h rl tg) {v n v' : Value} (ht : ToldW E (h.less rl) rl tg.next v n) (r : WRel E h μ H v v') : WRel E tg (μIce h μ rl) H n v' := by
  cases ht with
  | ice u h1 h2 =>
    have := iceW_rel (R.less rl) (Z' := iceZ h μ rl) (fun k hk => .inl hk) (fun b x hx ho => .inr ⟨b, x, (less_get hx).1, (less_get hx).2, ho, rfl⟩) h1 (r.mono0 Ext0.less)
    exact WRel.nilW h2 (NRel.toW (μ := μIce h μ rl) this)
  | agg a b e1 e2 h1 =>
    subst e1 e2
    cases r with
    | agg r => exact .agg (All2.trans' (R := CRel E h μ H) (S := ToldC E (h.less rl) rl tg.next) (T := CRel E tg (μIce h μ rl) H) (fun _ _ _ r n => CRel.toldH R f n r) r h1)
    | c r => cases r with
      | s r => cases r
  | un e hv =>
    subst e
    have key : ∀ n, okC tg.next n = true → WRel E h μ H (unC rl n) v' → WRel E tg (μIce h μ rl) H n v' := fun n hn r => by
      refine .c (CRel.toldT f hn ?_)
      revert r
      generalize hw : unC rl n = w
      intro r
      cases r with
      | c r => exact r
      | agg =>
        exfalso
        cases n with
        | pointer a => cases a <;> cases hw
        | slice a n c => cases a <;> cases hw
        | agg => cases hn
        | _ => cases hw
    cases n with
    | agg cs =>
      cases r with
      | agg r =>
        rename_i a'
        refine .agg ?_
        have hall : cs.toList.all (okC tg.next) = true := hv
        have : ∀ (l m : List Value), l.all (okC tg.next) = true → All2 (CRel E h μ H) (l.map (unC rl)) m → All2 (CRel E tg (μIce h μ rl) H) l m := by
          intro l
          induction l with
          | nil => intro m _ hr; cases hr; exact .nil
          | cons v r ih =>
            intro m hl hr
            simp only [List.all_cons, Bool.and_eq_true] at hl
            cases hr with
            | cons h1 h2 => exact .cons (CRel.toldT f hl.1 h1) (ih _ hl.2 h2)
        exact this _ _ hall (by simpa using r)
      | c r => cases r with
        | s r => cases r
    | tuple vs =>
      exfalso
      cases r with
      | c r => cases r with
        | s r => cases r
    | func fn a c =>
      have hall : a.toList.all (okC tg.next) = true ∧ c.toList.all (okC tg.next) = true := by
        have h0 : (a.toList.all (okC tg.next) && c.toList.all (okC tg.next)) = true := hv
        rwa [Bool.and_eq_true] at h0
      obtain ⟨a', c', rfl, h1, h2⟩ := VRel.inv_func (.w r)
      have key2 : ∀ (l m : List Value), l.all (okC tg.next) = true → All2 (SRel E h μ H) (l.map (unC rl)) m → All2 (SRel E tg (μIce h μ rl) H) l m := by
        intro l
        induction l with
        | nil => intro m _ hr; cases hr; exact .nil
        | cons v r ih =>
          intro m hl hr
          simp only [List.all_cons, Bool.and_eq_true] at hl
          cases hr with
          | cons h1 h2 => exact .cons (SRel.toldT f hl.1 h1) (ih _ hl.2 h2)
      exact .c (.func fn (key2 _ _ hall.1 (by simpa using h1)) (key2 _ _ hall.2 (by simpa using h2)))
    | float => cases hv
    | complex => cases hv
    | chan => cases hv
    | bool b => exact key _ hv r
    | int k i => exact key _ hv r
    | string s => exact key _ hv r
    | pointer a => exact key _ hv r
    | slice a n c => exact key _ hv r
    | map m => exact key _ hv r
    | nilFunc => exact key _ hv r
    | nilIface => exact key _ hv r
    | iface e x => exact key _ hv r
theorem VRel.toldH (R : Rel E h μ H base) (f : FineT E h rl tg) {v n v' : Value} (ht : ToldV E (h.less rl) rl tg.next v n) (r : VRel E h μ H v v') : VRel E tg (μIce h μ rl) H n v' := by
  cases ht with
  | tuple a b e1 e2 h1 =>
    subst e1 e2
    obtain ⟨a', rfl, h2⟩ := r.inv_tuple
    exact .tuple (All2.trans' (R := WRel E h μ H) (S := ToldW E (h.less rl) rl tg.next) (T := WRel E tg (μIce h μ rl) H) (fun _ _ _ r n => WRel.toldH R f n r) h2 h1)
  | w ht =>
    have key : WRel E h μ H v v' → VRel E tg (μIce h μ rl) H n v' := fun r => .w (WRel.toldH R f ht r)
    cases r with
    | w r => exact key r
    | tuple r =>
      rename_i a a'
      cases ht with
      | ice u h1 h2 => simp [iceW, iceC, flat] at h1
      | agg a b e1 => cases e1
      | un e hv =>
        cases n with
        | pointer a => cases a <;> cases e
        | slice a n c => cases a <;> cases e
        | agg => cases e
        | tuple vs =>
          have h0 : vs.toList = [] := by simpa [okV] using hv
          obtain rfl : a = vs := by injection e
          rw [h0] at r
          refine .tuple ?_
          rw [h0]
          generalize a'.toList = m at r ⊢
          cases r
          exact .nil
        | _ => cases e
    | any =>
      exfalso
      cases ht with
      | ice u h1 h2 => simp [junk, iceW, iceC, flat] at h1
      | agg a b e1 => cases e1
      | un e hv =>
        cases n with
        | pointer a => cases a <;> cases e
        | slice a n c => cases a <;> cases e
        | agg => cases e
        | chan => cases hv
        | _ => cases e
theorem FineT.rel (R : Rel E h μ H base) (f : FineT E h rl tg) : Rel E tg (μIce h μ rl) H base := by
  have cold : ∀ (b : Nat) (x : Blk), tg.get b = some x → x.own = true → ¬ (μ.Y (μ (rl.getD b 0)).1 ∨ iceZ h μ rl (μ (rl.getD b 0)).1) := fun b x hx ho hY => by
    obtain ⟨k, old, g1, g2, g3⟩ := f.at' b x hx
    have e : rl.getD b 0 = k := by rw [List.getD_eq_getElem?_getD, g1]; rfl
    rw [e] at hY
    have c := R.cold k _ g2 ho
    rcases hY with hY | hY | ⟨b2, x2, q1, q2, q3, q4⟩
    · exact c hY
    · exact c (μ.zy _ hY)
    · refine R.inj b2 k x2 _ q2 g2 (fun e => ?_) q3 q4
      subst e
      have : b2 ∈ rl := List.mem_of_getElem? g1
      simp [this] at q1
  refine ⟨fun b x hx => ?_, fun b b' x x' h1 h2 hne ho => ?_, fun b x hx ho => cold b x hx ho, fun k hk => ?_⟩
  · obtain ⟨k, old, g1, g3, g4⟩ := f.at' b x hx
    have e : rl.getD b 0 = k := by rw [List.getD_eq_getElem?_getD, g1]; rfl
    obtain ⟨hlt, cs, fr, hH, hl, hc, hown⟩ := R.blk k _ g3
    have hm : (μIce h μ rl).at' b = μ.at' k := by show μ.at' (rl.getD b 0) = _; rw [e]
    have hbl : b < tg.next := by
      rw [← f.len]
      exact (List.getElem?_eq_some_iff.1 g1).1
    simp only at hl hc hown
    refine ⟨hbl, cs, fr, by rw [hm]; exact hH, by rw [hm, ← g4.length]; exact hl, fun i v hi => ?_, fun ho => by rw [hm]; exact hown ho⟩
    obtain ⟨vo, e1⟩ : ∃ vo, old[i]? = some vo := by
      have : i < old.length := by rw [g4.length]; exact (List.getElem?_eq_some_iff.1 hi).1
      exact ⟨_, List.getElem?_eq_getElem this⟩
    obtain ⟨v2, e2, e3⟩ := g4.get e1
    rw [hi] at e2
    obtain rfl := Option.some.inj e2
    obtain ⟨v', a1, a2⟩ := hc i vo e1
    exact ⟨v', by rw [hm]; exact a1, CRel.toldH R f e3 a2⟩
  · obtain ⟨k, old, g1, g3, g4⟩ := f.at' b x h1
    obtain ⟨k', old', q1, q3, q4⟩ := f.at' b' x' h2
    have e : rl.getD b 0 = k := by rw [List.getD_eq_getElem?_getD, g1]; rfl
    have e' : rl.getD b' 0 = k' := by rw [List.getD_eq_getElem?_getD, q1]; rfl
    show (μ (rl.getD b 0)).1 ≠ (μ (rl.getD b' 0)).1
    rw [e, e']
    refine R.inj k k' _ _ g3 q3 (fun e => hne ?_) ho
    subst e
    exact (List.getElem?_inj (List.getElem?_eq_some_iff.1 g1).1 f.nd).1 (g1.trans q1.symm)
  · rcases hk with hk | hk | ⟨b2, x2, q1, q2, q3, rfl⟩
    · exact R.ice k hk
    · exact R.ice k (μ.zy _ hk)
    · obtain ⟨_, cs, fr, hH, _⟩ := R.blk b2 x2 q2
      rcases Nat.lt_or_ge (μ b2).1 H.size with h | h
      · exact h
      · rw [Array.getElem?_eq_none h] at hH; cases hH
theorem FineT.tom {L : Nat} {w : World} (R : Rel E h μ w.heap base) (f : FineT E h rl tg) (hk : keepsL L rl = true) : Tom L base h μ w tg (μIce h μ rl) w := by
  have hkeep : ∀ b, b < L → rl[b]? = some b := fun b hb => by
    have := List.all_eq_true.1 hk b (by simpa using hb)
    simpa using this
  refine ⟨Below.refl _ _, ?_, fun b hb => ?_, fun b x' hb hx => ?_, fun k cs T fr hk => ⟨cs, fr, hk, rfl⟩, fun _ hk => .inl hk, fun _ _ => rfl, fun k hk => ?_, fun _ hk => .inl hk, fun k hk => hk⟩
  · show L ≤ tg.next
    rw [← f.len]
    rcases Nat.eq_zero_or_pos L with h0 | h0
    · omega
    · have := (List.getElem?_eq_some_iff.1 (hkeep (L - 1) (by omega))).1
      omega
  · have := hkeep b hb
    show μ.at' (rl.getD b 0) = μ.at' b
    rw [List.getD_eq_getElem?_getD, this]
    rfl
  · obtain ⟨k, old, g1, g3, g4⟩ := f.at' b x' hx
    rw [hkeep b hb] at g1
    obtain rfl := Option.some.inj g1
    exact ⟨_, g3, rfl, rfl⟩
  · rcases hk with hk | ⟨b2, x2, q1, q2, q3, rfl⟩
    · exact .inl hk
    · exact .inr (R.cold b2 x2 q2 q3)
end
def heapO (bs : List (Option Blk)) : Heap := ⟨bs.length, fun b => (bs[b]?).join⟩
def BlksO (E : Env) (h : Heap) (rl : List Nat) (m : Nat) : List Nat → List (Option Blk) → Prop
  | [], [] => True
  | k :: ks, some x :: xs => (∃ old, h.get k = some ⟨x.elem, x.own, old⟩ ∧ All2 (ToldC E (h.less rl) rl m) old x.cells) ∧ BlksO E h rl m ks xs
  | _ :: ks, none :: xs => BlksO E h rl m ks xs
  | _, _ => False
theorem BlksO.at {E : Env} {rl : List Nat} {m : Nat} {h : Heap} : ∀ {ks : List Nat} {xs : List (Option Blk)}, BlksO E h rl m ks xs → ks.length = xs.length ∧ ∀ (b : Nat) (x : Blk), (xs[b]?).join = some x → ∃ k old, ks[b]? = some k ∧ h.get k = some ⟨x.elem, x.own, old⟩ ∧ All2 (ToldC E (h.less rl) rl m) old x.cells
  | [], [], _ => ⟨rfl, fun b x hx => by simp at hx⟩
  | k :: ks, some x :: xs, hb => by
    obtain ⟨h1, h2⟩ := hb
    obtain ⟨h3, h4⟩ := BlksO.at h2
    refine ⟨by simp [h3], fun b y hy => ?_⟩
    cases b with
    | zero =>
      obtain rfl : x = y := by simpa using hy
      obtain ⟨old, g1, g2⟩ := h1
      exact ⟨k, old, rfl, g1, g2⟩
    | succ b =>
      obtain ⟨k', old, g1, g2, g3⟩ := h4 b y (by simpa using hy)
      exact ⟨k', old, by simpa using g1, g2, g3⟩
  | k :: ks, none :: xs, hb => by
    obtain ⟨h3, h4⟩ := BlksO.at (ks := ks) (xs := xs) hb
    refine ⟨by simp [h3], fun b y hy => ?_⟩
    cases b with
    | zero => simp at hy
    | succ b =>
      obtain ⟨k', old, g1, g2, g3⟩ := h4 b y (by simpa using hy)
      exact ⟨k', old, by simpa using g1, g2, g3⟩
  | [], _ :: _, hb => hb.elim
  | _ :: _, [], hb => by cases hb
theorem FineT.of {E : Env} {h : Heap} {rl : List Nat} {bs : List (Option Blk)} (hnd : rl.Nodup) (hb : BlksO E h rl bs.length rl bs) : FineT E h rl (heapO bs) := ⟨hnd, hb.at.1, hb.at.2⟩
theorem View.ofO {E : Env} {h : Heap} {n : Nat} {L : Nat} {s : Slots} (rl : List Nat) (bs : List (Option Blk)) (l : List (Nat × Value)) (hnd : rl.Nodup) (hk : keepsL L rl = true) (hb : BlksO E h rl bs.length rl bs) (hs : SlotsI E h rl bs.length s l) : View L E n s h (layj l) (heapO bs) := by
  intro _ base μ w a S
  have f := FineT.of hnd hb
  refine ⟨μIce h μ rl, ⟨f.rel S.rel, S.base_le, ?_, S.size, S.defers⟩, f.tom S.rel hk⟩
  clear hb hk
  induction l with
  | nil => exact fun i => .any _
  | cons p r ih =>
    obtain ⟨d, v⟩ := p
    obtain ⟨h1, h2⟩ := hs
    have ih := ih h2
    intro i
    simp only [layj, upd]
    split
    · rename_i e
      subst e
      exact VRel.toldH S.rel f h1 (S.sl i)
    · exact ih i
def LentO (E : Env) (L : Nat) (v2 : Value) (bs' : List (Option Blk)) (v : Value) (h1 : Heap) : Prop :=
  ∃ rl : List Nat, rl.Nodup ∧ keepsL L rl = true ∧ BlksO E h1 rl bs'.length rl bs' ∧ ToldV E (h1.less rl) rl bs'.length v v2
def ownO : List (Option Blk) → Bool := fun l => l.all fun x => match x with | some x => x.own | none => true
theorem SCall.enterO {E : Env} {f : FuncId} {fn : Func} {c : Code} {args : List Value} {bs bs' : List (Option Blk)} {v : Value} (hf : E.funcs f = some fn) (hb : fn.body = some c) (hl : args.length ≤ fn.ntmps) (own : ownO bs = true) (own' : ownO bs' = true) (len : bs.length ≤ bs'.length)
    (hw : Wp bs.length E fn.ntmps c (slots0 args) (heapO bs) (endK E fn (LentO E bs.length v bs'))) : SCall E f args (heapO bs) v (heapO bs') := by
  have hj : ∀ (l : List (Option Blk)), ownO l = true → ∀ b x, (heapO l).get b = some x → x.own = true := fun l hl b x hx => by
    have h1 : l[b]? = some (some x) := by
      have h0 : (l[b]?).join = some x := hx
      cases e : l[b]? with
      | none => rw [e] at h0; cases h0
      | some y => rw [e] at h0; exact congrArg some h0
    exact List.all_eq_true.1 hl (some x) (List.mem_of_getElem? h1)
  refine fun ok => ⟨⟨fn, hf, by rw [hb]; rfl⟩, fun μ base w args' R hbase ha => ?_⟩
  refine Calls.mono (enter ok (Nat.le_refl _) hf hb hl hw R hbase ha) fun e w' he => ?_
  obtain ⟨v1, h1, v', μ', ⟨rl, hnd, hk, hbk, htold⟩, rfl, R', t, hv⟩ := he
  have f := FineT.of hnd hbk
  have t2 := t.trans (f.tom R' hk)
  refine ⟨v', μIce h1 μ' rl, rfl, f.rel R', ⟨len, t2.mu, t2.back, fun b x hb hx ho => ?_, fun b x _ hb' hx => ?_, t2.mem, t2.ice, t2.icy, t2.iced, t2.below.size, t2.iceY, t2.icedY⟩, t2.below, VRel.toldH R' f htold hv⟩
  · exfalso
    have := hj bs own b x hx
    rw [ho] at this
    cases this
  · exact hj bs' own' b x hx
theorem WpCall.enterO {E : Env} {f : FuncId} {args : List Value} {h : Heap} {bs bs' : List (Option Blk)} {v : Value} {K : Value → Heap → Prop} (c : SCall E f args (heapO bs) v (heapO bs')) (e : h = heapO bs) (k : K v (heapO bs')) : WpCall E f args h K := by
  subst e
  exact WpCall.by c k
def BlksP (rl : List Nat) (m : Nat) (h : Heap) : List Nat → List (Option Blk) → Prop
  | [], [] => True
  | k :: ks, some x :: xs => (∃ old, h.get k = some ⟨x.elem, x.own, old⟩ ∧ CellsOk rl m old x.cells) ∧ BlksP rl m h ks xs
  | _ :: ks, none :: xs => BlksP rl m h ks xs
  | _, _ => False
theorem BlksP.told {E : Env} {rl : List Nat} {m : Nat} {h : Heap} : ∀ {ks : List Nat} {xs : List (Option Blk)}, BlksP rl m h ks xs → BlksO E h rl m ks xs
  | [], [], _ => trivial
  | k :: ks, some x :: xs, hb => by
    obtain ⟨⟨old, h1, h2, h3⟩, h4⟩ := hb
    refine ⟨⟨old, h1, ?_⟩, BlksP.told h4⟩
    rw [h2]
    exact toldC_map h3
  | k :: ks, none :: xs, hb => BlksP.told (ks := ks) (xs := xs) hb
  | [], _ :: _, hb => hb.elim
  | _ :: _, [], hb => by cases hb
theorem SlotsOk.told {E : Env} {h : Heap} {rl : List Nat} {m : Nat} {s : Slots} : ∀ {l : List (Nat × Value)}, SlotsOk rl m s l → SlotsI E h rl m s l
  | [], _ => trivial
  | (d, v) :: r, ⟨⟨h1, h2⟩, h3⟩ => ⟨.w (.un h1 h2), SlotsOk.told h3⟩
theorem View.ofP {E : Env} {h : Heap} {n : Nat} {L : Nat} {s : Slots} (rl : List Nat) (bs : List (Option Blk)) (l : List (Nat × Value)) (hnd : rl.Nodup) (hk : keepsL L rl = true) (hb : BlksP rl bs.length h rl bs) (hs : SlotsOk rl bs.length s l) : View L E n s h (layj l) (heapO bs) :=
  View.ofO rl bs l hnd hk hb.told hs.told
theorem Wp.mergeH {L : Nat} {E : Env} {n : Nat} {c b : Code} {s : Slots} {h : Heap} {K : AExit → Slots → Heap → Prop} (l : List (Nat × Value)) (tg : Heap) (h1 : Wp L E n c s h (fun x s h => x = .normal ∧ View L E n s h (layj l) tg)) (h2 : Wp L E n b (layj l) tg K) : Wp L E n c s h (thenK (fun s h => Wp L E n b s h K) K) :=
  Wp.mono h1 fun x s h hx => by
    obtain ⟨rfl, v⟩ := hx
    exact Wp.view v h2
theorem heapO_of (l : List Blk) : heapOf l = heapO (l.map some) := by
  show Heap.mk _ _ = Heap.mk _ _
  congr 1
  · simp
  · funext b
    simp
    cases l[b]? <;> rfl
end Go.Fw
