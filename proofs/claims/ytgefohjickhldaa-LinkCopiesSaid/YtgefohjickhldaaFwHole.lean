/- A memory with holes: rows that were appended to are gone, what is behind them stays. -/
import Derived.Test.YtgefohjickhldaaFwEnter
namespace Go.Fw
open Go.RowKit
inductive TC (E : Env) (hR : Heap) (rl : List Nat) (m : Nat) (o n : Value) : Prop
  | un : o = unC rl n → okC m n = true → TC E hR rl m o n
  | ice (u : Value) : iceC E hR 4 o = some u → NilC E u n → TC E hR rl m o n
  | bare (b off : Nat) : o = .slice none 0 0 → n = .slice (some ⟨b, off, none⟩) 0 0 → b < m → TC E hR rl m o n
  | cap (b off k c c2 : Nat) : o = .slice (some ⟨rl.getD b 0, off, none⟩) k c → n = .slice (some ⟨b, off, none⟩) k c2 → b < m → k ≤ c2 → c2 ≤ c → TC E hR rl m o n
inductive TW (E : Env) (hR : Heap) (rl : List Nat) (m : Nat) (o n : Value) : Prop
  | un : o = unV rl n → okV m n = true → TW E hR rl m o n
  | ice (u : Value) : iceW E hR o = some u → NilW E u n → TW E hR rl m o n
  | c : TC E hR rl m o n → TW E hR rl m o n
  | agg (a b : Array Value) : o = .agg a → n = .agg b → All2 (TC E hR rl m) a.toList b.toList → TW E hR rl m o n
inductive TV (E : Env) (hR : Heap) (rl : List Nat) (m : Nat) (o n : Value) : Prop
  | w : TW E hR rl m o n → TV E hR rl m o n
  | tuple (a b : Array Value) : o = .tuple a → n = .tuple b → All2 (TW E hR rl m) a.toList b.toList → TV E hR rl m o n
theorem ToldC.tc {E : Env} {hR : Heap} {rl : List Nat} {m : Nat} {o n : Value} (h : ToldC E hR rl m o n) : TC E hR rl m o n := by
  rcases h with ⟨h1, h2⟩ | ⟨u, h1, h2⟩
  · exact .un h1 h2
  · exact .ice u h1 h2
theorem ToldC.tcs {E : Env} {hR : Heap} {rl : List Nat} {m : Nat} {o n : List Value} (h : All2 (ToldC E hR rl m) o n) : All2 (TC E hR rl m) o n := h.mono fun _ _ h => h.tc
theorem ToldW.tw {E : Env} {hR : Heap} {rl : List Nat} {m : Nat} {o n : Value} (h : ToldW E hR rl m o n) : TW E hR rl m o n := by
  cases h with
  | un h1 h2 => exact .un h1 h2
  | ice u h1 h2 => exact .ice u h1 h2
  | agg a b h1 h2 h3 => exact .agg a b h1 h2 (ToldC.tcs h3)
theorem ToldV.tv {E : Env} {hR : Heap} {rl : List Nat} {m : Nat} {o n : Value} (h : ToldV E hR rl m o n) : TV E hR rl m o n := by
  cases h with
  | w h => exact .w h.tw
  | tuple a b h1 h2 h3 => exact .tuple a b h1 h2 (h3.mono fun _ _ h => h.tw)
def OneO (E : Env) (h : Heap) (rl : List Nat) (m k : Nat) (x : Blk) : Prop :=
  (∃ l1 l2, h.get k = some ⟨x.elem, x.own, l1 ++ l2⟩ ∧ All2 (TC E (h.less rl) rl m) l1 x.cells) ∨ (x.cells = [] ∧ h.next ≤ k)
def μHat (h : Heap) (μ : Place) (rl : List Nat) (b : Nat) : Loc := if h.next ≤ rl.getD b 0 then ⟨0, 0, true⟩ else μ (rl.getD b 0)
def μH (h : Heap) (μ : Place) (rl : List Nat) : Place := ⟨μHat h μ rl, iceZ h μ rl, fun k => μ.Y k ∨ iceZ h μ rl k, fun _ hk => .inr hk⟩
theorem μH_at {h : Heap} {μ : Place} {rl : List Nat} {b : Nat} (hb : rl.getD b 0 < h.next) : (μH h μ rl) b = μ (rl.getD b 0) := if_neg (Nat.not_le.2 hb)
structure FineT (E : Env) (h : Heap) (rl : List Nat) (tg : Heap) : Prop where
  nd : ∀ b b' x x' k, tg.get b = some x → tg.get b' = some x' → rl[b]? = some k → rl[b']? = some k → b = b'
  len : rl.length = tg.next
  at' : ∀ (b : Nat) (x : Blk), tg.get b = some x → ∃ (k : Nat), rl[b]? = some k ∧ OneO E h rl tg.next k x
section
variable {E : Env} {h : Heap} {μ : Place} {H : Mem} {base : Nat} {rl : List Nat} {tg : Heap}
theorem SRel.toldT (f : FineT E h rl tg) {v v' : Value} (hv : okC tg.next v = true) (r : SRel E h μ H (unC rl v) v') : SRel E tg (μH h μ rl) H v v' := by
  have tr : ∀ {b off c' : Nat} {a' : Addr}, rl.getD b 0 < h.next → SliceAt E h μ H (rl.getD b 0) off a' c' → SliceAt E tg (μH h μ rl) H b off a' c' := fun {b _ _ _} hlt ⟨h1, h2, hp, h3⟩ => by
    have em := μH_at (μ := μ) hlt
    refine ⟨by rw [em]; exact h1, by rw [em]; exact h2, by rw [em]; exact hp, fun x hx => ?_⟩
    obtain ⟨k, g1, g2⟩ := f.at' b x hx
    have ek : rl.getD b 0 = k := by rw [List.getD_eq_getElem?_getD, g1]; rfl
    rw [ek] at h3 hlt
    rcases g2 with ⟨l1, l2, g2, _⟩ | ⟨_, g2⟩
    · exact h3 ⟨x.elem, x.own, l1 ++ l2⟩ g2
    · exact absurd hlt (Nat.not_lt.2 g2)
  cases v with
  | pointer a => cases a with
    | none => cases r; exact .nilptr
    | some a =>
      obtain ⟨b, o, sp⟩ := a
      cases sp with
      | none =>
        simp only [okC, decide_eq_true_eq] at hv
        cases r with
        | ptr b' off' hb' => rw [← μH_at (μ := μ) hb']; exact .ptr b o hv
      | some _ => cases hv
  | slice a n c => cases a with
    | none => cases r; exact .nilslice
    | some a =>
      obtain ⟨b, o, sp⟩ := a
      cases sp with
      | none =>
        simp only [okC, decide_eq_true_eq] at hv
        cases r with
        | slice b' off' n' c' a' cc hb' hn hc hs ha => exact .slice b o n c a' cc hv hn hc hs (ha.imp id (tr hb'))
        | bare _ _ hb' => exact .bare b o hv
      | some _ => cases hv
  | bool b => cases r; exact .bool b
  | int k i => cases r; exact .int k i
  | string s => cases r; exact .string s
  | map m => cases r; exact .nilmap
  | nilFunc => cases r; exact .nilfunc
  | nilIface => cases r; exact .niliface
  | iface e x => cases r with
    | ice r => exact .ice (r.mono (fun k hk => .inl hk) fun _ _ => rfl)
  | func => cases r
  | _ => cases hv
theorem CRel.toldT (f : FineT E h rl tg) {v v' : Value} (hv : okC tg.next v = true) (r : CRel E h μ H (unC rl v) v') : CRel E tg (μH h μ rl) H v v' := by
  by_cases hf : ∃ fn a c, v = .func fn a c
  · obtain ⟨fn, a, c, rfl⟩ := hf
    exact func0 hv r
  refine .s (SRel.toldT f hv ?_)
  revert r
  generalize hw : unC rl v = w
  intro r
  cases r with
  | s r => exact r
  | func fn a c =>
    exfalso
    cases v with
    | pointer a => cases a <;> cases hw
    | slice a n c => cases a <;> cases hw
    | func => exact hf ⟨_, _, _, rfl⟩
    | _ => cases hw
theorem CRel.toldH (R : Rel E h μ H base) (f : FineT E h rl tg) {v n v' : Value} (ht : TC E (h.less rl) rl tg.next v n) (r : CRel E h μ H v v') : CRel E tg (μH h μ rl) H n v' := by
  cases ht with
  | un e hv =>
    subst e
    exact CRel.toldT f hv r
  | bare b off e1 e2 hb =>
    subst e1 e2
    cases r with
    | s r => cases r with
      | nilslice => exact .s (.bare b off hb)
  | cap b off k c c2 e1 e2 hb h1 h2 =>
    subst e1 e2
    have hcap : ∀ {v'}, SRel E h μ H (.slice (some ⟨rl.getD b 0, off, none⟩) k c) v' → SRel E h μ H (.slice (some ⟨rl.getD b 0, off, none⟩) k c2) v' := fun {v'} r => by
      cases r with
      | slice _ _ _ _ a' c' hb hn hc hs ha => exact .slice _ _ k c2 a' c' hb h1 (Nat.le_trans h2 hc) hs ha
      | bare _ _ hb' =>
        obtain rfl : c2 = 0 := by omega
        exact .bare _ _ hb'
    cases r with
    | s r => exact .s (SRel.toldT (v := .slice (some ⟨b, off, none⟩) k c2) f (by simp only [okC, decide_eq_true_eq]; exact hb) (hcap r))
  | ice u h1 h2 =>
    have := iceC_rel (R.less rl) (Z' := iceZ h μ rl) (fun k hk => .inl hk) (fun b x hx ho hp => .inr ⟨b, x, (less_get hx).1, (less_get hx).2, ho, hp, rfl⟩) 4 h1 (r.mono0 Ext0.less)
    exact CRel.nilC h2 (.s (IRel.toS (μ := μH h μ rl) this))
theorem WRel.toldH (R : Rel E h μ H base) (f : FineT E h rl tg) {v n v' : Value} (ht : TW E (h.less rl) rl tg.next v n) (r : WRel E h μ H v v') : WRel E tg (μH h μ rl) H n v' := by
  cases ht with
  | ice u h1 h2 =>
    have := iceW_rel (R.less rl) (Z' := iceZ h μ rl) (fun k hk => .inl hk) (fun b x hx ho hp => .inr ⟨b, x, (less_get hx).1, (less_get hx).2, ho, hp, rfl⟩) h1 (r.mono0 Ext0.less)
    exact WRel.nilW h2 (NRel.toW (μ := μH h μ rl) this)
  | c ht =>
    cases r with
    | c r => exact .c (CRel.toldH R f ht r)
    | agg r =>
      exfalso
      cases ht with
      | un e hv =>
        cases n with
        | pointer a => cases a <;> cases e
        | slice a n c => cases a <;> cases e
        | agg => cases hv
        | _ => cases e
      | bare b off e1 => cases e1
      | cap b off k c c2 e1 => cases e1
      | ice u h1 h2 => simp [iceC, flat] at h1
  | agg a b e1 e2 h1 =>
    subst e1 e2
    cases r with
    | agg r => exact .agg (All2.trans' (R := CRel E h μ H) (S := TC E (h.less rl) rl tg.next) (T := CRel E tg (μH h μ rl) H) (fun _ _ _ r n => CRel.toldH R f n r) r h1)
    | c r => cases r with
      | s r => cases r
  | un e hv =>
    subst e
    have key : ∀ n, okC tg.next n = true → WRel E h μ H (unC rl n) v' → WRel E tg (μH h μ rl) H n v' := fun n hn r => by
      refine .c (CRel.toldT f hn ?_)
      revert r
      generalize hw : unC rl n = w
      intro r
      cases r with
      | c r => exact r
      | agg =>
        exfalso
        cases n with
        | pointer a => cases a <;> cases hw
        | slice a n c => cases a <;> cases hw
        | agg => cases hn
        | _ => cases hw
    cases n with
    | agg cs =>
      cases r with
      | agg r =>
        rename_i a'
        refine .agg ?_
        have hall : cs.toList.all (okC tg.next) = true := hv
        have : ∀ (l m : List Value), l.all (okC tg.next) = true → All2 (CRel E h μ H) (l.map (unC rl)) m → All2 (CRel E tg (μH h μ rl) H) l m := by
          intro l
          induction l with
          | nil => intro m _ hr; cases hr; exact .nil
          | cons v r ih =>
            intro m hl hr
            simp only [List.all_cons, Bool.and_eq_true] at hl
            cases hr with
            | cons h1 h2 => exact .cons (CRel.toldT f hl.1 h1) (ih _ hl.2 h2)
        exact this _ _ hall (by simpa using r)
      | c r => cases r with
        | s r => cases r
    | tuple vs =>
      exfalso
      cases r with
      | c r => cases r with
        | s r => cases r
    | func fn a c =>
      have hall : a.toList.all (okC tg.next) = true ∧ c.toList.all (okC tg.next) = true := by
        have h0 : (a.toList.all (okC tg.next) && c.toList.all (okC tg.next)) = true := hv
        rwa [Bool.and_eq_true] at h0
      obtain ⟨a', c', rfl, h1, h2⟩ := VRel.inv_func (.w r)
      have key2 : ∀ (l m : List Value), l.all (okC tg.next) = true → All2 (SRel E h μ H) (l.map (unC rl)) m → All2 (SRel E tg (μH h μ rl) H) l m := by
        intro l
        induction l with
        | nil => intro m _ hr; cases hr; exact .nil
        | cons v r ih =>
          intro m hl hr
          simp only [List.all_cons, Bool.and_eq_true] at hl
          cases hr with
          | cons h1 h2 => exact .cons (SRel.toldT f hl.1 h1) (ih _ hl.2 h2)
      exact .c (.func fn (key2 _ _ hall.1 (by simpa using h1)) (key2 _ _ hall.2 (by simpa using h2)))
    | float => cases hv
    | complex => cases hv
    | chan => cases hv
    | bool b => exact key _ hv r
    | int k i => exact key _ hv r
    | string s => exact key _ hv r
    | pointer a => exact key _ hv r
    | slice a n c => exact key _ hv r
    | map m => exact key _ hv r
    | nilFunc => exact key _ hv r
    | nilIface => exact key _ hv r
    | iface e x => exact key _ hv r
theorem VRel.toldH (R : Rel E h μ H base) (f : FineT E h rl tg) {v n v' : Value} (ht : TV E (h.less rl) rl tg.next v n) (r : VRel E h μ H v v') : VRel E tg (μH h μ rl) H n v' := by
  cases ht with
  | tuple a b e1 e2 h1 =>
    subst e1 e2
    obtain ⟨a', rfl, h2⟩ := r.inv_tuple
    exact .tuple (All2.trans' (R := WRel E h μ H) (S := TW E (h.less rl) rl tg.next) (T := WRel E tg (μH h μ rl) H) (fun _ _ _ r n => WRel.toldH R f n r) h2 h1)
  | w ht =>
    have key : WRel E h μ H v v' → VRel E tg (μH h μ rl) H n v' := fun r => .w (WRel.toldH R f ht r)
    cases r with
    | w r => exact key r
    | tuple r =>
      rename_i a a'
      cases ht with
      | ice u h1 h2 => simp [iceW, iceC, flat] at h1
      | agg a b e1 => cases e1
      | c ht =>
        exfalso
        cases ht with
        | un e hv =>
          cases n with
          | pointer a => cases a <;> cases e
          | slice a n c => cases a <;> cases e
          | tuple => cases hv
          | _ => cases e
        | bare b off e1 => cases e1
        | cap b off k c c2 e1 => cases e1
        | ice u h1 h2 => simp [iceC, flat] at h1
      | un e hv =>
        cases n with
        | pointer a => cases a <;> cases e
        | slice a n c => cases a <;> cases e
        | agg => cases e
        | tuple vs =>
          have h0 : vs.toList = [] := by simpa [okV] using hv
          obtain rfl : a = vs := by injection e
          rw [h0] at r
          refine .tuple ?_
          rw [h0]
          generalize a'.toList = m at r ⊢
          cases r
          exact .nil
        | _ => cases e
    | any =>
      exfalso
      cases ht with
      | ice u h1 h2 => simp [junk, iceW, iceC, flat] at h1
      | agg a b e1 => cases e1
      | c ht =>
        cases ht with
        | un e hv =>
          cases n with
          | pointer a => cases a <;> cases e
          | slice a n c => cases a <;> cases e
          | chan => cases hv
          | _ => cases e
        | bare b off e1 => cases e1
        | cap b off k c c2 e1 => cases e1
        | ice u h1 h2 => simp [junk, iceC, flat] at h1
      | un e hv =>
        cases n with
        | pointer a => cases a <;> cases e
        | slice a n c => cases a <;> cases e
        | agg => cases e
        | chan => cases hv
        | _ => cases e
theorem FineT.rel (R : Rel E h μ H base) (f : FineT E h rl tg) : Rel E tg (μH h μ rl) H base := by
  have there : ∀ (b : Nat) (x : Blk), tg.get b = some x → (μH h μ rl b).ph = false → ∃ k l1 l2, rl[b]? = some k ∧ rl.getD b 0 = k ∧ μH h μ rl b = μ k ∧ h.get k = some ⟨x.elem, x.own, l1 ++ l2⟩ ∧ All2 (TC E (h.less rl) rl tg.next) l1 x.cells := fun b x hx hp => by
    obtain ⟨k, g1, g2⟩ := f.at' b x hx
    have e : rl.getD b 0 = k := by rw [List.getD_eq_getElem?_getD, g1]; rfl
    rcases g2 with ⟨l1, l2, g2, g3⟩ | ⟨_, g2⟩
    · have hk : rl.getD b 0 < h.next := by rw [e]; exact (R.blk k _ g2).1
      exact ⟨k, l1, l2, g1, e, by rw [μH_at hk, e], g2, g3⟩
    · exfalso
      have : (μH h μ rl b) = ⟨0, 0, true⟩ := if_pos (by rw [e]; exact g2)
      rw [this] at hp
      cases hp
  refine ⟨fun b x hx => ?_, fun b b' x x' h1 h2 hne ho hp1 hp2 => ?_, fun b x hx ho hp hY => ?_, fun k hk => ?_⟩
  · have hbl : b < tg.next := by
      obtain ⟨k, g1, _⟩ := f.at' b x hx
      rw [← f.len]
      exact (List.getElem?_eq_some_iff.1 g1).1
    refine ⟨hbl, fun hp => ?_, fun hp => ?_⟩
    · obtain ⟨k, g1, g2⟩ := f.at' b x hx
      have e : rl.getD b 0 = k := by rw [List.getD_eq_getElem?_getD, g1]; rfl
      rcases g2 with ⟨l1, l2, g2, g3⟩ | ⟨g2, _⟩
      · have hk : rl.getD b 0 < h.next := by rw [e]; exact (R.blk k _ g2).1
        rw [μH_at hk, e] at hp
        have h0 : l1 ++ l2 = [] := (R.blk k _ g2).2.1 hp
        have h00 : l1 = [] := (List.append_eq_nil_iff.1 h0).1
        subst h00
        exact List.eq_nil_of_length_eq_zero g3.length.symm
      · exact g2
    · obtain ⟨k, l1, l2, g1, e, hm, g2, g3⟩ := there b x hx hp
      rw [hm] at hp ⊢
      obtain ⟨cs, fr, hH, hl, hc, hown⟩ := (R.blk k _ g2).2.2 hp
      simp only at hl hc hown
      refine ⟨cs, fr, hH, by rw [← g3.length]; rw [List.length_append] at hl; omega, fun i v hi => ?_, hown⟩
      obtain ⟨vo, e1⟩ : ∃ vo, l1[i]? = some vo := by
        have : i < l1.length := by rw [g3.length]; exact (List.getElem?_eq_some_iff.1 hi).1
        exact ⟨_, List.getElem?_eq_getElem this⟩
      obtain ⟨v2, e2, e3⟩ := g3.get e1
      rw [hi] at e2
      obtain rfl := Option.some.inj e2
      obtain ⟨v', a1, a2⟩ := hc i vo (by rw [List.getElem?_append_left (List.getElem?_eq_some_iff.1 e1).1]; exact e1)
      exact ⟨v', a1, CRel.toldH R f e3 a2⟩
  · obtain ⟨k, l1, l2, g1, e, hm, g2, g3⟩ := there b x h1 hp1
    obtain ⟨k', l1', l2', q1, e', hm', q2, q3⟩ := there b' x' h2 hp2
    rw [hm] at hp1 ⊢
    rw [hm'] at hp2 ⊢
    refine R.inj k k' _ _ g2 q2 (fun e => hne ?_) ho hp1 hp2
    subst e
    exact f.nd b b' x x' k h1 h2 g1 q1
  · obtain ⟨k, l1, l2, g1, e, hm, g2, g3⟩ := there b x hx hp
    rw [hm] at hp hY
    have c := R.cold k _ g2 ho hp
    rcases hY with hY | hY | ⟨b2, x2, q1, q2, q3, q5, q4⟩
    · exact c hY
    · exact c (μ.zy _ hY)
    · refine R.inj b2 k x2 _ q2 g2 (fun e => ?_) q3 q5 hp q4
      subst e
      have : b2 ∈ rl := List.mem_of_getElem? g1
      simp [this] at q1
  · rcases hk with hk | hk | ⟨b2, x2, q1, q2, q3, q5, rfl⟩
    · exact R.ice k hk
    · exact R.ice k (μ.zy _ hk)
    · obtain ⟨cs, fr, hH, _⟩ := (R.blk b2 x2 q2).2.2 q5
      rcases Nat.lt_or_ge (μ b2).1 H.size with h | h
      · exact h
      · rw [Array.getElem?_eq_none h] at hH; cases hH
theorem FineT.tom {L : Nat} {w : World} (hL : L ≤ h.next) (R : Rel E h μ w.heap base) (f : FineT E h rl tg) (hk : keepsL L rl = true) : Tom L base h μ w tg (μH h μ rl) w := by
  have hkeep : ∀ b, b < L → rl[b]? = some b := fun b hb => by
    have := List.all_eq_true.1 hk b (by simpa using hb)
    simpa using this
  have hkD : ∀ b, b < L → rl.getD b 0 = b := fun b hb => by rw [List.getD_eq_getElem?_getD, hkeep b hb]; rfl
  refine ⟨Below.refl _ _, ?_, fun b hb => ?_, fun b x' hb hx => ?_, fun k cs T fr hk => ⟨cs, fr, hk, rfl⟩, fun _ hk => .inl hk, fun _ _ => rfl, fun k hk => ?_, fun _ hk => .inl hk, fun k hk => hk⟩
  · show L ≤ tg.next
    rw [← f.len]
    rcases Nat.eq_zero_or_pos L with h0 | h0
    · omega
    · have := (List.getElem?_eq_some_iff.1 (hkeep (L - 1) (by omega))).1
      omega
  · rw [μH_at (by rw [hkD b hb]; omega), hkD b hb]
  · obtain ⟨k, g1, g2⟩ := f.at' b x' hx
    rw [hkeep b hb] at g1
    obtain rfl := Option.some.inj g1
    rcases g2 with ⟨l1, l2, g2, g3⟩ | ⟨_, g2⟩
    · exact ⟨_, g2, rfl, rfl⟩
    · omega
  · rcases hk with hk | ⟨b2, x2, q1, q2, q3, q5, rfl⟩
    · exact .inl hk
    · exact .inr (R.cold b2 x2 q2 q3 q5)
end
def heapO (bs : List (Option Blk)) : Heap := ⟨bs.length, fun b => (bs[b]?).join⟩
def BlksO (E : Env) (h : Heap) (rl : List Nat) (m : Nat) : List Nat → List (Option Blk) → Prop
  | [], [] => True
  | k :: ks, some x :: xs => OneO E h rl m k x ∧ BlksO E h rl m ks xs
  | _ :: ks, none :: xs => BlksO E h rl m ks xs
  | _, _ => False
theorem BlksO.at {E : Env} {rl : List Nat} {m : Nat} {h : Heap} : ∀ {ks : List Nat} {xs : List (Option Blk)}, BlksO E h rl m ks xs → ks.length = xs.length ∧ ∀ (b : Nat) (x : Blk), (xs[b]?).join = some x → ∃ k, ks[b]? = some k ∧ OneO E h rl m k x
  | [], [], _ => ⟨rfl, fun b x hx => by simp at hx⟩
  | k :: ks, some x :: xs, hb => by
    obtain ⟨h1, h2⟩ := hb
    obtain ⟨h3, h4⟩ := BlksO.at h2
    refine ⟨by simp [h3], fun b y hy => ?_⟩
    cases b with
    | zero =>
      obtain rfl : x = y := by simpa using hy
      exact ⟨k, rfl, h1⟩
    | succ b =>
      obtain ⟨k', g1, g2⟩ := h4 b y (by simpa using hy)
      exact ⟨k', by simpa using g1, g2⟩
  | k :: ks, none :: xs, hb => by
    obtain ⟨h3, h4⟩ := BlksO.at (ks := ks) (xs := xs) hb
    refine ⟨by simp [h3], fun b y hy => ?_⟩
    cases b with
    | zero => simp at hy
    | succ b =>
      obtain ⟨k', g1, g2⟩ := h4 b y (by simpa using hy)
      exact ⟨k', by simpa using g1, g2⟩
  | [], _ :: _, hb => hb.elim
  | _ :: _, [], hb => by cases hb
def keysO : List Nat → List (Option Blk) → List Nat
  | k :: ks, some _ :: xs => k :: keysO ks xs
  | _ :: ks, none :: xs => keysO ks xs
  | _, _ => []
theorem keysO_mem : ∀ {ks : List Nat} {xs : List (Option Blk)} {b k : Nat} {x : Blk}, (xs[b]?).join = some x → ks[b]? = some k → k ∈ keysO ks xs
  | [], _, _, _, _, _, h2 => by simp at h2
  | _ :: _, [], _, _, _, h1, _ => by simp at h1
  | k :: ks, some x :: xs, b, _, _, h1, h2 => by
    cases b with
    | zero =>
      obtain rfl : k = _ := by simpa using h2
      exact List.mem_cons_self ..
    | succ b => exact List.mem_cons_of_mem _ (keysO_mem (b := b) (by simpa using h1) (by simpa using h2))
  | k :: ks, none :: xs, b, _, _, h1, h2 => by
    cases b with
    | zero => simp at h1
    | succ b => exact keysO_mem (b := b) (ks := ks) (by simpa using h1) (by simpa using h2)
theorem keysO_nd : ∀ {ks : List Nat} {xs : List (Option Blk)}, (keysO ks xs).Nodup → ∀ (b b' : Nat) (x x' : Blk) (k : Nat), (xs[b]?).join = some x → (xs[b']?).join = some x' → ks[b]? = some k → ks[b']? = some k → b = b'
  | [], _, _, _, _, _, _, _, _, _, h3, _ => by simp at h3
  | _ :: _, [], _, _, _, _, _, _, h1, _, _, _ => by simp at h1
  | k0 :: ks, some x0 :: xs, hnd, b, b', x, x', k, h1, h2, h3, h4 => by
    have hnd : (k0 :: keysO ks xs).Nodup := hnd
    rw [List.nodup_cons] at hnd
    cases b with
    | zero =>
      cases b' with
      | zero => rfl
      | succ b' =>
        exfalso
        obtain rfl : k0 = k := by simpa using h3
        exact hnd.1 (keysO_mem (b := b') (by simpa using h2) (by simpa using h4))
    | succ b =>
      cases b' with
      | zero =>
        exfalso
        obtain rfl : k0 = k := by simpa using h4
        exact hnd.1 (keysO_mem (b := b) (by simpa using h1) (by simpa using h3))
      | succ b' => exact congrArg (· + 1) (keysO_nd hnd.2 b b' x x' k (by simpa using h1) (by simpa using h2) (by simpa using h3) (by simpa using h4))
  | k0 :: ks, none :: xs, hnd, b, b', x, x', k, h1, h2, h3, h4 => by
    cases b with
    | zero => simp at h1
    | succ b =>
      cases b' with
      | zero => simp at h2
      | succ b' => exact congrArg (· + 1) (keysO_nd (ks := ks) (xs := xs) hnd b b' x x' k (by simpa using h1) (by simpa using h2) (by simpa using h3) (by simpa using h4))
theorem FineT.of {E : Env} {h : Heap} {rl : List Nat} {bs : List (Option Blk)} (hnd : (keysO rl bs).Nodup) (hb : BlksO E h rl bs.length rl bs) : FineT E h rl (heapO bs) := ⟨fun b b' x x' k h1 h2 => keysO_nd hnd b b' x x' k h1 h2, hb.at.1, hb.at.2⟩
def SlotsT (E : Env) (h : Heap) (rl : List Nat) (m : Nat) (s : Slots) : List (Nat × Value) → Prop
  | [] => True
  | (d, v) :: r => TV E (h.less rl) rl m (s d) v ∧ SlotsT E h rl m s r
theorem SlotsI.told {E : Env} {h : Heap} {rl : List Nat} {m : Nat} {s : Slots} : ∀ {l : List (Nat × Value)}, SlotsI E h rl m s l → SlotsT E h rl m s l
  | [], _ => trivial
  | (_, _) :: _, ⟨h1, h2⟩ => ⟨h1.tv, SlotsI.told h2⟩
theorem View.ofO {E : Env} {h : Heap} {n : Nat} {L : Nat} {s : Slots} (rl : List Nat) (bs : List (Option Blk)) (l : List (Nat × Value)) (hnd : (keysO rl bs).Nodup) (hk : keepsL L rl = true) (hb : BlksO E h rl bs.length rl bs) (hs : SlotsT E h rl bs.length s l) : View L E n s h (layj l) (heapO bs) := by
  intro hL base μ w a S
  have f := FineT.of hnd hb
  refine ⟨μH h μ rl, ⟨f.rel S.rel, S.base_le, ?_, S.size, S.defers⟩, f.tom hL S.rel hk⟩
  clear hb hk
  induction l with
  | nil => exact fun i => .any _
  | cons p r ih =>
    obtain ⟨d, v⟩ := p
    obtain ⟨h1, h2⟩ := hs
    have ih := ih h2
    intro i
    simp only [layj, upd]
    split
    · rename_i e
      subst e
      exact VRel.toldH S.rel f h1 (S.sl i)
    · exact ih i
def LentO (E : Env) (L : Nat) (v2 : Value) (bs' : List (Option Blk)) (v : Value) (h1 : Heap) : Prop :=
  ∃ rl : List Nat, (keysO rl bs').Nodup ∧ keepsL L rl = true ∧ BlksO E h1 rl bs'.length rl bs' ∧ TV E (h1.less rl) rl bs'.length v v2
def ownO : List (Option Blk) → Bool := fun l => l.all fun x => match x with | some x => x.own | none => true
theorem ownO_at : ∀ {l : List (Option Blk)}, ownO l = true → ∀ (b : Nat) (x : Blk), (heapO l).get b = some x → x.own = true := fun {l} hl b x hx => by
  have h1 : l[b]? = some (some x) := by
    have h0 : (l[b]?).join = some x := hx
    cases e : l[b]? with
    | none => rw [e] at h0; cases h0
    | some y => rw [e] at h0; exact congrArg some h0
  exact List.all_eq_true.1 hl (some x) (List.mem_of_getElem? h1)
theorem SCall.enterO {E : Env} {f : FuncId} {fn : Func} {c : Code} {args : List Value} {bs bs' : List (Option Blk)} {v : Value} (hf : E.funcs f = some fn) (hb : fn.body = some c) (hl : args.length ≤ fn.ntmps) (own : ownO bs = true) (own' : ownO bs' = true) (len : bs.length ≤ bs'.length)
    (hw : Wp bs.length E fn.ntmps c (slots0 args) (heapO bs) (endK E fn (LentO E bs.length v bs'))) : SCall E f args (heapO bs) v (heapO bs') := by
  refine fun ok => ⟨⟨fn, hf, by rw [hb]; rfl⟩, fun μ base w args' R hbase ha => ?_⟩
  refine Calls.mono (enter ok (Nat.le_refl _) hf hb hl hw R hbase ha) fun e w' he => ?_
  obtain ⟨v1, h1, v', μ', ⟨rl, hnd, hk, hbk, htold⟩, rfl, R', t, hv⟩ := he
  have f := FineT.of hnd hbk
  have t2 := t.trans (f.tom t.next R' hk)
  refine ⟨v', μH h1 μ' rl, rfl, f.rel R', ⟨len, t2.mu, t2.back, fun b x hb hx ho => ?_, fun b x _ hb' hx => ?_, t2.mem, t2.ice, t2.icy, t2.iced, t2.below.size, t2.iceY, t2.icedY⟩, t2.below, VRel.toldH R' f htold hv⟩
  · exfalso
    have := ownO_at own b x hx
    rw [ho] at this
    cases this
  · exact ownO_at own' b x hx
theorem WpCall.enterO {E : Env} {f : FuncId} {args : List Value} {h : Heap} {bs bs' : List (Option Blk)} {v : Value} {K : Value → Heap → Prop} (c : SCall E f args (heapO bs) v (heapO bs')) (e : h = heapO bs) (k : K v (heapO bs')) : WpCall E f args h K := by
  subst e
  exact WpCall.by c k
theorem OneO.cells {E : Env} {h : Heap} {rl : List Nat} {m k : Nat} {x : Blk} (old : List Value) (h1 : h.get k = some ⟨x.elem, x.own, old⟩) (h2 : All2 (TC E (h.less rl) rl m) old x.cells) : OneO E h rl m k x := .inl ⟨old, [], by rw [List.append_nil]; exact h1, h2⟩
theorem TC.flats {E : Env} {hR : Heap} {rl : List Nat} {m : Nat} {l : List Value} (hl : l.all flat = true) : All2 (TC E hR rl m) l l := ToldC.tcs (toldC_flat hl)
theorem OneO.flat {E : Env} {h : Heap} {rl : List Nat} {m k : Nat} {x : Blk} (l : List Value) (h1 : h.get k = some ⟨x.elem, x.own, l⟩) (h2 : l = x.cells) (h3 : x.cells.all Fw.flat = true) : OneO E h rl m k x := by
  subst h2
  exact OneO.cells _ h1 (TC.flats h3)
theorem OneO.front {E : Env} {h : Heap} {rl : List Nat} {m k : Nat} {x : Blk} (l l2 : List Value) (h1 : h.get k = some ⟨x.elem, x.own, l⟩) (h2 : l = x.cells ++ l2) (h3 : x.cells.all Fw.flat = true) : OneO E h rl m k x := by
  subst h2
  exact .inl ⟨_, l2, h1, TC.flats h3⟩
theorem OneO.none {E : Env} {h : Heap} {rl : List Nat} {m k : Nat} {e : TypeId} {o : Bool} (l : List Value) (h1 : h.get k = some ⟨e, o, l⟩) : OneO E h rl m k ⟨e, o, []⟩ := .inl ⟨[], l, h1, .nil⟩
theorem OneO.ph {E : Env} {h : Heap} {rl : List Nat} {m k : Nat} {e : TypeId} {o : Bool} (h1 : h.next ≤ k) : OneO E h rl m k ⟨e, o, []⟩ := .inr ⟨rfl, h1⟩
def BlksP (rl : List Nat) (m : Nat) (h : Heap) : List Nat → List (Option Blk) → Prop
  | [], [] => True
  | k :: ks, some x :: xs => (∃ old, h.get k = some ⟨x.elem, x.own, old⟩ ∧ CellsOk rl m old x.cells) ∧ BlksP rl m h ks xs
  | _ :: ks, none :: xs => BlksP rl m h ks xs
  | _, _ => False
theorem BlksP.told {E : Env} {rl : List Nat} {m : Nat} {h : Heap} : ∀ {ks : List Nat} {xs : List (Option Blk)}, BlksP rl m h ks xs → BlksO E h rl m ks xs
  | [], [], _ => trivial
  | k :: ks, some x :: xs, hb => by
    obtain ⟨⟨old, h1, h2, h3⟩, h4⟩ := hb
    refine ⟨OneO.cells old h1 ?_, BlksP.told h4⟩
    rw [h2]
    exact ToldC.tcs (toldC_map h3)
  | k :: ks, none :: xs, hb => BlksP.told (ks := ks) (xs := xs) hb
  | [], _ :: _, hb => hb.elim
  | _ :: _, [], hb => by cases hb
theorem SlotsOk.told {E : Env} {h : Heap} {rl : List Nat} {m : Nat} {s : Slots} : ∀ {l : List (Nat × Value)}, SlotsOk rl m s l → SlotsT E h rl m s l
  | [], _ => trivial
  | (_, _) :: _, ⟨⟨h1, h2⟩, h3⟩ => ⟨.w (.un h1 h2), SlotsOk.told h3⟩
theorem View.ofP {E : Env} {h : Heap} {n : Nat} {L : Nat} {s : Slots} (rl : List Nat) (bs : List (Option Blk)) (l : List (Nat × Value)) (hnd : (keysO rl bs).Nodup) (hk : keepsL L rl = true) (hb : BlksP rl bs.length h rl bs) (hs : SlotsOk rl bs.length s l) : View L E n s h (layj l) (heapO bs) :=
  View.ofO rl bs l hnd hk hb.told hs.told
theorem Wp.mergeH {L : Nat} {E : Env} {n : Nat} {c b : Code} {s : Slots} {h : Heap} {K : AExit → Slots → Heap → Prop} (l : List (Nat × Value)) (tg : Heap) (h1 : Wp L E n c s h (fun x s h => x = .normal ∧ View L E n s h (layj l) tg)) (h2 : Wp L E n b (layj l) tg K) : Wp L E n c s h (thenK (fun s h => Wp L E n b s h K) K) :=
  Wp.mono h1 fun x s h hx => by
    obtain ⟨rfl, v⟩ := hx
    exact Wp.view v h2
theorem heapO_of (l : List Blk) : heapOf l = heapO (l.map some) := by
  show Heap.mk _ _ = Heap.mk _ _
  congr 1
  · simp
  · funext b
    simp
    cases l[b]? <;> rfl
end Go.Fw
