/- Views: blocks forgotten and numbered anew; slots forgotten. -/
import Derived.Test.YtlejgfeoffhjoaaFwSem
namespace Go.Fw
open Go.RowKit
def heapOf (bs : List Blk) : Heap := ⟨bs.length, fun b => bs[b]?⟩
def unA (rl : List Nat) : Addr → Addr
  | ⟨b, o, none⟩ => ⟨rl.getD b 0, o, none⟩
  | a => a
def unC (rl : List Nat) : Value → Value
  | .pointer (some a) => .pointer (some (unA rl a))
  | .slice (some a) n c => .slice (some (unA rl a)) n c
  | v => v
def okC (m : Nat) : Value → Bool
  | .pointer (some ⟨b, _, none⟩) => decide (b < m)
  | .slice (some ⟨b, _, none⟩) _ _ => decide (b < m)
  | .func _ a c => a.toList.isEmpty && c.toList.isEmpty
  | v => flat v
def unV (rl : List Nat) : Value → Value
  | .agg cs => .agg (cs.toList.map (unC rl)).toArray
  | .func fn a c => .func fn (a.toList.map (unC rl)).toArray (c.toList.map (unC rl)).toArray
  | v => unC rl v
def okV (m : Nat) : Value → Bool
  | .agg cs => cs.toList.all (okC m)
  | .tuple vs => vs.toList.isEmpty
  | .func _ a c => a.toList.all (okC m) && c.toList.all (okC m)
  | v => okC m v
def layj : List (Nat × Value) → Slots
  | [] => fun _ => junk
  | (d, v) :: r => upd (layj r) d v
def SlotsOk (rl : List Nat) (m : Nat) (s : Slots) : List (Nat × Value) → Prop
  | [] => True
  | (d, v) :: r => (s d = unV rl v ∧ okV m v = true) ∧ SlotsOk rl m s r
def CellsOk (rl : List Nat) (m : Nat) (old new : List Value) : Prop := old = new.map (unC rl) ∧ new.all (okC m) = true
theorem CellsOk.flat {rl : List Nat} {m : Nat} {l : List Value} (hl : ∀ v ∈ l, Fw.flat v = true) : CellsOk rl m l l := by
  have key : ∀ v, Fw.flat v = true → unC rl v = v ∧ okC m v = true := fun v hv => by
    cases v with
    | pointer a => cases a with
      | none => exact ⟨rfl, rfl⟩
      | some a => cases hv
    | slice a n c => cases a with
      | none => exact ⟨rfl, rfl⟩
      | some a => cases hv
    | func => cases hv
    | _ => exact ⟨rfl, hv⟩
  refine ⟨?_, List.all_eq_true.2 fun v hv => (key v (hl v hv)).2⟩
  induction l with
  | nil => rfl
  | cons v r ih =>
    rw [List.map_cons, (key v (hl v (by simp))).1, ← ih fun v hv => hl v (by simp [hv])]
theorem CellsOk.eq {rl : List Nat} {m : Nat} {l l' : List Value} (he : l' = l) (hl : l.all Fw.flat = true) : CellsOk rl m l' l := by
  subst he
  exact CellsOk.flat fun v hv => List.all_eq_true.1 hl v hv
def BlksOk (rl : List Nat) (m : Nat) (h : Heap) : List Nat → List Blk → Prop
  | [], [] => True
  | k :: ks, x :: xs => (∃ old, h.get k = some ⟨x.elem, x.own, old⟩ ∧ CellsOk rl m old x.cells) ∧ BlksOk rl m h ks xs
  | _, _ => False
theorem BlksOk.at {rl : List Nat} {m : Nat} {h : Heap} : ∀ {ks : List Nat} {xs : List Blk}, BlksOk rl m h ks xs → ks.length = xs.length ∧ ∀ (b : Nat) (x : Blk), xs[b]? = some x → ∃ k old, ks[b]? = some k ∧ h.get k = some ⟨x.elem, x.own, old⟩ ∧ CellsOk rl m old x.cells
  | [], [], _ => ⟨rfl, fun b x hx => by simp at hx⟩
  | k :: ks, x :: xs, hb => by
    obtain ⟨h1, h2⟩ := hb
    obtain ⟨h3, h4⟩ := BlksOk.at h2
    refine ⟨by simp [h3], fun b y hy => ?_⟩
    cases b with
    | zero =>
      simp only [List.getElem?_cons_zero, Option.some.injEq] at hy
      subst hy
      obtain ⟨old, g1, g2⟩ := h1
      exact ⟨k, old, rfl, g1, g2⟩
    | succ b => exact h4 b y (by simpa using hy)
  | [], _ :: _, hb => hb.elim
  | _ :: _, [], hb => hb.elim
section
variable {E : Env} {n base : Nat} {h : Heap} {μ : Place} {H : Mem} {rl : List Nat} {bs : List Blk}
def μOf (μ : Place) (rl : List Nat) : Place := { μ with at' := fun b => μ (rl.getD b 0) }
theorem SRel.view (hb : BlksOk rl bs.length h rl bs) {v v' : Value} (hv : okC bs.length v = true) (r : SRel E h μ H (unC rl v) v') : SRel E (heapOf bs) (μOf μ rl) H v v' := by
  obtain ⟨hlen, hat⟩ := hb.at
  have tr : ∀ {b off c' : Nat} {a' : Addr}, b < bs.length → SliceAt E h μ H (rl.getD b 0) off a' c' → SliceAt E (heapOf bs) (μOf μ rl) H b off a' c' := fun {b off c' a'} hlt ⟨h1, h2, h3⟩ => by
    refine ⟨h1, h2, fun x hx => ?_⟩
    obtain ⟨k, old, g1, g2, _⟩ := hat b x hx
    have : rl.getD b 0 = k := by rw [List.getD_eq_getElem?_getD, g1]; rfl
    rw [this] at h3
    exact h3 ⟨x.elem, x.own, old⟩ g2
  cases v with
  | pointer a => cases a with
    | none => cases r; exact .nilptr
    | some a =>
      obtain ⟨b, o, sp⟩ := a
      cases sp with
      | none =>
        simp only [okC, decide_eq_true_eq] at hv
        cases r with
        | ptr b' off' hb' => exact .ptr b o hv
      | some _ => cases hv
  | slice a n c => cases a with
    | none => cases r; exact .nilslice
    | some a =>
      obtain ⟨b, o, sp⟩ := a
      cases sp with
      | none =>
        simp only [okC, decide_eq_true_eq] at hv
        cases r with
        | slice b' off' n' c' a' cc hb' hn hc hs ha => exact .slice b o n c a' cc hv hn hc hs (ha.imp id (tr hv))
      | some _ => cases hv
  | bool b => cases r; exact .bool b
  | int k i => cases r; exact .int k i
  | string s => cases r; exact .string s
  | map m => cases r; exact .nilmap
  | nilFunc => cases r; exact .nilfunc
  | nilIface => cases r; exact .niliface
  | iface e x => cases r with
    | ice r => exact .ice r
  | func => cases r
  | _ => cases hv
theorem func0 {m : Nat} {h2 : Heap} {μ2 : Place} {fn : Fn} {a c : Array Value} {v' : Value} (hv : okC m (.func fn a c) = true) (r : CRel E h μ H (.func fn a c) v') : CRel E h2 μ2 H (.func fn a c) v' := by
  have h0 : a.toList = [] ∧ c.toList = [] := by simpa [okC] using hv
  have nil : ∀ {l : List Value}, All2 (SRel E h μ H) [] l → l = [] := fun {l} hl => by
    cases l with
    | nil => rfl
    | cons x xs => cases hl
  cases r with
  | s r => cases r
  | func _ h1 h3 =>
    rw [h0.1] at h1
    rw [h0.2] at h3
    refine .func fn ?_ ?_
    · rw [h0.1, nil h1]
      exact .nil
    · rw [h0.2, nil h3]
      exact .nil
theorem CRel.view (hb : BlksOk rl bs.length h rl bs) {v v' : Value} (hv : okC bs.length v = true) (r : CRel E h μ H (unC rl v) v') : CRel E (heapOf bs) (μOf μ rl) H v v' := by
  by_cases hf : ∃ fn a c, v = .func fn a c
  · obtain ⟨fn, a, c, rfl⟩ := hf
    exact func0 hv r
  refine .s (SRel.view hb hv ?_)
  revert r
  generalize hw : unC rl v = w
  intro r
  cases r with
  | s r => exact r
  | func fn a c =>
    exfalso
    cases v with
    | pointer a => cases a <;> cases hw
    | slice a n c => cases a <;> cases hw
    | func => exact hf ⟨_, _, _, rfl⟩
    | _ => cases hw
theorem VRel.view (hb : BlksOk rl bs.length h rl bs) {v v' : Value} (hv : okV bs.length v = true) (r : VRel E h μ H (unV rl v) v') : VRel E (heapOf bs) (μOf μ rl) H v v' := by
  have key : ∀ v, okC bs.length v = true → VRel E h μ H (unC rl v) v' → VRel E (heapOf bs) (μOf μ rl) H v v' := fun v hv r => by
    refine .w (.c (CRel.view hb hv ?_))
    revert r
    generalize hw : unC rl v = w
    intro r
    cases r with
    | w r => cases r with
      | c r => exact r
      | agg =>
        exfalso
        cases v with
        | pointer a => cases a <;> cases hw
        | slice a n c => cases a <;> cases hw
        | agg => cases hv
        | _ => cases hw
    | tuple =>
      exfalso
      cases v with
      | pointer a => cases a <;> cases hw
      | slice a n c => cases a <;> cases hw
      | tuple => cases hv
      | _ => cases hw
    | any =>
      exfalso
      cases v with
      | pointer a => cases a <;> cases hw
      | slice a n c => cases a <;> cases hw
      | chan => cases hv
      | _ => cases hw
  cases v with
  | agg cs =>
    obtain ⟨a', rfl, h1⟩ := r.inv_agg
    refine .w (.agg ?_)
    have hall : cs.toList.all (okC bs.length) = true := hv
    have : ∀ (l m : List Value), l.all (okC bs.length) = true → All2 (CRel E h μ H) (l.map (unC rl)) m → All2 (CRel E (heapOf bs) (μOf μ rl) H) l m := by
      intro l
      induction l with
      | nil => intro m _ hr; cases hr; exact .nil
      | cons v r ih =>
        intro m hl hr
        simp only [List.all_cons, Bool.and_eq_true] at hl
        cases hr with
        | cons h1 h2 => exact .cons (CRel.view hb hl.1 h1) (ih _ hl.2 h2)
    exact this _ _ hall (by simpa using h1)
  | tuple vs =>
    have h0 : vs.toList = [] := by simpa [okV] using hv
    obtain ⟨a', rfl, h1⟩ := VRel.inv_tuple (a := vs) r
    rw [h0] at h1
    refine .tuple ?_
    rw [h0]
    generalize a'.toList = m at h1 ⊢
    cases h1
    exact .nil
  | bool b => exact key _ hv r
  | int k i => exact key _ hv r
  | string s => exact key _ hv r
  | float => cases hv
  | complex => cases hv
  | chan => cases hv
  | func fn a c =>
    have hall : a.toList.all (okC bs.length) = true ∧ c.toList.all (okC bs.length) = true := by
      have h0 : (a.toList.all (okC bs.length) && c.toList.all (okC bs.length)) = true := hv
      rwa [Bool.and_eq_true] at h0
    obtain ⟨a', c', rfl, h1, h2⟩ := r.inv_func
    have : ∀ (l m : List Value), l.all (okC bs.length) = true → All2 (SRel E h μ H) (l.map (unC rl)) m → All2 (SRel E (heapOf bs) (μOf μ rl) H) l m := by
      intro l
      induction l with
      | nil => intro m _ hr; cases hr; exact .nil
      | cons v r ih =>
        intro m hl hr
        simp only [List.all_cons, Bool.and_eq_true] at hl
        cases hr with
        | cons h1 h2 => exact .cons (SRel.view hb hl.1 h1) (ih _ hl.2 h2)
    exact .w (.c (.func fn (this _ _ hall.1 (by simpa using h1)) (this _ _ hall.2 (by simpa using h2))))
  | pointer a => exact key _ hv r
  | slice a n c => exact key _ hv r
  | map m => exact key _ hv r
  | nilFunc => exact key _ hv r
  | nilIface => exact key _ hv r
  | iface e x => exact key _ hv r
theorem layj_rel (hb : BlksOk rl bs.length h rl bs) {s : Slots} {tmps : Array Value} (r : SlotsRel E h μ H s tmps) : ∀ {l : List (Nat × Value)}, SlotsOk rl bs.length s l → SlotsRel E (heapOf bs) (μOf μ rl) H (layj l) tmps
  | [], _ => fun i => .any _
  | (d, v) :: l, hs => by
    obtain ⟨⟨h1, h2⟩, h3⟩ := hs
    have ih := layj_rel hb r h3
    intro i
    simp only [layj, upd]
    split
    · rename_i e
      subst e
      exact VRel.view hb h2 (h1 ▸ r i)
    · exact ih i
def keepsL (L : Nat) (rl : List Nat) : Bool := (List.range L).all fun b => rl[b]? == some b
theorem View.of {L : Nat} {s : Slots} (rl : List Nat) (bs : List Blk) (l : List (Nat × Value)) (hnd : rl.Nodup) (hk : keepsL L rl = true) (hb : BlksOk rl bs.length h rl bs) (hs : SlotsOk rl bs.length s l) : View L E n s h (layj l) (heapOf bs) := by
  intro hL base μ w a S
  obtain ⟨hlen, hat⟩ := hb.at
  have hkeep : ∀ b, b < L → rl[b]? = some b := fun b hb => by
    have := List.all_eq_true.1 hk b (by simpa using hb)
    simpa using this
  have hget : ∀ b x, (heapOf bs).get b = some x → ∃ k old, rl[b]? = some k ∧ rl.getD b 0 = k ∧ h.get k = some ⟨x.elem, x.own, old⟩ ∧ CellsOk rl bs.length old x.cells := fun b x hx => by
    obtain ⟨k, old, g1, g2, g3⟩ := hat b x hx
    exact ⟨k, old, g1, by rw [List.getD_eq_getElem?_getD, g1]; rfl, g2, g3⟩
  refine ⟨μOf μ rl, ⟨⟨fun b x hx => ?_, fun b b' x x' h1 h2 hne ho => ?_, fun b x hx ho => ?_, S.rel.ice⟩, S.base_le, layj_rel hb S.sl hs, S.size, S.defers⟩, ⟨Below.refl _ _, ?_, fun b hb => ?_, fun b x' hb hx => ?_, fun k cs T fr hk => ⟨cs, fr, hk, rfl⟩, fun _ hk => hk, fun _ _ => rfl, fun _ hk => .inl hk, fun _ hk => hk, fun _ hk => .inl hk⟩⟩
  · obtain ⟨k, old, g1, g2, g3, g4, g5⟩ := hget b x hx
    obtain ⟨hlt, cs, fr, hH, hl, hc, hown⟩ := S.rel.blk k _ g3
    have hm : (μOf μ rl).at' b = μ.at' k := by show μ.at' (rl.getD b 0) = _; rw [g2]
    have hbl : b < bs.length := by
      rcases Nat.lt_or_ge b bs.length with h | h
      · exact h
      · have : bs[b]? = some x := hx
        rw [List.getElem?_eq_none h] at this; cases this
    simp only at hl hc hown
    subst g4
    rw [List.length_map] at hl
    refine ⟨hbl, cs, fr, by rw [hm]; exact hH, by rw [hm]; exact hl, fun i v hi => ?_, fun ho => by rw [hm]; exact hown ho⟩
    obtain ⟨v', a1, a2⟩ := hc i (unC rl v) (by rw [List.getElem?_map, hi]; rfl)
    exact ⟨v', by rw [hm]; exact a1, CRel.view hb (List.all_eq_true.1 g5 v (List.mem_of_getElem? hi)) a2⟩
  · obtain ⟨k, old, g1, g2, g3, g4⟩ := hget b x h1
    obtain ⟨k', old', q1, q2, q3, q4⟩ := hget b' x' h2
    have hm : (μOf μ rl).at' b = μ.at' k := by show μ.at' (rl.getD b 0) = _; rw [g2]
    have hm' : (μOf μ rl).at' b' = μ.at' k' := by show μ.at' (rl.getD b' 0) = _; rw [q2]
    rw [hm, hm']
    refine S.rel.inj k k' _ _ g3 q3 (fun e => hne ?_) ho
    subst e
    have hb1 : b < rl.length := (List.getElem?_eq_some_iff.1 g1).1
    exact (List.getElem?_inj hb1 hnd).1 (g1.trans q1.symm)
  · obtain ⟨k, old, g1, g2, g3, g4⟩ := hget b x hx
    have hm : (μOf μ rl).at' b = μ.at' k := by show μ.at' (rl.getD b 0) = _; rw [g2]
    rw [hm]
    exact S.rel.cold k _ g3 ho
  · show L ≤ bs.length
    rw [← hlen]
    rcases Nat.eq_zero_or_pos L with h0 | h0
    · omega
    · have := (List.getElem?_eq_some_iff.1 (hkeep (L - 1) (by omega))).1
      omega
  · have := hkeep b hb
    show μ.at' (rl.getD b 0) = μ.at' b
    rw [List.getD_eq_getElem?_getD, this]
    rfl
  · obtain ⟨k, old, g1, g2, g3, g4⟩ := hget b x' hx
    rw [hkeep b hb] at g1
    obtain rfl := Option.some.inj g1
    exact ⟨_, g3, rfl, rfl⟩
end
end Go.Fw
