/- Memory lent to a call, and views that tell what is not written any more as values. -/
import Derived.Test.YtlejgfeoffhjoaaFwView
namespace Go.Fw
open Go.RowKit
def unB (rl : List Nat) (x : Blk) : Blk := ⟨x.elem, x.own, x.cells.map (unC rl)⟩
def layO (rl : List Nat) : Heap → List Nat → List Blk → Heap
  | h, k :: ks, x :: xs => layO rl (h.set k (some (unB rl x))) ks xs
  | h, [], x :: xs => layO rl (h.alloc (unB rl x)) [] xs
  | h, _, [] => h
def idAt (ks : List Nat) (n i : Nat) : Nat := if i < ks.length then ks.getD i 0 else n + (i - ks.length)
def idsOf (ks : List Nat) (n m : Nat) : List Nat := (List.range m).map (idAt ks n)
theorem idsOf_at {ks : List Nat} {n m i : Nat} (hi : i < m) : (idsOf ks n m).getD i 0 = idAt ks n i := by
  rw [List.getD_eq_getElem?_getD]
  simp [idsOf, hi]
theorem idAt_old {ks : List Nat} {n i : Nat} (hi : i < ks.length) : idAt ks n i = ks.getD i 0 := if_pos hi
theorem idAt_new {ks : List Nat} {n i : Nat} (hi : ks.length ≤ i) : idAt ks n i = n + (i - ks.length) := if_neg (Nat.not_lt.2 hi)
theorem lay_next (rl : List Nat) : ∀ (xs : List Blk) (h : Heap) (ks : List Nat), (layO rl h ks xs).next = h.next + (xs.length - ks.length)
  | [], h, ks => by cases ks <;> simp [layO]
  | x :: xs, h, [] => by
    simp only [layO]
    rw [lay_next rl xs]
    simp only [Heap.next_alloc, List.length_nil, List.length_cons, Nat.sub_zero]
    omega
  | x :: xs, h, k :: ks => by
    simp only [layO]
    rw [lay_next rl xs]
    simp only [Heap.next_set, List.length_cons]
    omega
theorem lay_keep (rl : List Nat) {b : Nat} : ∀ (xs : List Blk) (h : Heap) (ks : List Nat), b < h.next → b ∉ ks → (layO rl h ks xs).get b = h.get b
  | [], h, ks, _, _ => by cases ks <;> simp [layO]
  | x :: xs, h, [], hb, _ => by
    simp only [layO]
    rw [lay_keep rl xs (h.alloc _) _ (by simp only [Heap.next_alloc]; omega) List.not_mem_nil, Heap.get_alloc, if_neg (by omega)]
  | x :: xs, h, k :: ks, hb, hk => by
    simp only [List.mem_cons, not_or] at hk
    simp only [layO]
    rw [lay_keep rl xs (h.set k _) _ hb hk.2, Heap.get_set, if_neg hk.1]
theorem lay_get (rl : List Nat) {y : Blk} : ∀ (xs : List Blk) (h : Heap) (ks : List Nat) (i : Nat), xs[i]? = some y → ks.Nodup → (∀ k ∈ ks, k < h.next) → (layO rl h ks xs).get (idAt ks h.next i) = some (unB rl y)
  | [], h, ks, i, hi, _, _ => by simp at hi
  | x :: xs, h, [], i, hi, _, _ => by
    simp only [layO]
    cases i with
    | zero =>
      simp only [List.getElem?_cons_zero, Option.some.injEq] at hi
      subst hi
      rw [idAt_new (ks := []) (Nat.zero_le _), lay_keep rl xs (h.alloc _) _ (by simp) List.not_mem_nil]
      simp
    | succ i =>
      have := lay_get rl xs (h.alloc (unB rl x)) [] i (by simpa using hi) List.nodup_nil (fun k hk => absurd hk List.not_mem_nil)
      rw [idAt_new (ks := []) (Nat.zero_le _)] at this ⊢
      rw [← this]
      congr 1
      simp only [Heap.next_alloc, List.length_nil]
      omega
  | x :: xs, h, k :: ks, i, hi, hnd, hlt => by
    simp only [layO]
    rw [List.nodup_cons] at hnd
    cases i with
    | zero =>
      simp only [List.getElem?_cons_zero, Option.some.injEq] at hi
      subst hi
      rw [idAt_old (by simp), List.getD_cons_zero, lay_keep rl xs (h.set k _) _ (hlt k (by simp)) hnd.1]
      simp
    | succ i =>
      have := lay_get rl xs (h.set k (some (unB rl x))) ks i (by simpa using hi) hnd.2 (fun k hk => hlt k (by simp [hk]))
      rw [← this]
      congr 1
      simp only [idAt, List.length_cons, Heap.next_set, List.getD_cons_succ]
      split <;> split <;> omega
theorem lay_inv (rl : List Nat) {b : Nat} {x' : Blk} : ∀ (xs : List Blk) (h : Heap) (ks : List Nat), ks.length ≤ xs.length → (layO rl h ks xs).get b = some x' → (∃ i y, xs[i]? = some y ∧ b = idAt ks h.next i ∧ x' = unB rl y) ∨ (h.get b = some x' ∧ b ∉ ks)
  | [], h, ks, hl, hx => by
    obtain rfl : ks = [] := List.eq_nil_of_length_eq_zero (by simpa using hl)
    exact .inr ⟨by simpa [layO] using hx, List.not_mem_nil⟩
  | x :: xs, h, [], _, hx => by
    simp only [layO] at hx
    rcases lay_inv rl xs _ _ (Nat.zero_le _) hx with ⟨i, y, h1, h2, h3⟩ | ⟨h1, h2⟩
    · refine .inl ⟨i + 1, y, by simpa using h1, ?_, h3⟩
      rw [h2, idAt_new (ks := []) (Nat.zero_le _), idAt_new (ks := []) (Nat.zero_le _)]
      simp only [Heap.next_alloc, List.length_nil]
      omega
    · rw [Heap.get_alloc] at h1
      split at h1
      · rename_i e
        exact .inl ⟨0, x, rfl, by rw [e, idAt_new (ks := []) (Nat.zero_le _)]; simp, (Option.some.inj h1).symm⟩
      · exact .inr ⟨h1, h2⟩
  | x :: xs, h, k :: ks, hl, hx => by
    simp only [layO] at hx
    rcases lay_inv rl xs _ _ (by simpa using hl) hx with ⟨i, y, h1, h2, h3⟩ | ⟨h1, h2⟩
    · refine .inl ⟨i + 1, y, by simpa using h1, ?_, h3⟩
      rw [h2]
      simp only [idAt, List.length_cons, Heap.next_set, List.getD_cons_succ]
      split <;> split <;> omega
    · rw [Heap.get_set] at h1
      split at h1
      · rename_i e
        exact .inl ⟨0, x, rfl, by rw [e, idAt_old (by simp)]; rfl, (Option.some.inj h1).symm⟩
      · rename_i e
        exact .inr ⟨h1, by simp only [List.mem_cons, not_or]; exact ⟨e, h2⟩⟩
theorem NRel.monoZ {E : Env} {Z Z' : Nat → Prop} {H : Mem} {v v' : Value} (r : NRel E Z H v v') (hz : ∀ k, Z k → Z' k) : NRel E Z' H v v' := by
  have key : ∀ {l l' : List Value}, All2 (IRel E Z H) l l' → All2 (IRel E Z' H) l l' := fun r => r.mono fun _ _ r => r.mono hz fun _ _ => rfl
  cases r with
  | s r => exact .s (r.mono hz fun _ _ => rfl)
  | agg h1 => exact .agg (key h1)
  | func fn h1 h2 => exact .func fn (key h1) (key h2)
section
variable {E : Env} {h h' : Heap} {μ μ' : Place} {H : Mem} {rl : List Nat} {m : Nat}
structure Up (h : Heap) (μ : Place) (h' : Heap) (μ' : Place) (rl : List Nat) (m : Nat) : Prop where
  lt : ∀ b, b < m → rl.getD b 0 < h'.next
  mu : ∀ b, b < m → μ' (rl.getD b 0) = μ b
  elem : ∀ b x, b < m → h'.get (rl.getD b 0) = some x → ∃ y, h.get b = some y ∧ y.elem = x.elem
  z : ∀ k, μ.Z k → μ'.Z k
theorem SRel.up (u : Up h μ h' μ' rl m) {v v' : Value} (hv : okC m v = true) (r : SRel E h μ H v v') : SRel E h' μ' H (unC rl v) v' := by
  cases r with
  | bool b => exact .bool b
  | int k n => exact .int k n
  | string s => exact .string s
  | nilptr => exact .nilptr
  | ptr b off hb =>
    simp only [okC, decide_eq_true_eq] at hv
    rw [← u.mu b hv]
    exact .ptr _ _ (u.lt b hv)
  | nilslice => exact .nilslice
  | slice b off n c a' c' hb hn hc hs ha =>
    simp only [okC, decide_eq_true_eq] at hv
    refine .slice _ _ n c a' c' (u.lt b hv) hn hc hs (ha.imp id fun ⟨h1, h2, h3⟩ => ⟨by rw [u.mu b hv]; exact h1, by rw [u.mu b hv]; exact h2, fun x hx => ?_⟩)
    obtain ⟨y, hy, he⟩ := u.elem b x hv hx
    obtain ⟨ti, cs, fr, h4, h5, h6⟩ := h3 y hy
    exact ⟨ti, cs, fr, he ▸ h4, he ▸ h5, h6⟩
  | nilmap => exact .nilmap
  | nilfunc => exact .nilfunc
  | niliface => exact .niliface
  | ice r => exact .ice (r.mono u.z fun _ _ => rfl)
theorem CRel.up (u : Up h μ h' μ' rl m) {v v' : Value} (hv : okC m v = true) (r : CRel E h μ H v v') : CRel E h' μ' H (unC rl v) v' := by
  cases r with
  | s r => exact .s (r.up u hv)
  | func fn h1 h2 => exact func0 hv (.func fn h1 h2)
theorem CRel.ups (u : Up h μ h' μ' rl m) : ∀ {l l' : List Value}, l.all (okC m) = true → All2 (CRel E h μ H) l l' → All2 (CRel E h' μ' H) (l.map (unC rl)) l'
  | _, _, _, .nil => .nil
  | _, _, hl, .cons h1 h2 => by
    simp only [List.all_cons, Bool.and_eq_true] at hl
    exact .cons (h1.up u hl.1) (CRel.ups u hl.2 h2)
def unT (rl : List Nat) : Value → Value
  | .tuple vs => .tuple (vs.toList.map (unV rl)).toArray
  | v => unV rl v
def okT (m : Nat) : Value → Bool
  | .tuple vs => vs.toList.all (okV m)
  | v => okV m v
theorem WRel.up (u : Up h μ h' μ' rl m) {v v' : Value} (hv : okV m v = true) (r : WRel E h μ H v v') : WRel E h' μ' H (unV rl v) v' := by
  cases r with
  | agg h1 => exact .agg (by simpa using CRel.ups u hv h1)
  | c r =>
    cases r with
    | s r =>
      have key : okC m v = true → WRel E h' μ' H (unC rl v) v' := fun hv => .c (.s (r.up u hv))
      cases r with
      | ice r => exact key hv
      | _ => exact key hv
    | func fn h1 h2 =>
      rename_i a a' c c'
      have hall : a.toList.all (okC m) = true ∧ c.toList.all (okC m) = true := by
        have h0 : (a.toList.all (okC m) && c.toList.all (okC m)) = true := hv
        rwa [Bool.and_eq_true] at h0
      have key : ∀ {l l' : List Value}, l.all (okC m) = true → All2 (SRel E h μ H) l l' → All2 (SRel E h' μ' H) (l.map (unC rl)) l' := by
        intro l l' hl hr
        induction hr with
        | nil => exact .nil
        | cons h1 _ ih =>
          simp only [List.all_cons, Bool.and_eq_true] at hl
          exact .cons (h1.up u hl.1) (ih hl.2)
      exact .c (.func fn (by simpa using key hall.1 h1) (by simpa using key hall.2 h2))
theorem VRel.up (u : Up h μ h' μ' rl m) {v v' : Value} (hv : okT m v = true) (r : VRel E h μ H v v') : VRel E h' μ' H (unT rl v) v' := by
  cases r with
  | any => cases hv
  | tuple h1 =>
    rename_i a a'
    have key : ∀ {l l' : List Value}, l.all (okV m) = true → All2 (WRel E h μ H) l l' → All2 (WRel E h' μ' H) (l.map (unV rl)) l' := by
      intro l l' hl hr
      induction hr with
      | nil => exact .nil
      | cons h1 _ ih =>
        simp only [List.all_cons, Bool.and_eq_true] at hl
        exact .cons (h1.up u hl.1) (ih hl.2)
    exact .tuple (by simpa using key hv h1)
  | w r =>
    cases r with
    | agg h1 => exact .w (WRel.up u (by exact hv) (.agg h1))
    | c r =>
      cases r with
      | s r =>
        cases r with
        | ice r => exact .w (WRel.up u (by exact hv) (.c (.s (.ice r))))
        | slice b off n c a' c' hb hn hc hs ha => exact .w (WRel.up u (by exact hv) (.c (.s (.slice b off n c a' c' hb hn hc hs ha))))
        | ptr b off hb => exact .w (WRel.up u (by exact hv) (.c (.s (.ptr b off hb))))
        | bool b => exact VRel.bool b
        | int k n => exact VRel.int k n
        | string s => exact VRel.string s
        | nilptr => exact .s .nilptr
        | nilslice => exact .s .nilslice
        | nilmap => exact .s .nilmap
        | nilfunc => exact .s .nilfunc
        | niliface => exact .s .niliface
      | func fn h1 h2 => exact .w (WRel.up u (by exact hv) (.c (.func fn h1 h2)))
end
def Heap.less (h : Heap) (rl : List Nat) : Heap := ⟨h.next, fun b => if rl.contains b = true then Option.none else h.get b⟩
def ToldC (E : Env) (hR : Heap) (rl : List Nat) (m : Nat) (o n : Value) : Prop := (o = unC rl n ∧ okC m n = true) ∨ ∃ u, iceC E hR 4 o = some u ∧ NilC E u n
inductive ToldW (E : Env) (hR : Heap) (rl : List Nat) (m : Nat) (o n : Value) : Prop
  | un : o = unV rl n → okV m n = true → ToldW E hR rl m o n
  | ice (u : Value) : iceW E hR o = some u → NilW E u n → ToldW E hR rl m o n
  | agg (a b : Array Value) : o = .agg a → n = .agg b → All2 (ToldC E hR rl m) a.toList b.toList → ToldW E hR rl m o n
inductive ToldV (E : Env) (hR : Heap) (rl : List Nat) (m : Nat) (o n : Value) : Prop
  | w : ToldW E hR rl m o n → ToldV E hR rl m o n
  | tuple (a b : Array Value) : o = .tuple a → n = .tuple b → All2 (ToldW E hR rl m) a.toList b.toList → ToldV E hR rl m o n
def BlksI (E : Env) (h : Heap) (rl : List Nat) (m : Nat) : List Nat → List Blk → Prop
  | [], [] => True
  | k :: ks, x :: xs => (∃ old, h.get k = some ⟨x.elem, x.own, old⟩ ∧ All2 (ToldC E (h.less rl) rl m) old x.cells) ∧ BlksI E h rl m ks xs
  | _, _ => False
theorem BlksI.at {E : Env} {rl : List Nat} {m : Nat} {h : Heap} : ∀ {ks : List Nat} {xs : List Blk}, BlksI E h rl m ks xs → ks.length = xs.length ∧ ∀ (b : Nat) (x : Blk), xs[b]? = some x → ∃ k old, ks[b]? = some k ∧ h.get k = some ⟨x.elem, x.own, old⟩ ∧ All2 (ToldC E (h.less rl) rl m) old x.cells
  | [], [], _ => ⟨rfl, fun b x hx => by simp at hx⟩
  | k :: ks, x :: xs, hb => by
    obtain ⟨h1, h2⟩ := hb
    obtain ⟨h3, h4⟩ := BlksI.at h2
    refine ⟨by simp [h3], fun b y hy => ?_⟩
    cases b with
    | zero =>
      simp only [List.getElem?_cons_zero, Option.some.injEq] at hy
      subst hy
      obtain ⟨old, g1, g2⟩ := h1
      exact ⟨k, old, rfl, g1, g2⟩
    | succ b => exact h4 b y (by simpa using hy)
  | [], _ :: _, hb => hb.elim
  | _ :: _, [], hb => hb.elim
def SlotsI (E : Env) (h : Heap) (rl : List Nat) (m : Nat) (s : Slots) : List (Nat × Value) → Prop
  | [] => True
  | (d, v) :: r => ToldV E (h.less rl) rl m (s d) v ∧ SlotsI E h rl m s r
section
variable {E : Env} {h : Heap} {μ : Place} {H : Mem} {base : Nat} {rl : List Nat} {bs : List Blk}
def iceZ (h : Heap) (μ : Place) (rl : List Nat) (k : Nat) : Prop := μ.Z k ∨ ∃ b x, rl.contains b = false ∧ h.get b = some x ∧ x.own = true ∧ (μ b).1 = k
def μIce (h : Heap) (μ : Place) (rl : List Nat) : Place := ⟨fun b => μ (rl.getD b 0), iceZ h μ rl, fun k => μ.Y k ∨ iceZ h μ rl k, fun _ hk => .inr hk⟩
theorem less_get {b : Nat} {x : Blk} (hx : (h.less rl).get b = some x) : rl.contains b = false ∧ h.get b = some x := by
  simp only [Heap.less] at hx
  split at hx
  · cases hx
  · rename_i hc
    exact ⟨by simpa using hc, hx⟩
theorem Ext0.less : Ext0 h μ H (h.less rl) μ H := ⟨Nat.le_refl _, fun _ _ => rfl, fun _ x' _ hx => ⟨x', (less_get hx).2, rfl⟩, fun _ cs _ fr hk => ⟨cs, fr, hk, rfl⟩, fun _ h => h, fun _ _ => rfl⟩
theorem Rel.less (R : Rel E h μ H base) (rl : List Nat) : Rel E (h.less rl) μ H base := by
  refine ⟨fun b x hx => ?_, fun b b' x x' h1 h2 => R.inj b b' x x' (less_get h1).2 (less_get h2).2, fun b x hx => R.cold b x (less_get hx).2, R.ice⟩
  obtain ⟨hlt, cs, fr, hH, hl, hc, hown⟩ := R.blk b x (less_get hx).2
  exact ⟨hlt, cs, fr, hH, hl, fun i v hi => let ⟨v', a1, a2⟩ := hc i v hi; ⟨v', a1, a2.mono0 Ext0.less⟩, hown⟩
structure Fine (E : Env) (h : Heap) (rl : List Nat) (bs : List Blk) : Prop where
  nd : rl.Nodup
  len : rl.length = bs.length
  at' : ∀ (b : Nat) (x : Blk), bs[b]? = some x → ∃ (k : Nat) (old : List Value), rl[b]? = some k ∧ h.get k = some ⟨x.elem, x.own, old⟩ ∧ All2 (ToldC E (h.less rl) rl bs.length) old x.cells
theorem Fine.getD (f : Fine E h rl bs) {b : Nat} (hb : b < bs.length) : ∃ k x old, rl[b]? = some k ∧ rl.getD b 0 = k ∧ bs[b]? = some x ∧ h.get k = some ⟨x.elem, x.own, old⟩ := by
  obtain ⟨k, old, h1, h2, _⟩ := f.at' b bs[b] (List.getElem?_eq_getElem hb)
  exact ⟨k, _, old, h1, by rw [List.getD_eq_getElem?_getD, h1]; rfl, List.getElem?_eq_getElem hb, h2⟩
theorem SRel.toldU (f : Fine E h rl bs) {v v' : Value} (hv : okC bs.length v = true) (r : SRel E h μ H (unC rl v) v') : SRel E (heapOf bs) (μIce h μ rl) H v v' := by
  have tr : ∀ {b off c' : Nat} {a' : Addr}, SliceAt E h μ H (rl.getD b 0) off a' c' → SliceAt E (heapOf bs) (μIce h μ rl) H b off a' c' := fun {b _ _ _} ⟨h1, h2, h3⟩ => by
    refine ⟨h1, h2, fun x hx => ?_⟩
    obtain ⟨k, old, g1, g2, _⟩ := f.at' b x hx
    have : rl.getD b 0 = k := by rw [List.getD_eq_getElem?_getD, g1]; rfl
    rw [this] at h3
    exact h3 ⟨x.elem, x.own, old⟩ g2
  cases v with
  | pointer a => cases a with
    | none => cases r; exact .nilptr
    | some a =>
      obtain ⟨b, o, sp⟩ := a
      cases sp with
      | none =>
        simp only [okC, decide_eq_true_eq] at hv
        cases r with
        | ptr b' off' hb' => exact .ptr b o hv
      | some _ => cases hv
  | slice a n c => cases a with
    | none => cases r; exact .nilslice
    | some a =>
      obtain ⟨b, o, sp⟩ := a
      cases sp with
      | none =>
        simp only [okC, decide_eq_true_eq] at hv
        cases r with
        | slice b' off' n' c' a' cc hb' hn hc hs ha => exact .slice b o n c a' cc hv hn hc hs (ha.imp id tr)
      | some _ => cases hv
  | bool b => cases r; exact .bool b
  | int k i => cases r; exact .int k i
  | string s => cases r; exact .string s
  | map m => cases r; exact .nilmap
  | nilFunc => cases r; exact .nilfunc
  | nilIface => cases r; exact .niliface
  | iface e x => cases r with
    | ice r => exact .ice (r.mono (fun k hk => .inl hk) fun _ _ => rfl)
  | func => cases r
  | _ => cases hv
theorem CRel.toldU (f : Fine E h rl bs) {v v' : Value} (hv : okC bs.length v = true) (r : CRel E h μ H (unC rl v) v') : CRel E (heapOf bs) (μIce h μ rl) H v v' := by
  by_cases hf : ∃ fn a c, v = .func fn a c
  · obtain ⟨fn, a, c, rfl⟩ := hf
    exact func0 hv r
  refine .s (SRel.toldU f hv ?_)
  revert r
  generalize hw : unC rl v = w
  intro r
  cases r with
  | s r => exact r
  | func fn a c =>
    exfalso
    cases v with
    | pointer a => cases a <;> cases hw
    | slice a n c => cases a <;> cases hw
    | func => exact hf ⟨_, _, _, rfl⟩
    | _ => cases hw
theorem CRel.told (R : Rel E h μ H base) (f : Fine E h rl bs) {v n v' : Value} (ht : ToldC E (h.less rl) rl bs.length v n) (r : CRel E h μ H v v') : CRel E (heapOf bs) (μIce h μ rl) H n v' := by
  rcases ht with ⟨rfl, hv⟩ | ⟨u, h1, h2⟩
  · exact CRel.toldU f hv r
  · have := iceC_rel (R.less rl) (Z' := iceZ h μ rl) (fun k hk => .inl hk) (fun b x hx ho => .inr ⟨b, x, (less_get hx).1, (less_get hx).2, ho, rfl⟩) 4 h1 (r.mono0 Ext0.less)
    exact CRel.nilC h2 (.s (IRel.toS (μ := μIce h μ rl) this))
theorem WRel.told (R : Rel E h μ H base) (f : Fine E h rl bs) {v n v' : Value} (ht : ToldW E (h.less rl) rl bs.length v n) (r : WRel E h μ H v v') : WRel E (heapOf bs) (μIce h μ rl) H n v' := by
  cases ht with
  | ice u h1 h2 =>
    have := iceW_rel (R.less rl) (Z' := iceZ h μ rl) (fun k hk => .inl hk) (fun b x hx ho => .inr ⟨b, x, (less_get hx).1, (less_get hx).2, ho, rfl⟩) h1 (r.mono0 Ext0.less)
    exact WRel.nilW h2 (NRel.toW (μ := μIce h μ rl) this)
  | agg a b e1 e2 h1 =>
    subst e1 e2
    cases r with
    | agg r => exact .agg (All2.trans' (R := CRel E h μ H) (S := ToldC E (h.less rl) rl bs.length) (T := CRel E (heapOf bs) (μIce h μ rl) H) (fun _ _ _ r n => CRel.told R f n r) r h1)
    | c r => cases r with
      | s r => cases r
  | un e hv =>
    subst e
    have key : ∀ n, okC bs.length n = true → WRel E h μ H (unC rl n) v' → WRel E (heapOf bs) (μIce h μ rl) H n v' := fun n hn r => by
      refine .c (CRel.toldU f hn ?_)
      revert r
      generalize hw : unC rl n = w
      intro r
      cases r with
      | c r => exact r
      | agg =>
        exfalso
        cases n with
        | pointer a => cases a <;> cases hw
        | slice a n c => cases a <;> cases hw
        | agg => cases hn
        | _ => cases hw
    cases n with
    | agg cs =>
      cases r with
      | agg r =>
        rename_i a'
        refine .agg ?_
        have hall : cs.toList.all (okC bs.length) = true := hv
        have : ∀ (l m : List Value), l.all (okC bs.length) = true → All2 (CRel E h μ H) (l.map (unC rl)) m → All2 (CRel E (heapOf bs) (μIce h μ rl) H) l m := by
          intro l
          induction l with
          | nil => intro m _ hr; cases hr; exact .nil
          | cons v r ih =>
            intro m hl hr
            simp only [List.all_cons, Bool.and_eq_true] at hl
            cases hr with
            | cons h1 h2 => exact .cons (CRel.toldU f hl.1 h1) (ih _ hl.2 h2)
        exact this _ _ hall (by simpa using r)
      | c r => cases r with
        | s r => cases r
    | tuple vs =>
      exfalso
      cases r with
      | c r => cases r with
        | s r => cases r
    | func fn a c =>
      have hall : a.toList.all (okC bs.length) = true ∧ c.toList.all (okC bs.length) = true := by
        have h0 : (a.toList.all (okC bs.length) && c.toList.all (okC bs.length)) = true := hv
        rwa [Bool.and_eq_true] at h0
      obtain ⟨a', c', rfl, h1, h2⟩ := VRel.inv_func (.w r)
      have key2 : ∀ (l m : List Value), l.all (okC bs.length) = true → All2 (SRel E h μ H) (l.map (unC rl)) m → All2 (SRel E (heapOf bs) (μIce h μ rl) H) l m := by
        intro l
        induction l with
        | nil => intro m _ hr; cases hr; exact .nil
        | cons v r ih =>
          intro m hl hr
          simp only [List.all_cons, Bool.and_eq_true] at hl
          cases hr with
          | cons h1 h2 => exact .cons (SRel.toldU f hl.1 h1) (ih _ hl.2 h2)
      exact .c (.func fn (key2 _ _ hall.1 (by simpa using h1)) (key2 _ _ hall.2 (by simpa using h2)))
    | float => cases hv
    | complex => cases hv
    | chan => cases hv
    | bool b => exact key _ hv r
    | int k i => exact key _ hv r
    | string s => exact key _ hv r
    | pointer a => exact key _ hv r
    | slice a n c => exact key _ hv r
    | map m => exact key _ hv r
    | nilFunc => exact key _ hv r
    | nilIface => exact key _ hv r
    | iface e x => exact key _ hv r
theorem VRel.told (R : Rel E h μ H base) (f : Fine E h rl bs) {v n v' : Value} (ht : ToldV E (h.less rl) rl bs.length v n) (r : VRel E h μ H v v') : VRel E (heapOf bs) (μIce h μ rl) H n v' := by
  cases ht with
  | tuple a b e1 e2 h1 =>
    subst e1 e2
    obtain ⟨a', rfl, h2⟩ := r.inv_tuple
    exact .tuple (All2.trans' (R := WRel E h μ H) (S := ToldW E (h.less rl) rl bs.length) (T := WRel E (heapOf bs) (μIce h μ rl) H) (fun _ _ _ r n => WRel.told R f n r) h2 h1)
  | w ht =>
    have key : WRel E h μ H v v' → VRel E (heapOf bs) (μIce h μ rl) H n v' := fun r => .w (WRel.told R f ht r)
    cases r with
    | w r => exact key r
    | tuple r =>
      rename_i a a'
      cases ht with
      | ice u h1 h2 => simp [iceW, iceC, flat] at h1
      | agg a b e1 => cases e1
      | un e hv =>
        cases n with
        | pointer a => cases a <;> cases e
        | slice a n c => cases a <;> cases e
        | agg => cases e
        | tuple vs =>
          have h0 : vs.toList = [] := by simpa [okV] using hv
          obtain rfl : a = vs := by injection e
          rw [h0] at r
          refine .tuple ?_
          rw [h0]
          generalize a'.toList = m at r ⊢
          cases r
          exact .nil
        | _ => cases e
    | any =>
      exfalso
      cases ht with
      | ice u h1 h2 => simp [junk, iceW, iceC, flat] at h1
      | agg a b e1 => cases e1
      | un e hv =>
        cases n with
        | pointer a => cases a <;> cases e
        | slice a n c => cases a <;> cases e
        | agg => cases e
        | chan => cases hv
        | _ => cases e
theorem Fine.of (hnd : rl.Nodup) (hb : BlksI E h rl bs.length rl bs) : Fine E h rl bs := ⟨hnd, hb.at.1, hb.at.2⟩
theorem Fine.rel (R : Rel E h μ H base) (f : Fine E h rl bs) : Rel E (heapOf bs) (μIce h μ rl) H base := by
  have cold : ∀ (b : Nat) (x : Blk), bs[b]? = some x → x.own = true → ¬ (μ.Y (μ (rl.getD b 0)).1 ∨ iceZ h μ rl (μ (rl.getD b 0)).1) := fun b x hx ho hY => by
    obtain ⟨k, old, g1, g2, g3⟩ := f.at' b x hx
    have e : rl.getD b 0 = k := by rw [List.getD_eq_getElem?_getD, g1]; rfl
    rw [e] at hY
    have c := R.cold k _ g2 ho
    rcases hY with hY | hY | ⟨b2, x2, q1, q2, q3, q4⟩
    · exact c hY
    · exact c (μ.zy _ hY)
    · refine R.inj b2 k x2 _ q2 g2 (fun e => ?_) q3 q4
      subst e
      have : b2 ∈ rl := List.mem_of_getElem? g1
      simp [this] at q1
  refine ⟨fun b x hx => ?_, fun b b' x x' h1 h2 hne ho => ?_, fun b x hx ho => cold b x hx ho, fun k hk => ?_⟩
  · obtain ⟨k, old, g1, g3, g4⟩ := f.at' b x hx
    have e : rl.getD b 0 = k := by rw [List.getD_eq_getElem?_getD, g1]; rfl
    obtain ⟨hlt, cs, fr, hH, hl, hc, hown⟩ := R.blk k _ g3
    have hm : (μIce h μ rl).at' b = μ.at' k := by show μ.at' (rl.getD b 0) = _; rw [e]
    have hbl : b < bs.length := by
      rcases Nat.lt_or_ge b bs.length with h | h
      · exact h
      · have : bs[b]? = some x := hx
        rw [List.getElem?_eq_none h] at this; cases this
    simp only at hl hc hown
    refine ⟨hbl, cs, fr, by rw [hm]; exact hH, by rw [hm, ← g4.length]; exact hl, fun i v hi => ?_, fun ho => by rw [hm]; exact hown ho⟩
    obtain ⟨vo, e1⟩ : ∃ vo, old[i]? = some vo := by
      have : i < old.length := by rw [g4.length]; exact (List.getElem?_eq_some_iff.1 hi).1
      exact ⟨_, List.getElem?_eq_getElem this⟩
    obtain ⟨v2, e2, e3⟩ := g4.get e1
    rw [hi] at e2
    obtain rfl := Option.some.inj e2
    obtain ⟨v', a1, a2⟩ := hc i vo e1
    exact ⟨v', by rw [hm]; exact a1, CRel.told R f e3 a2⟩
  · obtain ⟨k, old, g1, g3, g4⟩ := f.at' b x h1
    obtain ⟨k', old', q1, q3, q4⟩ := f.at' b' x' h2
    have e : rl.getD b 0 = k := by rw [List.getD_eq_getElem?_getD, g1]; rfl
    have e' : rl.getD b' 0 = k' := by rw [List.getD_eq_getElem?_getD, q1]; rfl
    show (μ (rl.getD b 0)).1 ≠ (μ (rl.getD b' 0)).1
    rw [e, e']
    refine R.inj k k' _ _ g3 q3 (fun e => hne ?_) ho
    subst e
    exact (List.getElem?_inj (List.getElem?_eq_some_iff.1 g1).1 f.nd).1 (g1.trans q1.symm)
  · rcases hk with hk | hk | ⟨b2, x2, q1, q2, q3, rfl⟩
    · exact R.ice k hk
    · exact R.ice k (μ.zy _ hk)
    · obtain ⟨_, cs, fr, hH, _⟩ := R.blk b2 x2 q2
      rcases Nat.lt_or_ge (μ b2).1 H.size with h | h
      · exact h
      · rw [Array.getElem?_eq_none h] at hH; cases hH
theorem Fine.tom {L : Nat} {w : World} (R : Rel E h μ w.heap base) (f : Fine E h rl bs) (hk : keepsL L rl = true) : Tom L base h μ w (heapOf bs) (μIce h μ rl) w := by
  have hkeep : ∀ b, b < L → rl[b]? = some b := fun b hb => by
    have := List.all_eq_true.1 hk b (by simpa using hb)
    simpa using this
  refine ⟨Below.refl _ _, ?_, fun b hb => ?_, fun b x' hb hx => ?_, fun k cs T fr hk => ⟨cs, fr, hk, rfl⟩, fun _ hk => .inl hk, fun _ _ => rfl, fun k hk => ?_, fun _ hk => .inl hk, fun k hk => hk⟩
  · show L ≤ bs.length
    rw [← f.len]
    rcases Nat.eq_zero_or_pos L with h0 | h0
    · omega
    · have := (List.getElem?_eq_some_iff.1 (hkeep (L - 1) (by omega))).1
      omega
  · have := hkeep b hb
    show μ.at' (rl.getD b 0) = μ.at' b
    rw [List.getD_eq_getElem?_getD, this]
    rfl
  · obtain ⟨k, old, g1, g3, g4⟩ := f.at' b x' hx
    rw [hkeep b hb] at g1
    obtain rfl := Option.some.inj g1
    exact ⟨_, g3, rfl, rfl⟩
  · rcases hk with hk | ⟨b2, x2, q1, q2, q3, rfl⟩
    · exact .inl hk
    · exact .inr (R.cold b2 x2 q2 q3)
theorem View.ofI {n : Nat} {L : Nat} {s : Slots} (rl : List Nat) (bs : List Blk) (l : List (Nat × Value)) (hnd : rl.Nodup) (hk : keepsL L rl = true) (hb : BlksI E h rl bs.length rl bs) (hs : SlotsI E h rl bs.length s l) : View L E n s h (layj l) (heapOf bs) := by
  intro _ base μ w a S
  have f := Fine.of hnd hb
  refine ⟨μIce h μ rl, ⟨f.rel S.rel, S.base_le, ?_, S.size, S.defers⟩, f.tom S.rel hk⟩
  clear hb hk
  induction l with
  | nil => exact fun i => .any _
  | cons p r ih =>
    obtain ⟨d, v⟩ := p
    obtain ⟨h1, h2⟩ := hs
    have ih := ih h2
    intro i
    simp only [layj, upd]
    split
    · rename_i e
      subst e
      exact VRel.told S.rel f h1 (S.sl i)
    · exact ih i
end
structure Lent (E : Env) (f : FuncId) (args : List Value) (bs : List Blk) (v : Value) (bs' : List Blk) : Prop where
  call : SCall E f args (heapOf bs) v (heapOf bs')
  own : bs.all (·.own) = true
  own' : bs'.all (·.own) = true
  len : bs.length ≤ bs'.length
  args : args.all (okV bs.length) = true
  cells : bs'.all (fun x => x.cells.all (okC bs'.length)) = true
  res : okT bs'.length v = true
def LentEnd (E : Env) (L : Nat) (v2 : Value) (bs' : List Blk) (v : Value) (h1 : Heap) : Prop :=
  ∃ rl : List Nat, rl.Nodup ∧ keepsL L rl = true ∧ BlksI E h1 rl bs'.length rl bs' ∧ ToldV E (h1.less rl) rl bs'.length v v2
theorem Lent.of {E : Env} {f : FuncId} {fn : Func} {c : Code} {args : List Value} {bs bs' : List Blk} {v : Value} (hf : E.funcs f = some fn) (hb : fn.body = some c) (hl : args.length ≤ fn.ntmps) (own : bs.all (·.own) = true) (own' : bs'.all (·.own) = true) (len : bs.length ≤ bs'.length) (hargs : args.all (okV bs.length) = true) (cells : bs'.all (fun x => x.cells.all (okC bs'.length)) = true) (res : okT bs'.length v = true)
    (hw : Wp bs.length E fn.ntmps c (slots0 args) (heapOf bs) (endK E fn (LentEnd E bs.length v bs'))) : Lent E f args bs v bs' := by
  refine ⟨fun ok => ⟨⟨fn, hf, by rw [hb]; rfl⟩, fun μ base w args' R hbase ha => ?_⟩, own, own', len, hargs, cells, res⟩
  refine Calls.mono (enter ok (Nat.le_refl _) hf hb hl hw R hbase ha) fun e w' he => ?_
  obtain ⟨v1, h1, v', μ', ⟨rl, hnd, hk, hbk, htold⟩, rfl, R', t, hv⟩ := he
  have f := Fine.of hnd hbk
  have t2 := t.trans (f.tom R' hk)
  refine ⟨v', μIce h1 μ' rl, rfl, f.rel R', ⟨len, t2.mu, t2.back, fun b x hb hx ho => ?_, fun b x _ hb' hx => ?_, t2.mem, t2.ice, t2.icy, t2.iced, t2.below.size, t2.iceY, t2.icedY⟩, t2.below, VRel.told R' f htold hv⟩
  · exfalso
    have := List.all_eq_true.1 own x (List.mem_of_getElem? hx)
    rw [ho] at this
    cases this
  · exact List.all_eq_true.1 own' x (List.mem_of_getElem? hx)
theorem SCall.lend {E : Env} {f : FuncId} {args args0 : List Value} {h : Heap} {bs bs' : List Blk} {v : Value} (rl : List Nat) (c : Lent E f args0 bs v bs') (hnd : rl.Nodup) (hb : BlksOk rl bs.length h rl bs) (ha : args = args0.map (unV rl)) :
    SCall E f args h (unT (idsOf rl h.next bs'.length) v) (layO (idsOf rl h.next bs'.length) h rl bs') := by
  intro ok
  obtain ⟨hf, hc⟩ := c.call ok
  refine ⟨hf, fun μ base w args' R hbase har => ?_⟩
  obtain ⟨hlen, hat⟩ := hb.at
  have own : ∀ (b : Nat) (x : Blk), bs[b]? = some x → x.own = true := fun b x hx => List.all_eq_true.1 c.own x (List.mem_of_getElem? hx)
  have own' : ∀ (b : Nat) (x : Blk), bs'[b]? = some x → x.own = true := fun b x hx => List.all_eq_true.1 c.own' x (List.mem_of_getElem? hx)
  have inb : ∀ (k : Nat) o, w.heap[k]? = some o → k < w.heap.size := fun k o hk => by
    rcases Nat.lt_or_ge k w.heap.size with h | h
    · exact h
    · rw [Array.getElem?_eq_none h] at hk; cases hk
  have hgetD : ∀ (b k : Nat), rl[b]? = some k → rl.getD b 0 = k := fun b k e => by rw [List.getD_eq_getElem?_getD, e]; rfl
  have hrl : ∀ k ∈ rl, ∃ (b : Nat) (x : Blk) (old : List Value), rl[b]? = some k ∧ bs[b]? = some x ∧ h.get k = some ⟨x.elem, x.own, old⟩ ∧ k < h.next := fun k hk => by
    obtain ⟨b, hb2, e⟩ := List.getElem_of_mem hk
    have hb3 : b < bs.length := by omega
    obtain ⟨k', old, g1, g2, _⟩ := hat b bs[b] (List.getElem?_eq_getElem hb3)
    rw [List.getElem?_eq_getElem hb2, e] at g1
    obtain rfl := Option.some.inj g1
    exact ⟨b, bs[b], old, by rw [List.getElem?_eq_getElem hb2, e], List.getElem?_eq_getElem hb3, g2, (R.blk k _ g2).1⟩
  let Y1 : Nat → Prop := fun k => μ.Y k ∨ (k < w.heap.size ∧ ∀ b ∈ rl, (μ b).1 ≠ k)
  let μ1 : Place := ⟨fun b => μ (rl.getD b 0), μ.Z, Y1, fun k hk => .inl (μ.zy k hk)⟩
  have S1 : ∀ {v v' : Value}, okV bs.length v = true → VRel E h μ w.heap (unV rl v) v' → VRel E (heapOf bs) μ1 w.heap v v' := fun hv r => by
    have := VRel.view hb hv r
    exact this.mono0 (h := heapOf bs) (μ := μOf μ rl) (h' := heapOf bs) (μ' := μ1) ⟨Nat.le_refl _, fun _ _ => rfl, fun _ x' _ hx => ⟨x', hx, rfl⟩, fun _ cs _ fr hk => ⟨cs, fr, hk, rfl⟩, fun _ h => h, fun _ _ => rfl⟩
  have C1 : ∀ {v v' : Value}, okC bs.length v = true → CRel E h μ w.heap (unC rl v) v' → CRel E (heapOf bs) μ1 w.heap v v' := fun hv r => by
    have := CRel.view hb hv r
    exact this.mono0 (h := heapOf bs) (μ := μOf μ rl) (h' := heapOf bs) (μ' := μ1) ⟨Nat.le_refl _, fun _ _ => rfl, fun _ x' _ hx => ⟨x', hx, rfl⟩, fun _ cs _ fr hk => ⟨cs, fr, hk, rfl⟩, fun _ h => h, fun _ _ => rfl⟩
  have R1 : Rel E (heapOf bs) μ1 w.heap base := by
    refine ⟨fun b x hx => ?_, fun b b' x x' h1 h2 hne ho => ?_, fun b x hx ho hY => ?_, fun k hk => hk.elim (R.ice k) fun h => h.1⟩
    · obtain ⟨k, old, g1, g3, g4, g5⟩ := hat b x hx
      obtain ⟨hlt, cs, fr, hH, hl, hcc, hown⟩ := R.blk k _ g3
      have hm : μ1.at' b = μ.at' k := by show μ.at' (rl.getD b 0) = _; rw [hgetD b k g1]
      have hbl : b < bs.length := (List.getElem?_eq_some_iff.1 hx).1
      simp only at hl hcc hown
      subst g4
      rw [List.length_map] at hl
      refine ⟨hbl, cs, fr, by rw [hm]; exact hH, by rw [hm]; exact hl, fun i v hi => ?_, fun ho => by rw [hm]; exact hown ho⟩
      obtain ⟨v', a1, a2⟩ := hcc i (unC rl v) (by rw [List.getElem?_map, hi]; rfl)
      exact ⟨v', by rw [hm]; exact a1, C1 (List.all_eq_true.1 g5 v (List.mem_of_getElem? hi)) a2⟩
    · obtain ⟨k, old, g1, g3, g4⟩ := hat b x h1
      obtain ⟨k', old', q1, q3, q4⟩ := hat b' x' h2
      show (μ (rl.getD b 0)).1 ≠ (μ (rl.getD b' 0)).1
      rw [hgetD b k g1, hgetD b' k' q1]
      refine R.inj k k' _ _ g3 q3 (fun e => hne ?_) ho
      subst e
      exact (List.getElem?_inj (List.getElem?_eq_some_iff.1 g1).1 hnd).1 (g1.trans q1.symm)
    · obtain ⟨k, old, g1, g3, g4⟩ := hat b x hx
      have hY : Y1 (μ (rl.getD b 0)).1 := hY
      rw [hgetD b k g1] at hY
      rcases hY with hY | hY
      · exact R.cold k _ g3 ho hY
      · exact hY.2 k (List.mem_of_getElem? g1) rfl
  have A1 : All2 (VRel E (heapOf bs) μ1 w.heap) args0 args'.toList := by
    subst ha
    have : ∀ {l m : List Value}, l.all (okV bs.length) = true → All2 (VRel E h μ w.heap) (l.map (unV rl)) m → All2 (VRel E (heapOf bs) μ1 w.heap) l m := by
      intro l
      induction l with
      | nil => intro m _ hr; cases hr; exact .nil
      | cons v r ih =>
        intro m hl hr
        simp only [List.all_cons, Bool.and_eq_true] at hl
        cases hr with
        | cons h1 h2 => exact .cons (S1 hl.1 h1) (ih hl.2 h2)
    exact this c.args har
  refine Calls.mono (hc μ1 base w args' R1 hbase A1) fun e w' he => ?_
  obtain ⟨v', μ2, rfl, R2, ex, bl, hv⟩ := he
  have len := c.len
  generalize hids : idsOf rl h.next bs'.length = ids
  have hid : ∀ i, i < bs'.length → ids.getD i 0 = idAt rl h.next i := fun i hi => by rw [← hids]; exact idsOf_at hi
  let h2 := layO ids h rl bs'
  have hn2 : h2.next = h.next + (bs'.length - bs.length) := by
    have := lay_next ids bs' h rl
    rw [hlen] at this
    exact this
  let μ3 : Place := ⟨fun b => if b < h.next then μ b else μ2 (bs.length + (b - h.next)), μ2.Z, fun k => μ.Y k ∨ μ2.Z k, fun k hk => .inr hk⟩
  have m3 : ∀ i, i < bs'.length → μ3 (idAt rl h.next i) = μ2 i := fun i hi => by
    rcases Nat.lt_or_ge i bs.length with hlt | hge
    · rw [idAt_old (by omega)]
      obtain ⟨b, x, old, q1, q2, q3, q4⟩ := hrl (rl.getD i 0) (by
        have : i < rl.length := by omega
        rw [List.getD_eq_getElem?_getD, List.getElem?_eq_getElem this]
        exact List.getElem_mem this)
      have : μ2 i = μ1 i := ex.mu i hlt
      rw [this]
      exact if_pos q4
    · rw [idAt_new (by omega)]
      have : ¬ (h.next + (i - rl.length) < h.next) := by omega
      show (if _ then _ else _) = _
      rw [if_neg this]
      congr 1
      omega
  have g3 : ∀ i x, bs'[i]? = some x → h2.get (idAt rl h.next i) = some (unB ids x) := fun i x hx => lay_get ids bs' h rl i hx hnd fun k hk => by obtain ⟨_, _, _, _, _, _, h⟩ := hrl k hk; exact h
  have inv : ∀ b x, h2.get b = some x → (∃ i y, bs'[i]? = some y ∧ b = idAt rl h.next i ∧ x = unB ids y) ∨ (h.get b = some x ∧ b ∉ rl) := fun b x hx => lay_inv ids bs' h rl (by omega) hx
  have idlt : ∀ i, i < bs'.length → idAt rl h.next i < h2.next := fun i hi => by
    rw [hn2]
    rcases Nat.lt_or_ge i bs.length with hlt | hge
    · rw [idAt_old (by omega)]
      obtain ⟨_, _, _, _, _, _, q4⟩ := hrl (rl.getD i 0) (by
        have : i < rl.length := by omega
        rw [List.getD_eq_getElem?_getD, List.getElem?_eq_getElem this]
        exact List.getElem_mem this)
      omega
    · rw [idAt_new (by omega)]
      omega
  have up : Up (heapOf bs') μ2 h2 μ3 ids bs'.length := by
    refine ⟨fun b hb => by rw [hid b hb]; exact idlt b hb, fun b hb => by rw [hid b hb]; exact m3 b hb, fun b x hb hx => ?_, fun _ h => h⟩
    rw [hid b hb, g3 b _ (List.getElem?_eq_getElem hb)] at hx
    obtain rfl := Option.some.inj hx
    exact ⟨_, List.getElem?_eq_getElem hb, rfl⟩
  have old : ∀ b x, h.get b = some x → b ∉ rl → Y1 (μ b).1 := fun b x hx hb => by
    obtain ⟨_, cs, fr, hH, _⟩ := R.blk b x hx
    refine .inr ⟨inb _ _ hH, fun k hk e => ?_⟩
    obtain ⟨i, y, od, q1, q2, q3, q4⟩ := hrl k hk
    exact R.inj k b _ _ q3 hx (fun e => hb (e ▸ hk)) (own i y q2) e
  have ex3 : Ext h μ w.heap h2 μ3 w'.heap := by
    refine ⟨by rw [hn2]; omega, fun b hb => if_pos hb, fun b x' hb hx => ?_, fun b x hb hx ho => ?_, fun b x hb hb' hx => ?_, ex.mem, ex.ice, fun k hk => ex.icy k (.inl hk), fun k hk => (ex.iced k hk).imp id fun h hy => h (.inl hy), ex.grow, fun k hk => .inl hk, fun k hk => hk⟩
    · rcases inv b x' hx with ⟨i, y, q1, q2, q3⟩ | ⟨q1, q2⟩
      · have hi : i < bs.length := by
          rcases Nat.lt_or_ge i bs.length with h | hge
          · exact h
          · rw [idAt_new (by omega)] at q2
            omega
        obtain ⟨k, od, p1, p2, _⟩ := hat i bs[i] (List.getElem?_eq_getElem hi)
        rw [idAt_old (by omega), hgetD i k p1] at q2
        subst q2
        obtain ⟨x0, r1, r2, r3⟩ := ex.back i y hi q1
        have : bs[i] = x0 := by
          have : bs[i]? = some x0 := r1
          rw [List.getElem?_eq_getElem hi] at this
          exact Option.some.inj this
        subst this
        exact ⟨_, p2, by rw [q3]; exact r2, by rw [q3]; exact r3⟩
      · exact ⟨x', q1, rfl, rfl⟩
    · have : b ∉ rl := fun hm => by
        obtain ⟨i, y, od, q1, q2, q3, q4⟩ := hrl b hm
        rw [hx] at q3
        obtain rfl := Option.some.inj q3
        have := own i y q2
        rw [show y.own = false from ho] at this
        cases this
      show (layO ids h rl bs').get b = _
      rw [lay_keep ids bs' h rl hb this]
      exact hx
    · rcases inv b x hx with ⟨i, y, q1, q2, rfl⟩ | ⟨q1, q2⟩
      · exact own' i y q1
      · exact absurd (R.blk b x q1).1 (Nat.not_lt.2 hb)
  refine ⟨v', μ3, rfl, ⟨fun b x hx => ?_, fun b b' x x' h1 h2' hne ho => ?_, fun b x hx ho hY => ?_, fun k hk => hk.elim (fun h => Nat.lt_of_lt_of_le (R.ice k h) ex.grow) fun h => R2.ice k (μ2.zy k h)⟩, ex3, bl, VRel.up up c.res hv⟩
  · rcases inv b x hx with ⟨i, y, q1, rfl, rfl⟩ | ⟨q1, q2⟩
    · have hi : i < bs'.length := (List.getElem?_eq_some_iff.1 q1).1
      obtain ⟨hlt, cs, fr, hH, hl, hcc, hown⟩ := R2.blk i y q1
      have hm := m3 i hi
      refine ⟨idlt i hi, cs, fr, by rw [hm]; exact hH, by rw [hm]; simpa [unB] using hl, fun j v hj => ?_, fun ho => by rw [hm]; exact hown ho⟩
      simp only [unB, List.getElem?_map] at hj
      obtain ⟨v0, e1, rfl⟩ := Option.map_eq_some_iff.1 hj
      obtain ⟨v', a1, a2⟩ := hcc j v0 e1
      have hall := List.all_eq_true.1 (List.all_eq_true.1 c.cells y (List.mem_of_getElem? q1)) v0 (List.mem_of_getElem? e1)
      exact ⟨v', by rw [hm]; exact a1, CRel.up up hall a2⟩
    · obtain ⟨hlt, cs, fr, hH, hl, hcc, hown⟩ := R.blk b x q1
      have hm : μ3.at' b = μ.at' b := if_pos hlt
      refine ⟨Nat.lt_of_lt_of_le hlt ex3.next, cs, fr, by rw [hm, ex.icy _ (old b x q1 q2)]; exact hH, by rw [hm]; exact hl, fun j v hj => ?_, fun ho => by rw [hm]; exact hown ho⟩
      obtain ⟨v', a1, a2⟩ := hcc j v hj
      exact ⟨v', by rw [hm]; exact a1, a2.mono ex3⟩
  · have other : ∀ i y b x, bs'[i]? = some y → h.get b = some x → b ∉ rl → (μ2 i).1 ≠ (μ b).1 := fun i y b x q1 q2 q3 e => by
      refine R2.cold i y q1 (own' i y q1) ?_
      rw [e]
      exact ex.iceY _ (old b x q2 q3)
    rcases inv b x h1 with ⟨i, y, q1, rfl, rfl⟩ | ⟨q1, q2⟩
    · rw [m3 i (List.getElem?_eq_some_iff.1 q1).1]
      rcases inv b' x' h2' with ⟨i', y', p1, rfl, rfl⟩ | ⟨p1, p2⟩
      · rw [m3 i' (List.getElem?_eq_some_iff.1 p1).1]
        exact R2.inj i i' y y' q1 p1 (fun e => hne (by rw [e])) ho
      · rw [show μ3 b' = μ b' from if_pos (R.blk b' x' p1).1]
        exact other i y b' x' q1 p1 p2
    · rw [show μ3 b = μ b from if_pos (R.blk b x q1).1]
      rcases inv b' x' h2' with ⟨i', y', p1, rfl, rfl⟩ | ⟨p1, p2⟩
      · rw [m3 i' (List.getElem?_eq_some_iff.1 p1).1]
        exact (other i' y' b x p1 q1 q2).symm
      · rw [show μ3 b' = μ b' from if_pos (R.blk b' x' p1).1]
        exact R.inj b b' x x' q1 p1 hne ho
  · rcases inv b x hx with ⟨i, y, q1, rfl, rfl⟩ | ⟨q1, q2⟩
    · rw [m3 i (List.getElem?_eq_some_iff.1 q1).1] at hY
      refine R2.cold i y q1 ho ?_
      rcases hY with hY | hY
      · exact ex.iceY _ (.inl hY)
      · exact μ2.zy _ hY
    · rw [show μ3 b = μ b from if_pos (R.blk b x q1).1] at hY
      have c0 := R.cold b x q1 ho
      rcases hY with hY | hY
      · exact c0 hY
      · rcases ex.iced _ hY with hZ | hZ
        · exact c0 (μ.zy _ hZ)
        · exact hZ (old b x q1 q2)
def plain : Value → Bool
  | .bool _ | .int _ _ | .string _ | .pointer none | .slice none 0 0 | .map none | .nilFunc | .nilIface => true
  | _ => false
def plainW : Value → Bool
  | .agg cs => cs.toList.all plain
  | v => plain v
def plainV : Value → Bool
  | .tuple vs => vs.toList.all plainW
  | v => plainW v
section
variable {E : Env} {h : Heap} {μ : Place} {H : Mem}
theorem plain_s {v v' : Value} (hp : plain v = true) {h2 : Heap} {μ2 : Place} {H2 : Mem} (r : SRel E h μ H v v') : SRel E h2 μ2 H2 v v' := by
  cases r with
  | bool b => exact .bool b
  | int k n => exact .int k n
  | string s => exact .string s
  | nilptr => exact .nilptr
  | ptr b off hb => cases hp
  | nilslice => exact .nilslice
  | slice => cases hp
  | nilmap => exact .nilmap
  | nilfunc => exact .nilfunc
  | niliface => exact .niliface
  | ice r => cases hp
theorem plain_c {v v' : Value} (hp : plain v = true) {h2 : Heap} {μ2 : Place} {H2 : Mem} (r : CRel E h μ H v v') : CRel E h2 μ2 H2 v v' := by
  cases r with
  | s r => exact .s (plain_s hp r)
  | func => cases hp
theorem plain_w {v v' : Value} (hp : plainW v = true) {h2 : Heap} {μ2 : Place} {H2 : Mem} (r : WRel E h μ H v v') : WRel E h2 μ2 H2 v v' := by
  cases r with
  | c r =>
    refine .c (plain_c ?_ r)
    cases r with
    | s r => cases r <;> exact hp
    | func => exact hp
  | agg h1 =>
    rename_i a a'
    have key : ∀ {l l' : List Value}, l.all plain = true → All2 (CRel E h μ H) l l' → All2 (CRel E h2 μ2 H2) l l' := by
      intro l l' hl hr
      induction hr with
      | nil => exact .nil
      | cons h1 _ ih =>
        simp only [List.all_cons, Bool.and_eq_true] at hl
        exact .cons (plain_c hl.1 h1) (ih hl.2)
    exact .agg (key hp h1)
theorem plain_v {v v' : Value} (hp : plainV v = true) {h2 : Heap} {μ2 : Place} {H2 : Mem} (r : VRel E h μ H v v') : VRel E h2 μ2 H2 v v' := by
  cases r with
  | any => cases hp
  | tuple h1 =>
    rename_i a a'
    have key : ∀ {l l' : List Value}, l.all plainW = true → All2 (WRel E h μ H) l l' → All2 (WRel E h2 μ2 H2) l l' := by
      intro l l' hl hr
      induction hr with
      | nil => exact .nil
      | cons h1 _ ih =>
        simp only [List.all_cons, Bool.and_eq_true] at hl
        exact .cons (plain_w hl.1 h1) (ih hl.2)
    exact .tuple (key hp h1)
  | w r =>
    refine .w (plain_w ?_ r)
    cases r with
    | agg => exact hp
    | c r => cases r with
      | s r => cases r <;> exact hp
      | func => exact hp
end
theorem SCall.borrow {E : Env} {f : FuncId} {args args2 : List Value} {h : Heap} {u : Value} (c : Fun E f args2 u) (hi : mapO (iceV E h) args = some args2) (hu : plainV u = true) : SCall E f args h u h := by
  intro ok
  obtain ⟨hf, _, hc⟩ := c ok
  refine ⟨hf, fun μ base w args' R hbase ha => ?_⟩
  let Z1 : Nat → Prop := fun k => μ.Z k ∨ ∃ b x, h.get b = some x ∧ x.own = true ∧ (μ b).1 = k
  have zlt : ∀ k, Z1 k → k < w.heap.size := fun k hk => by
    rcases hk with hk | ⟨b, x, q1, q2, rfl⟩
    · exact R.ice k (μ.zy k hk)
    · obtain ⟨_, cs, fr, hH, _⟩ := R.blk b x q1
      rcases Nat.lt_or_ge (μ b).1 w.heap.size with h | h
      · exact h
      · rw [Array.getElem?_eq_none h] at hH; cases hH
  let μ1 : Place := ⟨μ.at', Z1, fun k => μ.Y k ∨ k < w.heap.size, fun k hk => .inr (zlt k hk)⟩
  have A1 : All2 (VRel E Heap.none μ1 w.heap) args2 args'.toList :=
    mapO_rel (f := iceV E h) (R := VRel E h μ w.heap) (S := VRel E Heap.none μ1 w.heap) (fun v u v' h1 h2 => iceV_rel R (Z' := Z1) (fun k hk => .inl hk) (fun b x hx ho => .inr ⟨b, x, hx, ho, rfl⟩) h1 h2 Heap.none μ1 rfl) hi ha
  refine Calls.mono (hc w.heap.size μ1 w args' (Rel.none μ1 _ fun k hk => hk.elim (R.ice k) id) (Nat.le_refl _) A1) fun e w' he => ?_
  obtain ⟨v', μ2, rfl, R2, t, hv⟩ := he
  obtain ⟨R3, ex⟩ := R.stay (H' := w'.heap) (fun k hk => t.below.block k hk) t.below.size μ rfl (fun _ h => h) (fun _ h => .inl h) (fun _ h => h) (fun _ h => .inl h) (fun k hk => Nat.lt_of_lt_of_le (R.ice k hk) t.below.size)
  exact ⟨v', μ, rfl, R3, ex, t.below.mono hbase, plain_v hu hv⟩
def layP : Heap → List Nat → List Blk → Heap
  | h, k :: ks, x :: xs => layP (h.set k (some x)) ks xs
  | h, [], x :: xs => layP (h.alloc x) [] xs
  | h, _, [] => h
theorem layO_eq (rl : List Nat) : ∀ {xs ys : List Blk} (h : Heap) (ks : List Nat), All2 (fun x y => unB rl x = y) xs ys → layO rl h ks xs = layP h ks ys
  | _, _, h, ks, .nil => by cases ks <;> rfl
  | _, _, h, [], .cons h1 h2 => by
    simp only [layO, layP, h1]
    exact layO_eq rl _ _ h2
  | _, _, h, k :: ks, .cons h1 h2 => by
    simp only [layO, layP, h1]
    exact layO_eq rl _ _ h2
theorem unB_flat {rl : List Nat} {e : TypeId} {own : Bool} {l : List Value} (hl : l.all flat = true) : unB rl ⟨e, own, l⟩ = ⟨e, own, l⟩ := by
  have := (CellsOk.eq (rl := rl) (m := 0) (l' := l) rfl hl).1
  simp only [unB]
  rw [← this]
theorem WpCall.lent {E : Env} {f : FuncId} {args args0 : List Value} {h : Heap} {bs bs' : List Blk} {v : Value} {K : Value → Heap → Prop} (rl : List Nat) (c : Lent E f args0 bs v bs') (hnd : rl.Nodup) (hb : BlksOk rl bs.length h rl bs) (ha : args = args0.map (unV rl))
    (v2 : Value) (bs2 : List Blk) (h2b : All2 (fun x y => unB (idsOf rl h.next bs'.length) x = y) bs' bs2) (hv : unT (idsOf rl h.next bs'.length) v = v2) (h2 : Heap) (hh : layP h rl bs2 = h2) (k : K v2 h2) : WpCall E f args h K := by
  refine ⟨v2, h2, ?_, k⟩
  have := SCall.lend rl c hnd hb ha
  rw [hv, layO_eq _ _ _ h2b, hh] at this
  exact this
theorem WpCall.borrow {E : Env} {f : FuncId} {args args2 : List Value} {h : Heap} {u : Value} {K : Value → Heap → Prop} (c : Fun E f args2 u) (hi : mapO (iceV E h) args = some args2) (hu : plainV u = true) (k : K u h) : WpCall E f args h K := ⟨u, h, SCall.borrow c hi hu, k⟩
end Go.Fw
