/- The machine of our own and Go's memory: what of an abstract value and an abstract memory is to be found in a world. -/
import Derived.Test.YtlejgfeoffhjoaaFwBase
import Derived.Below
import Derived.Laws.Cells
import Derived.Laws.IdiomCopy
namespace Go.Fw
open Go.RowKit
inductive All2 {α β : Type} (R : α → β → Prop) : List α → List β → Prop
  | nil : All2 R [] []
  | cons {a b l m} : R a b → All2 R l m → All2 R (a :: l) (b :: m)
theorem All2.mono {α β : Type} {R S : α → β → Prop} (h : ∀ a b, R a b → S a b) {l : List α} {m : List β} (hl : All2 R l m) : All2 S l m := by
  induction hl with
  | nil => exact .nil
  | cons hr _ ih => exact .cons (h _ _ hr) ih
theorem All2.length {α β : Type} {R : α → β → Prop} {l : List α} {m : List β} (h : All2 R l m) : l.length = m.length := by
  induction h with
  | nil => rfl
  | cons _ _ ih => simp [ih]
theorem All2.get {α β : Type} {R : α → β → Prop} {l : List α} {m : List β} (h : All2 R l m) : ∀ {i : Nat} {a : α}, l[i]? = some a → ∃ b, m[i]? = some b ∧ R a b := by
  induction h with
  | nil => intro i a ha; simp at ha
  | cons hr _ ih =>
    intro i a ha
    cases i with
    | zero => simp at ha; subst ha; exact ⟨_, by simp, hr⟩
    | succ i => simpa using ih (by simpa using ha)
theorem All2.of_get {α β : Type} {R : α → β → Prop} : ∀ {l : List α} {m : List β}, l.length = m.length → (∀ (i : Nat) a b, l[i]? = some a → m[i]? = some b → R a b) → All2 R l m
  | [], [], _, _ => .nil
  | a :: l, b :: m, hl, h => .cons (h 0 a b (by simp) (by simp)) (All2.of_get (by simpa using hl) (fun i x y hx hy => h (i + 1) x y (by simpa using hx) (by simpa using hy)))
  | [], _ :: _, hl, _ => by simp at hl
  | _ :: _, [], hl, _ => by simp at hl
theorem All2.append {α β : Type} {R : α → β → Prop} {l l' : List α} {m m' : List β} (h : All2 R l m) (h' : All2 R l' m') : All2 R (l ++ l') (m ++ m') := by
  induction h with
  | nil => exact h'
  | cons hr _ ih => exact .cons hr ih
theorem All2.take {α β : Type} {R : α → β → Prop} {l : List α} {m : List β} (h : All2 R l m) (n : Nat) : All2 R (l.take n) (m.take n) := by
  induction h generalizing n with
  | nil => simp; exact .nil
  | cons hr _ ih => cases n with
    | zero => simp; exact .nil
    | succ n => simp; exact .cons hr (ih n)
theorem All2.drop {α β : Type} {R : α → β → Prop} {l : List α} {m : List β} (h : All2 R l m) (n : Nat) : All2 R (l.drop n) (m.drop n) := by
  induction h generalizing n with
  | nil => simp; exact .nil
  | cons hr hl ih => cases n with
    | zero => simp; exact .cons hr hl
    | succ n => simpa using ih n
theorem All2.set {α β : Type} {R : α → β → Prop} {l : List α} {m : List β} (h : All2 R l m) (i : Nat) {a : α} {b : β} (hr : R a b) : All2 R (l.set i a) (m.set i b) := by
  induction h generalizing i with
  | nil => simp; exact .nil
  | cons hr' hl ih => cases i with
    | zero => simp; exact .cons hr hl
    | succ i => simp; exact .cons hr' (ih i)
structure Place where
  at' : Nat → Nat × Nat
  Z : Nat → Prop
  Y : Nat → Prop
  zy : ∀ k, Z k → Y k
instance : CoeFun Place (fun _ => Nat → Nat × Nat) := ⟨Place.at'⟩
abbrev Mem := Array Obj
def IceAt (Z : Nat → Prop) (H : Mem) (e : TypeId) (room : Nat) (ys : List Value) (k o : Nat) : Prop :=
  Z k ∧ (e = e ∧ room = room) ∧ ∃ cs T fr, H[k]? = some (.cells cs T fr) ∧ o + ys.length ≤ cs.size ∧ ∀ (i : Nat) (v : Value), ys[i]? = some v → cs[o + i]? = some v
inductive IRel (E : Env) (Z : Nat → Prop) (H : Mem) : Value → Value → Prop
  | bool (b : Bool) : IRel E Z H (.bool b) (.bool b)
  | int (k : IntKind) (n : Int) : IRel E Z H (.int k n) (.int k n)
  | string (s : ByteArray) : IRel E Z H (.string s) (.string s)
  | nilptr : IRel E Z H (.pointer none) (.pointer none)
  | nilslice : IRel E Z H (.slice none 0 0) (.slice none 0 0)
  | nilmap : IRel E Z H (.map none) (.map none)
  | nilfunc : IRel E Z H .nilFunc .nilFunc
  | niliface : IRel E Z H .nilIface .nilIface
  | amap (r : Option Nat) : IRel E Z H AX (.map r)
  | fs (e n x : Nat) (cells : Array Value) (ys : List Value) (a' : Option Addr) (c' : Nat) (ti : TI) (ht : E.types e = some ti) (hn : n ≤ c') (hx : x = 1 → c' = n) (hnil : a' = none ↔ x = 2) (hnil0 : a' = none → c' = 0) (hl : cells.size = n * ti.size) (hy : ys.length = cells.size)
      (hat : n = 0 ∨ (∃ k o, a' = some ⟨k, o, none⟩ ∧ IceAt Z H e (c' * ti.size) ys k o)) (hc : ∀ (i : Nat) (v v' : Value), cells[i]? = some v → ys[i]? = some v' → IRel E Z H v v') : IRel E Z H (FS e n x cells) (.slice a' n c')
  | fp (e off : Nat) (cells : Array Value) (ys : List Value) (k o : Nat) (hy : ys.length = cells.size)
      (hat : IceAt Z H e 0 ys k o) (hc : ∀ (i : Nat) (v v' : Value), cells[i]? = some v → ys[i]? = some v' → IRel E Z H v v') : IRel E Z H (FP e off cells) (.pointer (some ⟨k, o + off, none⟩))
theorem IRel.mono {E : Env} {Z Z' : Nat → Prop} {H H' : Mem} (hz : ∀ k, Z k → Z' k) (hs : ∀ k, Z k → H'[k]? = H[k]?) {v v' : Value} (r : IRel E Z H v v') : IRel E Z' H' v v' := by
  induction r with
  | bool b => exact .bool b
  | int k n => exact .int k n
  | string s => exact .string s
  | nilptr => exact .nilptr
  | nilslice => exact .nilslice
  | nilmap => exact .nilmap
  | nilfunc => exact .nilfunc
  | niliface => exact .niliface
  | amap r => exact .amap r
  | fs e n x cells ys a' c' ti ht hn hx hnil hnil0 hl hy hat hc ih =>
    refine .fs e n x cells ys a' c' ti ht hn hx hnil hnil0 hl hy (hat.imp id fun ⟨k, o, h1, h2, _, cs, T, fr, h3, h4⟩ => ⟨k, o, h1, hz _ h2, ⟨rfl, rfl⟩, cs, T, fr, (hs _ h2).trans h3, h4⟩) ih
  | fp e off cells ys k o hy hat hc ih =>
    obtain ⟨h2, h2', cs, T, fr, h3, h4⟩ := hat
    exact .fp e off cells ys k o hy ⟨hz _ h2, h2', cs, T, fr, (hs _ h2).trans h3, h4⟩ ih
section
variable (E : Env) (h : Heap) (μ : Place) (H : Mem)
def SliceAt (b off : Nat) (a' : Addr) (c' : Nat) : Prop :=
  a'.block = (μ b).1 ∧ a'.off = (μ b).2 + off ∧
  ∀ x, h.get b = some x → ∃ ti cs fr, E.types x.elem = some ti ∧ H[a'.block]? = some (.cells cs x.elem fr) ∧ a'.off + c' * ti.size ≤ cs.size
inductive SRel : Value → Value → Prop
  | bool (b : Bool) : SRel (.bool b) (.bool b)
  | int (k : IntKind) (n : Int) : SRel (.int k n) (.int k n)
  | string (s : ByteArray) : SRel (.string s) (.string s)
  | nilptr : SRel (.pointer none) (.pointer none)
  | ptr (b off : Nat) (hb : b < h.next) : SRel (.pointer (some ⟨b, off, none⟩)) (.pointer (some ⟨(μ b).1, (μ b).2 + off, none⟩))
  | nilslice : SRel (.slice none 0 0) (.slice none 0 0)
  | slice (b off n c : Nat) (a' : Addr) (c' : Nat) (hb : b < h.next) (hn : n ≤ c) (hc : c ≤ c') (hs : a'.spot = none) (ha : c' = 0 ∨ SliceAt E h μ H b off a' c') :
      SRel (.slice (some ⟨b, off, none⟩) n c) (.slice (some a') n c')
  | nilmap : SRel (.map none) (.map none)
  | nilfunc : SRel .nilFunc .nilFunc
  | niliface : SRel .nilIface .nilIface
  | ice {e : TypeId} {x v' : Value} (r : IRel E μ.Z H (.iface e x) v') : SRel (.iface e x) v'
inductive CRel : Value → Value → Prop
  | s {v v' : Value} : SRel E h μ H v v' → CRel v v'
  | func (fn : Fn) {a a' c c' : Array Value} : All2 (SRel E h μ H) a.toList a'.toList → All2 (SRel E h μ H) c.toList c'.toList → CRel (.func fn a c) (.func fn a' c')
inductive WRel : Value → Value → Prop
  | c {v v' : Value} : CRel E h μ H v v' → WRel v v'
  | agg {a a' : Array Value} : All2 (CRel E h μ H) a.toList a'.toList → WRel (.agg a) (.agg a')
inductive VRel : Value → Value → Prop
  | w {v v' : Value} : WRel E h μ H v v' → VRel v v'
  | tuple {a a' : Array Value} : All2 (WRel E h μ H) a.toList a'.toList → VRel (.tuple a) (.tuple a')
  | any (v' : Value) : VRel junk v'
def BlkAt (base b : Nat) (x : Blk) : Prop :=
  b < h.next ∧ ∃ cs fr, H[(μ b).1]? = some (.cells cs x.elem fr) ∧ (μ b).2 + x.cells.length ≤ cs.size ∧
    (∀ i v, x.cells[i]? = some v → ∃ v', cs[(μ b).2 + i]? = some v' ∧ CRel E h μ H v v') ∧
    (x.own = true → base ≤ (μ b).1 ∧ ∀ k, k < cs.size → (decide (fr.1 ≤ k) && decide (k < fr.2)) = false)
structure Rel (base : Nat) : Prop where
  blk : ∀ b x, h.get b = some x → BlkAt E h μ H base b x
  inj : ∀ b b' x x', h.get b = some x → h.get b' = some x' → b ≠ b' → x.own = true → (μ b).1 ≠ (μ b').1
  cold : ∀ b x, h.get b = some x → x.own = true → ¬ μ.Y (μ b).1
  ice : ∀ k, μ.Y k → k < H.size
end
structure Ext (h : Heap) (μ : Place) (H : Mem) (h' : Heap) (μ' : Place) (H' : Mem) : Prop where
  next : h.next ≤ h'.next
  mu : ∀ b, b < h.next → μ' b = μ b
  back : ∀ b x', b < h.next → h'.get b = some x' → ∃ x, h.get b = some x ∧ x.elem = x'.elem ∧ x.own = x'.own
  keep : ∀ b x, b < h.next → h.get b = some x → x.own = false → h'.get b = some x
  fresh : ∀ b x, h.next ≤ b → b < h'.next → h'.get b = some x → x.own = true
  mem : ∀ (k : Nat) (cs : Array Value) (T : TypeId) (fr : Nat × Nat), H[k]? = some (.cells cs T fr) → ∃ cs' fr', H'[k]? = some (.cells cs' T fr') ∧ cs'.size = cs.size
  ice : ∀ k, μ.Z k → μ'.Z k
  icy : ∀ k, μ.Y k → H'[k]? = H[k]?
  iced : ∀ k, μ'.Z k → μ.Z k ∨ ¬ μ.Y k
  grow : H.size ≤ H'.size
  iceY : ∀ k, μ.Y k → μ'.Y k
  icedY : ∀ k, μ'.Y k → μ.Y k ∨ μ'.Z k
theorem Ext.refl (h : Heap) (μ : Place) (H : Mem) : Ext h μ H h μ H := ⟨Nat.le_refl _, fun _ _ => rfl, fun _ x' _ hx => ⟨x', hx, rfl, rfl⟩, fun _ _ _ hx _ => hx, fun _ _ h1 h2 _ => absurd h2 (Nat.not_lt.2 h1), fun _ cs _ fr hk => ⟨cs, fr, hk, rfl⟩, fun _ h => h, fun _ _ => rfl, fun _ h => .inl h, Nat.le_refl _, fun _ h => h, fun _ h => .inl h⟩
theorem Ext.trans {h h1 h2 : Heap} {μ μ1 μ2 : Place} {H H1 H2 : Mem} (a : Ext h μ H h1 μ1 H1) (b : Ext h1 μ1 H1 h2 μ2 H2) : Ext h μ H h2 μ2 H2 := by
  refine ⟨Nat.le_trans a.next b.next, fun k hk => (b.mu k (Nat.lt_of_lt_of_le hk a.next)).trans (a.mu k hk), fun k x' hk hx => ?_, fun k x hk hx ho => b.keep k x (Nat.lt_of_lt_of_le hk a.next) (a.keep k x hk hx ho) ho, fun k x hk hk' hx => ?_, fun k cs T fr hk => ?_, fun k hk => b.ice k (a.ice k hk), fun k hk => (b.icy k (a.iceY k hk)).trans (a.icy k hk), fun k hk => (b.iced k hk).elim (fun h => a.iced k h) fun h => .inr fun h' => h (a.iceY k h'), Nat.le_trans a.grow b.grow, fun k hk => b.iceY k (a.iceY k hk), fun k hk => (b.icedY k hk).elim (fun h => (a.icedY k h).imp id (b.ice k)) fun h => .inr h⟩
  · obtain ⟨x1, h1, e1, o1⟩ := b.back k x' (Nat.lt_of_lt_of_le hk a.next) hx
    obtain ⟨x0, h0, e0, o0⟩ := a.back k x1 hk h1
    exact ⟨x0, h0, e0.trans e1, o0.trans o1⟩
  · rcases Nat.lt_or_ge k h1.next with hl | hl
    · obtain ⟨x1, g1, _, o1⟩ := b.back k x hl hx
      rw [← o1]
      exact a.fresh k x1 hk hl g1
    · exact b.fresh k x hl hk' hx
  · obtain ⟨c1, f1, g1, s1⟩ := a.mem k cs T fr hk
    obtain ⟨c2, f2, g2, s2⟩ := b.mem k c1 T f1 g1
    exact ⟨c2, f2, g2, s2.trans s1⟩
structure Ext0 (h : Heap) (μ : Place) (H : Mem) (h' : Heap) (μ' : Place) (H' : Mem) : Prop where
  next : h.next ≤ h'.next
  mu : ∀ b, b < h.next → μ' b = μ b
  back : ∀ b x', b < h.next → h'.get b = some x' → ∃ x, h.get b = some x ∧ x.elem = x'.elem
  mem : ∀ (k : Nat) (cs : Array Value) (T : TypeId) (fr : Nat × Nat), H[k]? = some (.cells cs T fr) → ∃ cs' fr', H'[k]? = some (.cells cs' T fr') ∧ cs'.size = cs.size
  ice : ∀ k, μ.Z k → μ'.Z k
  icy : ∀ k, μ.Z k → H'[k]? = H[k]?
theorem Ext.to0 {h : Heap} {μ : Place} {H : Mem} {h' : Heap} {μ' : Place} {H' : Mem} (e : Ext h μ H h' μ' H') : Ext0 h μ H h' μ' H' := ⟨e.next, e.mu, fun b x' hb hx => let ⟨x, h1, h2, _⟩ := e.back b x' hb hx; ⟨x, h1, h2⟩, e.mem, e.ice, fun k hk => e.icy k (μ.zy k hk)⟩
section
variable {E : Env} {h h' : Heap} {μ μ' : Place} {H H' : Mem}
theorem SRel.mono0 (e : Ext0 h μ H h' μ' H') {v v' : Value} (r : SRel E h μ H v v') : SRel E h' μ' H' v v' := by
  cases r with
  | bool b => exact .bool b
  | int k n => exact .int k n
  | string s => exact .string s
  | nilptr => exact .nilptr
  | ptr b off hb => rw [← e.mu b hb]; exact .ptr b off (Nat.lt_of_lt_of_le hb e.next)
  | nilslice => exact .nilslice
  | slice b off n c a' c' hb hn hc hs ha =>
    refine .slice b off n c a' c' (Nat.lt_of_lt_of_le hb e.next) hn hc hs (ha.imp id fun ha => ?_)
    obtain ⟨h1, h2, h3⟩ := ha
    refine ⟨by rw [e.mu b hb]; exact h1, by rw [e.mu b hb]; exact h2, fun x' hx => ?_⟩
    obtain ⟨x, hx0, he⟩ := e.back b x' hb hx
    obtain ⟨ti, cs, fr, ht, hH, hl⟩ := h3 x hx0
    obtain ⟨cs', fr', hH', hs'⟩ := e.mem _ _ _ _ hH
    exact ⟨ti, cs', fr', he ▸ ht, he ▸ hH', by omega⟩
  | nilmap => exact .nilmap
  | nilfunc => exact .nilfunc
  | niliface => exact .niliface
  | ice r => exact .ice (r.mono e.ice e.icy)
theorem CRel.mono0 (e : Ext0 h μ H h' μ' H') {v v' : Value} (r : CRel E h μ H v v') : CRel E h' μ' H' v v' := by
  cases r with
  | s r => exact .s (r.mono0 e)
  | func fn h1 h2 => exact .func fn (h1.mono fun _ _ r => r.mono0 e) (h2.mono fun _ _ r => r.mono0 e)
theorem WRel.mono0 (e : Ext0 h μ H h' μ' H') {v v' : Value} (r : WRel E h μ H v v') : WRel E h' μ' H' v v' := by
  cases r with
  | c r => exact .c (r.mono0 e)
  | agg h1 => exact .agg (h1.mono fun _ _ r => r.mono0 e)
theorem VRel.mono0 (e : Ext0 h μ H h' μ' H') {v v' : Value} (r : VRel E h μ H v v') : VRel E h' μ' H' v v' := by
  cases r with
  | w r => exact .w (r.mono0 e)
  | tuple h1 => exact .tuple (h1.mono fun _ _ r => r.mono0 e)
  | any v' => exact .any v'
theorem SRel.mono (e : Ext h μ H h' μ' H') {v v' : Value} (r : SRel E h μ H v v') : SRel E h' μ' H' v v' := r.mono0 e.to0
theorem CRel.mono (e : Ext h μ H h' μ' H') {v v' : Value} (r : CRel E h μ H v v') : CRel E h' μ' H' v v' := r.mono0 e.to0
theorem WRel.mono (e : Ext h μ H h' μ' H') {v v' : Value} (r : WRel E h μ H v v') : WRel E h' μ' H' v v' := r.mono0 e.to0
theorem VRel.mono (e : Ext h μ H h' μ' H') {v v' : Value} (r : VRel E h μ H v v') : VRel E h' μ' H' v v' := r.mono0 e.to0
theorem CRel.one {v v' : Value} (r : CRel E h μ H v v') : v'.oneCell' = true := by
  cases r with
  | s r => cases r with
    | ice r => cases r <;> rfl
    | _ => rfl
  | func => rfl
theorem VRel.undef : VRel E h μ H undef undef := .tuple .nil
theorem VRel.s {v v' : Value} (r : SRel E h μ H v v') : VRel E h μ H v v' := .w (.c (.s r))
theorem VRel.bool (b : Bool) : VRel E h μ H (.bool b) (.bool b) := .s (.bool b)
theorem VRel.int (k : IntKind) (n : Int) : VRel E h μ H (.int k n) (.int k n) := .s (.int k n)
theorem VRel.string (s : ByteArray) : VRel E h μ H (.string s) (.string s) := .s (.string s)
theorem VRel.cells {v v' : Value} (r : VRel E h μ H v v') {xs : List Value} (hx : cellsOf v = some xs) : All2 (CRel E h μ H) xs v'.cells.toList := by
  cases r with
  | tuple => simp [cellsOf] at hx
  | any => simp [cellsOf, junk] at hx
  | w r =>
    cases r with
    | agg h1 => simp [cellsOf] at hx; subst hx; exact h1
    | c r =>
      have : xs = [v] := by
        cases r with
        | s r => cases r <;> simp [cellsOf] at hx <;> exact hx.symm
        | func => simp [cellsOf] at hx; exact hx.symm
      subst this
      have h2 : v'.cells = #[v'] := by
        cases r with
        | s r => cases r with
          | ice r => cases r <;> rfl
          | _ => rfl
        | func => rfl
      rw [h2]
      exact .cons r .nil
end
theorem add_addr (b o n : Nat) : (⟨b, o, none⟩ : Addr).add n = ⟨b, o + n, none⟩ := by unfold Addr.add; split <;> simp_all
theorem cell_of {w : World} {k : Nat} {cs : Array Value} {T : TypeId} {fr : Nat × Nat} (hk : w.heap[k]? = some (.cells cs T fr)) (i : Nat) : w.cell? ⟨k, i, none⟩ = cs[i]? := by
  simp [World.cell?, hk]
theorem frozen_of {w : World} {k : Nat} {cs : Array Value} {T : TypeId} {fr : Nat × Nat} (hk : w.heap[k]? = some (.cells cs T fr)) (i : Nat) : w.frozen? ⟨k, i, none⟩ = (decide (fr.1 ≤ i) && decide (i < fr.2)) := by
  simp [World.frozen?, hk]
section
variable {E : Env} {h : Heap} {μ : Place} {base : Nat}
theorem Rel.cell {w : World} (R : Rel E h μ w.heap base) {b : Nat} {x : Blk} (hb : h.get b = some x) {i : Nat} {v : Value} (hv : x.cells[i]? = some v) :
    ∃ v', w.cell? ⟨(μ b).1, (μ b).2 + i, none⟩ = some v' ∧ CRel E h μ w.heap v v' := by
  obtain ⟨_, cs, fr, hH, _, hc, _⟩ := R.blk b x hb
  obtain ⟨v', h1, h2⟩ := hc i v hv
  exact ⟨v', by rw [cell_of hH]; exact h1, h2⟩
theorem Rel.cells {w : World} (R : Rel E h μ w.heap base) {b : Nat} {x : Blk} (hb : h.get b = some x) {off n : Nat} {xs : List Value} (hx : cellsAt x.cells off n = some xs) :
    ∃ ys, All2 (CRel E h μ w.heap) xs ys ∧ ys.length = n ∧ ∀ j v, ys[j]? = some v → w.cell? ⟨(μ b).1, (μ b).2 + off + j, none⟩ = some v := by
  obtain ⟨_, cs, fr, hH, hl, hc, _⟩ := R.blk b x hb
  unfold cellsAt at hx
  split at hx
  · rename_i hle
    obtain rfl := Option.some.inj hx
    refine ⟨(cs.toList.drop ((μ b).2 + off)).take n, All2.of_get ?_ ?_, ?_, ?_⟩
    · simp; omega
    · intro i a b' ha hb'
      rw [List.getElem?_take] at ha hb'
      split at ha <;> rename_i hi
      · rw [List.getElem?_drop] at ha
        rw [if_pos hi, List.getElem?_drop, Array.getElem?_toList] at hb'
        obtain ⟨v', h1, h2⟩ := hc _ _ ha
        rw [show (μ b).2 + (off + i) = (μ b).2 + off + i by omega, hb'] at h1
        obtain rfl := Option.some.inj h1
        exact h2
      · simp at ha
    · simp; omega
    · intro j v hv
      rw [List.getElem?_take] at hv
      split at hv
      · rw [List.getElem?_drop, Array.getElem?_toList] at hv
        rw [cell_of hH]; exact hv
      · simp at hv
  · simp at hx
end
end Go.Fw
