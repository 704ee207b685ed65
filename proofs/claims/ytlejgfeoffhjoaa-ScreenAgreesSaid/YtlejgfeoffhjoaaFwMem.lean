/- What Go's memory does with what our machine does with its own: cells read, written, blocks made. -/
import Derived.Test.YtlejgfeoffhjoaaFwRel
import Derived.Laws.NewFold
import Derived.Laws.AppendOwn
namespace Go.Fw
open Go.RowKit
structure EnvOk (E : Env) (P : Program) : Prop where
  types : ∀ t i, E.types t = some i → P.underlying t = some i.desc ∧ ∃ ti z, P.info? t = some ti ∧ ti.size = i.size ∧ ti.bytes = i.bytes ∧ ti.zero = some z ∧ z.cells.toList = i.zero ∧ i.zero.length = i.size ∧ i.zero.all okConst = true
  funcs : ∀ f fn, E.funcs f = some fn → P.funcs[f]? = some fn ∧ (fn.name == "runtime.NumGoroutine") = false
  mixed : P.follows .mixedOrders = true
  eqs : ∀ t i, E.types t = some i → i.eqs = true → P.stoodInHeld t = false ∧ P.eqGuardType P.depth t = false
section
variable {E : Env} {P : Program} {t : TypeId} {i : TI}
theorem run_und (ok : EnvOk E P) (ht : E.types t = some i) (w : World) : (underlying t).run P w = .ok i.desc w := run_underlying (ok.types t i ht).1 w
theorem run_size (ok : EnvOk E P) (ht : E.types t = some i) (w : World) : (sizeOf t).run P w = .ok i.size w := by
  obtain ⟨_, ti, z, h1, h2, _⟩ := ok.types t i ht
  simp [sizeOf, typeInfo, h1, h2]
theorem run_info (ok : EnvOk E P) (ht : E.types t = some i) (w : World) : ∃ ti, (typeInfo t).run P w = .ok ti w ∧ ti.size = i.size ∧ ti.bytes = i.bytes := by
  obtain ⟨_, ti, z, h1, h2, h3, _⟩ := ok.types t i ht
  exact ⟨ti, by simp [typeInfo, h1], h2, h3⟩
theorem run_agg (ok : EnvOk E P) (ht : E.types t = some i) (w : World) : (isAgg t).run P w = .ok (aggD i.desc) w := by
  have := run_und ok ht w
  simp only [isAgg, Sem.run_bind, this, Result.andThen_ok]
  cases i.desc <;> rfl
theorem run_zero (ok : EnvOk E P) (ht : E.types t = some i) (w : World) : ∃ z, (zeroValue t).run P w = .ok z w ∧ z.cells.toList = i.zero ∧ z.cells.size = i.size := by
  obtain ⟨_, ti, z, h1, h2, h3, h4, h5, h6, _⟩ := ok.types t i ht
  exact ⟨z, by simp [zeroValue, typeInfo, h1, h4], h5, by rw [← h6, ← h5, Array.length_toList]⟩
end
section
variable {E : Env} {h : Heap} {μ : Place} {H : Mem}
theorem SRel.const {v : Value} (hv : okConst v = true) : SRel E h μ H v v := by
  cases v with
  | bool b => exact .bool b
  | int k n => exact .int k n
  | string s => exact .string s
  | pointer a => cases a with
    | none => exact .nilptr
    | some a => simp [okConst] at hv
  | slice a n c => cases a with
    | none => cases n with
      | zero => cases c with
        | zero => exact .nilslice
        | succ => simp [okConst] at hv
      | succ => simp [okConst] at hv
    | some a => simp [okConst] at hv
  | map r => cases r with
    | none => exact .nilmap
    | some a => simp [okConst] at hv
  | nilFunc => exact .nilfunc
  | nilIface => exact .niliface
  | _ => simp [okConst] at hv
theorem CRel.consts : ∀ {xs : List Value}, xs.all okConst = true → All2 (CRel E h μ H) xs xs
  | [], _ => .nil
  | x :: r, hx => by
    simp only [List.all_cons, Bool.and_eq_true] at hx
    exact .cons (.s (.const hx.1)) (CRel.consts hx.2)
end
theorem setCell_block (w : World) (k j : Nat) (v : Value) (cs : Array Value) (T : TypeId) (fr : Nat × Nat) (hk : w.heap[k]? = some (.cells cs T fr)) : (w.setCell ⟨k, j, none⟩ v).heap[k]? = some (.cells (cs.setIfInBounds j v) T fr) := by
  simp [World.setCell, Array.getElem?_modify, hk]
theorem setCell_other (w : World) (k j : Nat) (v : Value) (k' : Nat) (hk : k' ≠ k) : (w.setCell ⟨k, j, none⟩ v).heap[k']? = w.heap[k']? := Below.heap_setCell w ⟨k, j, none⟩ v k' hk
theorem setCell_size (w : World) (a : Addr) (v : Value) : (w.setCell a v).heap.size = w.heap.size := by
  unfold World.setCell
  simp
theorem Heap.set_set (h : Heap) (b : Nat) (x y : Option Blk) : (h.set b x).set b y = h.set b y := by
  simp only [Heap.set, Heap.mk.injEq, true_and]
  funext i
  by_cases hi : i = b <;> simp [hi]
theorem Heap.set_self (h : Heap) (b : Nat) (x : Blk) (hx : h.get b = some x) : h.set b (some x) = h := by
  cases h with
  | mk n g =>
    simp only [Heap.set, Heap.mk.injEq, true_and]
    funext i
    by_cases hi : i = b
    · subst hi; simpa using hx.symm
    · simp [hi]
section
variable {E : Env} {h : Heap} {μ : Place} {base : Nat}
theorem Rel.set1 {w : World} (R : Rel E h μ w.heap base) {b : Nat} {x : Blk} (hb : h.get b = some x) (ho : x.own = true) {i : Nat} (hi : i < x.cells.length) {v v' : Value} (hv : CRel E h μ w.heap v v') :
    Rel E (h.set b (some { x with cells := x.cells.set i v })) μ (w.setCell ⟨(μ b).1, (μ b).2 + i, none⟩ v').heap base ∧
    Ext h μ w.heap (h.set b (some { x with cells := x.cells.set i v })) μ (w.setCell ⟨(μ b).1, (μ b).2 + i, none⟩ v').heap ∧
    Below base w (w.setCell ⟨(μ b).1, (μ b).2 + i, none⟩ v') ∧ (∃ u, w.cell? ⟨(μ b).1, (μ b).2 + i, none⟩ = some u) ∧ w.frozen? ⟨(μ b).1, (μ b).2 + i, none⟩ = false := by
  obtain ⟨hlt, cs, fr, hH, hl, hc, hown⟩ := R.blk b x hb
  obtain ⟨hbase, hfr⟩ := hown ho
  have e : Ext h μ w.heap (h.set b (some { x with cells := x.cells.set i v })) μ (w.setCell ⟨(μ b).1, (μ b).2 + i, none⟩ v').heap := by
    refine ⟨Nat.le_refl _, fun _ _ => rfl, fun c x' _ hx => ?_, fun c y _ hy hyo => by
      simp only [Heap.get_set]
      split
      · rename_i e
        subst e
        rw [hb] at hy
        obtain rfl := Option.some.inj hy
        rw [ho] at hyo
        cases hyo
      · exact hy, fun b y h1 h2 _ => absurd h2 (Nat.not_lt.2 h1), fun k cs' T fr' hk => ?_, fun _ hk => hk, fun k hk => setCell_other _ _ _ _ _ (fun e => R.cold b x hb ho (e ▸ hk)), fun _ hk => .inl hk, Nat.le_of_eq (setCell_size _ _ _).symm, fun _ hk => hk, fun _ hk => .inl hk⟩
    · simp only [Heap.get_set] at hx
      split at hx
      · rename_i e; subst e
        obtain rfl := Option.some.inj hx
        exact ⟨x, hb, rfl, rfl⟩
      · exact ⟨x', hx, rfl, rfl⟩
    · by_cases hk' : k = (μ b).1
      · subst hk'
        rw [hH] at hk
        injection hk with hk
        injection hk with h1 h2 h3
        subst h1 h2 h3
        exact ⟨_, _, setCell_block w _ _ _ _ _ _ hH, by simp⟩
      · exact ⟨cs', fr', by rw [setCell_other _ _ _ _ _ hk']; exact hk, rfl⟩
  have back : ∀ c y, (h.set b (some { x with cells := x.cells.set i v })).get c = some y → ∃ z, h.get c = some z ∧ z.own = y.own := fun c y hy => by
    simp only [Heap.get_set] at hy
    split at hy
    · rename_i ec; subst ec
      obtain rfl := Option.some.inj hy
      exact ⟨x, hb, rfl⟩
    · exact ⟨y, hy, rfl⟩
  refine ⟨⟨fun c x' hx => ?_, fun c c' x1 x2 h1 h2 hne ho' => ?_, fun c y hy ho' => let ⟨z, hz, hzo⟩ := back c y hy; R.cold c z hz (hzo.trans ho'), fun k hk => by rw [setCell_size]; exact R.ice k hk⟩, e, (Below.refl base w).setCell hbase _, ?_, ?_⟩
  · simp only [Heap.get_set] at hx
    split at hx
    · rename_i ec; subst ec
      obtain rfl := Option.some.inj hx
      refine ⟨hlt, _, fr, setCell_block w _ _ _ _ _ _ hH, by simpa using hl, fun j u hu => ?_, fun _ => ⟨hbase, by simpa using hfr⟩⟩
      by_cases hj : j = i
      · subst hj
        rw [List.getElem?_set_self hi] at hu
        obtain rfl := Option.some.inj hu
        exact ⟨v', by rw [Array.getElem?_setIfInBounds_self_of_lt (by omega)], hv.mono e⟩
      · rw [List.getElem?_set_ne (by omega)] at hu
        obtain ⟨u', h1, h2⟩ := hc j u hu
        exact ⟨u', by rw [Array.getElem?_setIfInBounds_ne (by omega)]; exact h1, h2.mono e⟩
    · rename_i ec
      obtain ⟨hlt', cs', fr', hH', hl', hc', hown'⟩ := R.blk c x' hx
      have hne := R.inj b c x x' hb hx (fun h => ec h.symm) ho
      exact ⟨hlt', cs', fr', by rw [setCell_other _ _ _ _ _ (Ne.symm hne)]; exact hH', hl', fun j u hu => let ⟨u', a1, a2⟩ := hc' j u hu; ⟨u', a1, a2.mono e⟩, hown'⟩
  · simp only [Heap.get_set] at h1 h2
    have g1 : ∃ y, h.get c = some y ∧ y.own = x1.own := by
      split at h1
      · rename_i ec; subst ec
        obtain rfl := Option.some.inj h1
        exact ⟨x, hb, rfl⟩
      · exact ⟨x1, h1, rfl⟩
    have g2 : ∃ y, h.get c' = some y := by
      split at h2
      · rename_i ec; subst ec
        exact ⟨x, hb⟩
      · exact ⟨x2, h2⟩
    obtain ⟨y1, a1, a2⟩ := g1
    obtain ⟨y2, a3⟩ := g2
    exact R.inj c c' y1 y2 a1 a3 hne (a2.trans ho')
  · obtain ⟨v0, hv0⟩ : ∃ v0, x.cells[i]? = some v0 := ⟨_, List.getElem?_eq_getElem hi⟩
    obtain ⟨u, a1, _⟩ := hc i v0 hv0
    exact ⟨u, by rw [cell_of hH]; exact a1⟩
  · rw [frozen_of hH]; exact hfr _ (by omega)
theorem setAll_length : ∀ (xs cells : List Value) (off : Nat), (setAll cells off xs).length = cells.length
  | [], _, _ => rfl
  | x :: r, cells, off => by simp [setAll, setAll_length r]
theorem Rel.setMany : ∀ (xs : List Value) (ys : List Value) (h : Heap) (w : World), Rel E h μ w.heap base → ∀ (b : Nat) (x : Blk), h.get b = some x → x.own = true → ∀ (off i : Nat) (a : Nat × Nat), a = μ b → off + i + xs.length ≤ x.cells.length → All2 (CRel E h μ w.heap) xs ys → ∀ (P : Program),
    ∃ w', (storeCells ⟨a.1, a.2 + off, none⟩ ys i).run P w = .ok () w' ∧ Rel E (h.set b (some { x with cells := setAll x.cells (off + i) xs })) μ w'.heap base ∧ Ext h μ w.heap (h.set b (some { x with cells := setAll x.cells (off + i) xs })) μ w'.heap ∧ Below base w w'
  | [], _, h, w, R, b, x, hb, ho, off, i, a, ha, hl, hv, P => by
    cases hv
    have : h.set b (some { x with cells := setAll x.cells (off + i) [] }) = h := Heap.set_self h b x hb
    rw [this]
    exact ⟨w, rfl, R, Ext.refl _ _ _, Below.refl _ _⟩
  | v :: r, _, h, w, R, b, x, hb, ho, off, i, a, ha, hl, .cons hv hr, P => by
    rename_i v' r'
    subst ha
    simp only [List.length_cons] at hl
    obtain ⟨R1, e1, b1, ⟨u, hu⟩, hf⟩ := R.set1 hb ho (show off + i < x.cells.length by omega) hv
    obtain ⟨w2, s2, R2, e2, b2⟩ := Rel.setMany r r' _ _ R1 b { x with cells := x.cells.set (off + i) v } (by simp) ho off (i + 1) (μ b) rfl (by simp; omega) (hr.mono fun _ _ q => q.mono e1) P
    rw [Heap.set_set] at R2 e2
    refine ⟨w2, ?_, R2, e1.trans e2, b1.trans b2⟩
    have hst : (store ((⟨(μ b).1, (μ b).2 + off, none⟩ : Addr).add i) v').run P w = .ok () (w.setCell ⟨(μ b).1, (μ b).2 + (off + i), none⟩ v') := by
      rw [add_addr, run_store P w _ v' _ hv.one, Nat.add_assoc]
      simp [hu, hf]
    simp only [storeCells, Sem.run_bind, hst, Result.andThen_ok]
    exact s2
theorem awrite_sim {w : World} (R : Rel E h μ w.heap base) {b off : Nat} {xs ys : List Value} {h' : Heap} (hw : awrite b off xs h = some h') (hv : All2 (CRel E h μ w.heap) xs ys) (P : Program) :
    ∃ w', (storeCells ⟨(μ b).1, (μ b).2 + off, none⟩ ys).run P w = .ok () w' ∧ Rel E h' μ w'.heap base ∧ Ext h μ w.heap h' μ w'.heap ∧ Below base w w' := by
  unfold awrite at hw
  split at hw
  · rename_i x hb
    split at hw
    · rename_i hc
      obtain rfl := Option.some.inj hw
      exact Rel.setMany xs ys h w R b x hb hc.1 off 0 (μ b) rfl (by simpa using hc.2) hv P
    · cases hw
  · cases hw
def at_ (μ : Place) (b : Nat) (p : Nat × Nat) : Place := { μ with at' := fun i => if i = b then p else μ i }
theorem alloc_heap (w : World) (o : Obj) : (w.alloc o).heap[w.heap.size]? = some o := by
  show (w.heap.push o)[w.heap.size]? = some o
  simp
theorem alloc_ext (h : Heap) (μ : Place) (w : World) (x : Blk) (hown : x.own = true) (o : Obj) (p : Nat × Nat) (hice : ∀ k, μ.Y k → k < w.heap.size) : Ext h μ w.heap (h.alloc x) (at_ μ h.next p) (w.alloc o).heap := by
  refine ⟨by simp, fun b hb => by simp [at_, Nat.ne_of_lt hb], fun b x' hb hx => ?_, fun b y hb hy _ => by simp only [Heap.get_alloc, Nat.ne_of_lt hb, if_false]; exact hy, fun b y h1 h2 hy => by
      have hb : b = h.next := by simp only [Heap.next_alloc] at h2; omega
      simp only [Heap.get_alloc, hb, if_true, Option.some.injEq] at hy
      rw [← hy]; exact hown, fun k cs T fr hk => ⟨cs, fr, ?_, rfl⟩, fun _ hk => hk, fun k hk => Below.heap_alloc _ _ _ (hice k hk), fun _ hk => .inl hk, by show _ ≤ (w.heap.push o).size; simp, fun _ hk => hk, fun _ hk => .inl hk⟩
  · simp only [Heap.get_alloc, Nat.ne_of_lt hb, if_false] at hx
    exact ⟨x', hx, rfl, rfl⟩
  · have hk' : k < w.heap.size := by
      rcases Nat.lt_or_ge k w.heap.size with h | h
      · exact h
      · rw [Array.getElem?_eq_none h] at hk; cases hk
    rw [Below.heap_alloc _ _ _ hk']; exact hk
theorem Rel.alloc {w : World} (R : Rel E h μ w.heap base) (hbase : base ≤ w.heap.size) (T : TypeId) (xs : List Value) (cs : Array Value) (hl : xs.length ≤ cs.size) (hv : ∀ (i : Nat) (v : Value), xs[i]? = some v → ∃ v', cs[i]? = some v' ∧ CRel E h μ w.heap v v') :
    Rel E (h.alloc ⟨T, true, xs⟩) (at_ μ h.next (w.heap.size, 0)) (w.alloc (.cells cs T)).heap base := by
  have e := alloc_ext h μ w ⟨T, true, xs⟩ rfl (.cells cs T) (w.heap.size, 0) R.ice
  refine ⟨fun b x hx => ?_, fun b b' x x' h1 h2 hne ho => ?_, fun b x hx ho hZ => ?_, fun k hk => Nat.lt_of_lt_of_le (R.ice k hk) e.grow⟩
  · simp only [Heap.get_alloc] at hx
    split at hx
    · rename_i eb; subst eb
      obtain rfl := Option.some.inj hx
      refine ⟨by simp, cs, (0, 0), by simp only [at_, if_true]; exact alloc_heap w _, by simpa [at_] using hl, fun i v hi => ?_, fun _ => ⟨by simpa [at_] using hbase, by simp⟩⟩
      obtain ⟨v', a1, a2⟩ := hv i v hi
      exact ⟨v', by simpa [at_] using a1, a2.mono e⟩
    · rename_i eb
      obtain ⟨hlt, cs', fr, hH, hl', hc, hown⟩ := R.blk b x hx
      have hm : at_ μ h.next (w.heap.size, 0) b = μ b := by simp [at_, eb]
      have hk : (μ b).1 < w.heap.size := by
        rcases Nat.lt_or_ge (μ b).1 w.heap.size with h | h
        · exact h
        · rw [Array.getElem?_eq_none h] at hH; cases hH
      refine ⟨by simp; omega, cs', fr, by rw [hm, Below.heap_alloc _ _ _ hk]; exact hH, by rw [hm]; exact hl', fun i v hi => ?_, fun ho => by rw [hm]; exact hown ho⟩
      obtain ⟨v', a1, a2⟩ := hc i v hi
      exact ⟨v', by rw [hm]; exact a1, a2.mono e⟩
  · have old : ∀ c y, (h.alloc ⟨T, true, xs⟩).get c = some y → c ≠ h.next → h.get c = some y ∧ (μ c).1 < w.heap.size := fun c y hy hc => by
      simp only [Heap.get_alloc, hc, if_false] at hy
      refine ⟨hy, ?_⟩
      obtain ⟨_, _, _, hH, _⟩ := R.blk c y hy
      rcases Nat.lt_or_ge (μ c).1 w.heap.size with h | h
      · exact h
      · rw [Array.getElem?_eq_none h] at hH; cases hH
    by_cases c1 : b = h.next
    · subst c1
      have := old b' x' h2 (Ne.symm hne)
      simp only [at_, if_true, Ne.symm hne, if_false]
      omega
    · by_cases c2 : b' = h.next
      · subst c2
        have := old b x h1 hne
        simp only [at_, if_true, hne, if_false]
        omega
      · simp only [at_, c1, c2, if_false]
        exact R.inj b b' x x' (old b x h1 c1).1 (old b' x' h2 c2).1 hne ho
  · simp only [Heap.get_alloc] at hx
    split at hx
    · rename_i eb; subst eb
      have hZ' : μ.Y w.heap.size := by simpa [at_] using hZ
      exact absurd (R.ice _ hZ') (Nat.lt_irrefl _)
    · rename_i eb
      refine R.cold b x hx ho ?_
      have hm : (at_ μ h.next (w.heap.size, 0)).at' b = μ.at' b := by simp [at_, eb]
      rw [hm] at hZ
      exact hZ
theorem Rel.drop {H : Mem} (R : Rel E h μ H base) (b : Nat) (hown : ∀ y, h.get b = some y → y.own = true) : Rel E (h.set b none) μ H base ∧ Ext h μ H (h.set b none) μ H := by
  have e : Ext h μ H (h.set b none) μ H := ⟨Nat.le_refl _, fun _ _ => rfl, fun c x' _ hx => by
    simp only [Heap.get_set] at hx
    split at hx
    · cases hx
    · exact ⟨x', hx, rfl, rfl⟩, fun c y _ hy hyo => by
      simp only [Heap.get_set]
      split
      · rename_i e
        subst e
        rw [hown y hy] at hyo
        cases hyo
      · exact hy, fun b y h1 h2 _ => absurd h2 (Nat.not_lt.2 h1), fun k cs T fr hk => ⟨cs, fr, hk, rfl⟩, fun _ hk => hk, fun _ _ => rfl, fun _ hk => .inl hk, Nat.le_refl _, fun _ hk => hk, fun _ hk => .inl hk⟩
  have old : ∀ c y, (h.set b none).get c = some y → h.get c = some y := fun c y hy => by
    simp only [Heap.get_set] at hy
    split at hy
    · cases hy
    · exact hy
  refine ⟨⟨fun c x hx => ?_, fun c c' x x' h1 h2 hne ho => R.inj c c' x x' (old _ _ h1) (old _ _ h2) hne ho, fun c x hx ho => R.cold c x (old _ _ hx) ho, R.ice⟩, e⟩
  obtain ⟨hlt, cs, fr, hH, hl, hc, hown'⟩ := R.blk c x (old _ _ hx)
  exact ⟨hlt, cs, fr, hH, hl, fun i v hi => let ⟨v', a1, a2⟩ := hc i v hi; ⟨v', a1, a2.mono e⟩, hown'⟩
theorem below_alloc' (base : Nat) (w : World) (hb : base ≤ w.heap.size) (o : Obj) : Below base w (w.alloc o) := (Below.refl base w).alloc hb o
end
end Go.Fw
