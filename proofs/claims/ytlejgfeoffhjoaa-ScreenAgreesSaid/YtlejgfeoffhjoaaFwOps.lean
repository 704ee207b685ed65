/- Each operation of Go's machine does what ours does. -/
import Derived.Test.YtlejgfeoffhjoaaFwMem
import Derived.Laws.Entries
namespace Go.Fw
open Go.RowKit
section
variable {E : Env} {h : Heap} {μ : Place} {H : Mem}
theorem VRel.inv_ptr {b off : Nat} {v' : Value} (r : VRel E h μ H (.pointer (some ⟨b, off, none⟩)) v') : b < h.next ∧ v' = .pointer (some ⟨(μ b).1, (μ b).2 + off, none⟩) := by
  cases r with
  | w r => cases r with
    | c r => cases r with
      | s r => cases r with
        | ptr b off hb => exact ⟨hb, rfl⟩
theorem VRel.inv_nilptr {v' : Value} (r : VRel E h μ H (.pointer none) v') : v' = .pointer none := by
  cases r with
  | w r => cases r with
    | c r => cases r with
      | s r => cases r; rfl
theorem VRel.inv_some {a : Addr} {v' : Value} (r : VRel E h μ H (.pointer (some a)) v') : ∃ a', v' = .pointer (some a') := by
  cases r with
  | w r => cases r with
    | c r => cases r with
      | s r => cases r; exact ⟨_, rfl⟩
theorem VRel.inv_int {k : IntKind} {n : Int} {v' : Value} (r : VRel E h μ H (.int k n) v') : v' = .int k n := by
  cases r with
  | w r => cases r with
    | c r => cases r with
      | s r => cases r; rfl
theorem VRel.inv_bool {b : Bool} {v' : Value} (r : VRel E h μ H (.bool b) v') : v' = .bool b := by
  cases r with
  | w r => cases r with
    | c r => cases r with
      | s r => cases r; rfl
theorem VRel.inv_string {s : ByteArray} {v' : Value} (r : VRel E h μ H (.string s) v') : v' = .string s := by
  cases r with
  | w r => cases r with
    | c r => cases r with
      | s r => cases r; rfl
theorem VRel.inv_nilslice {n c : Nat} {v' : Value} (r : VRel E h μ H (.slice none n c) v') : n = 0 ∧ c = 0 ∧ v' = .slice none 0 0 := by
  cases r with
  | w r => cases r with
    | c r => cases r with
      | s r => cases r; exact ⟨rfl, rfl, rfl⟩
theorem VRel.inv_slice {a : Addr} {n c : Nat} {v' : Value} (r : VRel E h μ H (.slice (some a) n c) v') :
    ∃ b off a' c', a = ⟨b, off, none⟩ ∧ v' = .slice (some a') n c' ∧ b < h.next ∧ n ≤ c ∧ c ≤ c' ∧ a'.spot = none ∧ (c' = 0 ∨ SliceAt E h μ H b off a' c') := by
  cases r with
  | w r => cases r with
    | c r => cases r with
      | s r => cases r with
        | slice b off n c a' c' hb hn hc hs ha => exact ⟨b, off, a', c', rfl, rfl, hb, hn, hc, hs, ha⟩
theorem VRel.inv_agg {a : Array Value} {v' : Value} (r : VRel E h μ H (.agg a) v') : ∃ a', v' = .agg a' ∧ All2 (CRel E h μ H) a.toList a'.toList := by
  cases r with
  | w r => cases r with
    | agg h1 => exact ⟨_, rfl, h1⟩
    | c r => cases r with
      | s r => cases r
theorem VRel.inv_tuple {a : Array Value} {v' : Value} (r : VRel E h μ H (.tuple a) v') : ∃ a', v' = .tuple a' ∧ All2 (WRel E h μ H) a.toList a'.toList := by
  cases r with
  | tuple h1 => exact ⟨_, rfl, h1⟩
  | w r => cases r with
    | c r => cases r with
      | s r => cases r
theorem VRel.inv_func {fn : Fn} {a c : Array Value} {v' : Value} (r : VRel E h μ H (.func fn a c) v') : ∃ a' c', v' = .func fn a' c' ∧ All2 (SRel E h μ H) a.toList a'.toList ∧ All2 (SRel E h μ H) c.toList c'.toList := by
  cases r with
  | w r => cases r with
    | c r => cases r with
      | s r => cases r
      | func fn h1 h2 => exact ⟨_, _, rfl, h1, h2⟩
theorem VRel.inv_nilfunc {v' : Value} (r : VRel E h μ H .nilFunc v') : v' = .nilFunc := by
  cases r with
  | w r => cases r with
    | c r => cases r with
      | s r => cases r; rfl
theorem VRel.inv_ice {e : TypeId} {x v' : Value} (r : VRel E h μ H (.iface e x) v') : IRel E μ.Z H (.iface e x) v' := by
  cases r with
  | w r => cases r with
    | c r => cases r with
      | s r => cases r with
        | ice r => exact r
theorem IRel.inv_fs {Z : Nat → Prop} {e n x : Nat} {cells : Array Value} {v' : Value} (r : IRel E Z H (FS e n x cells) v') :
    ∃ ys a' c' ti, v' = .slice a' n c' ∧ E.types e = some ti ∧ n ≤ c' ∧ ((x = 1 → c' = n) ∧ (a' = none ↔ x = 2) ∧ (a' = none → c' = 0)) ∧ cells.size = n * ti.size ∧ (n = 0 ∨ (∃ k o, a' = some ⟨k, o, none⟩ ∧ IceAt Z H e (c' * ti.size) ys k o)) ∧ All2 (IRel E Z H) cells.toList ys := by
  cases r with
  | fs _ _ _ _ ys a' c' ti ht hn hx hnil hnil0 hl hy hat hc =>
    exact ⟨ys, a', c', ti, rfl, ht, hn, ⟨hx, hnil, hnil0⟩, hl, hat, All2.of_get (by rw [Array.length_toList, hy]) fun i a b ha hb => hc i a b (by rwa [← Array.getElem?_toList]) hb⟩
theorem IRel.inv_fp {Z : Nat → Prop} {e off : Nat} {cells : Array Value} {v' : Value} (r : IRel E Z H (FP e off cells) v') :
    ∃ ys k o, v' = .pointer (some ⟨k, o + off, none⟩) ∧ IceAt Z H e 0 ys k o ∧ All2 (IRel E Z H) cells.toList ys := by
  cases r with
  | fp _ _ _ ys k o hy hat hc =>
    exact ⟨ys, k, o, rfl, hat, All2.of_get (by rw [Array.length_toList, hy]) fun i a b ha hb => hc i a b (by rwa [← Array.getElem?_toList]) hb⟩
theorem IRel.toS {v v' : Value} (r : IRel E μ.Z H v v') : SRel E h μ H v v' := by
  cases r with
  | bool b => exact .bool b
  | int k n => exact .int k n
  | string s => exact .string s
  | nilptr => exact .nilptr
  | nilslice => exact .nilslice
  | nilmap => exact .nilmap
  | nilfunc => exact .nilfunc
  | niliface => exact .niliface
  | amap r => exact .ice (.amap r)
  | fs e n x cells ys a' c' ti ht hn hx hnil hnil0 hl hy hat hc => exact .ice (.fs e n x cells ys a' c' ti ht hn hx hnil hnil0 hl hy hat hc)
  | fp e off cells ys k o hy hat hc => exact .ice (.fp e off cells ys k o hy hat hc)
theorem IRel.allC {xs ys : List Value} (r : All2 (IRel E μ.Z H) xs ys) : All2 (CRel E h μ H) xs ys := r.mono fun _ _ r => .s r.toS
theorem IRel.fs_of {Z : Nat → Prop} {e n x : Nat} {cells ys : List Value} {a' : Option Addr} {c' : Nat} {ti : TI} (ht : E.types e = some ti) (hn : n ≤ c') (hx : x = 1 → c' = n) (hnil : a' = none ↔ x = 2) (hnil0 : a' = none → c' = 0) (hl : cells.length = n * ti.size)
    (hat : n = 0 ∨ (∃ k o, a' = some ⟨k, o, none⟩ ∧ IceAt Z H e (c' * ti.size) ys k o)) (hc : All2 (IRel E Z H) cells ys) : IRel E Z H (FS e n x cells.toArray) (.slice a' n c') :=
  .fs e n x cells.toArray ys a' c' ti ht hn hx hnil hnil0 (by simpa using hl) (by simpa using hc.length.symm) hat fun i v v' hv hv' => by
    obtain ⟨b, h1, h2⟩ := hc.get (show cells[i]? = some v by simpa using hv)
    rw [hv'] at h1
    obtain rfl := Option.some.inj h1
    exact h2
theorem IRel.fp_of {Z : Nat → Prop} {e off : Nat} {cells : Array Value} {ys : List Value} {k o : Nat} (hat : IceAt Z H e 0 ys k o) (hc : All2 (IRel E Z H) cells.toList ys) : IRel E Z H (FP e off cells) (.pointer (some ⟨k, o + off, none⟩)) :=
  .fp e off cells ys k o (by rw [← Array.length_toList]; exact hc.length.symm) hat fun i v v' hv hv' => by
    obtain ⟨b, h1, h2⟩ := hc.get (show cells.toList[i]? = some v by rwa [Array.getElem?_toList])
    rw [hv'] at h1
    obtain rfl := Option.some.inj h1
    exact h2
theorem VRel.agg {a a' : List Value} (r : All2 (CRel E h μ H) a a') : VRel E h μ H (.agg a.toArray) (.agg a'.toArray) := .w (.agg (by simpa using r))
def SlotsRel (E : Env) (h : Heap) (μ : Place) (H : Mem) (s : Slots) (tmps : Array Value) : Prop := ∀ i, VRel E h μ H (s i) (tmps.getD i undef)
theorem SlotsRel.mono {h' : Heap} {μ' : Place} {H' : Mem} (e : Ext h μ H h' μ' H') {s : Slots} {tmps : Array Value} (r : SlotsRel E h μ H s tmps) : SlotsRel E h' μ' H' s tmps := fun i => (r i).mono e
theorem ev_rel {s : Slots} {a : Act} (r : SlotsRel E h μ H s a.tmps) {x : Operand} {v : Value} (hv : ev s x = some v) : VRel E h μ H v (a.eval x) := by
  cases x with
  | tmp t => simp only [ev, Option.some.injEq] at hv; subst hv; exact r t
  | const u =>
    simp only [ev] at hv
    split at hv
    · rename_i hc
      obtain rfl := Option.some.inj hv
      exact .s (.const hc)
    · cases hv
  | func f => simp only [ev, Option.some.injEq] at hv; subst hv; exact .w (.c (.func _ .nil .nil))
  | global g => simp [ev] at hv
theorem evs_rel {s : Slots} {a : Act} (r : SlotsRel E h μ H s a.tmps) : ∀ {xs : List Operand} {vs : List Value}, evs s xs = some vs → All2 (VRel E h μ H) vs (xs.map a.eval)
  | [], vs, hv => by simp only [evs, Option.some.injEq] at hv; subst hv; exact .nil
  | x :: l, vs, hv => by
    simp only [evs] at hv
    split at hv
    · rename_i v l' h1 h2
      obtain rfl := Option.some.inj hv
      exact .cons (ev_rel r h1) (evs_rel r h2)
    · cases hv
theorem evp_rel {s : Slots} {a : Act} (r : SlotsRel E h μ H s a.tmps) : ∀ {xs : List (Nat × Operand)} {vs : List (Nat × Value)}, evp s xs = some vs → All2 (fun p q => p.1 = q.1 ∧ VRel E h μ H p.2 q.2) vs (xs.map fun p => (p.1, a.eval p.2))
  | [], vs, hv => by simp only [evp, Option.some.injEq] at hv; subst hv; exact .nil
  | (i, x) :: l, vs, hv => by
    simp only [evp] at hv
    split at hv
    · rename_i v l' h1 h2
      obtain rfl := Option.some.inj hv
      exact .cons ⟨rfl, ev_rel r h1⟩ (evp_rel r h2)
    · cases hv
end
def Sim (E : Env) (base : Nat) (h : Heap) (μ : Place) (w : World) (h' : Heap) (v : Value) (r : Result Value) : Prop :=
  ∃ v' μ' w', r = .ok v' w' ∧ Rel E h' μ' w'.heap base ∧ Ext h μ w.heap h' μ' w'.heap ∧ Below base w w' ∧ VRel E h' μ' w'.heap v v'
section
variable {E : Env} {P : Program} {h : Heap} {μ : Place} {base : Nat} {w : World}
theorem Sim.pure (R : Rel E h μ w.heap base) {v v' : Value} (hv : VRel E h μ w.heap v v') : Sim E base h μ w h v (.ok v' w) :=
  ⟨v', μ, w, rfl, R, Ext.refl _ _ _, Below.refl _ _, hv⟩
theorem load_cells (R : Rel E h μ w.heap base) {b : Nat} {x : Blk} (hb : h.get b = some x) {off n : Nat} {xs : List Value} (hx : cellsAt x.cells off n = some xs) (P : Program) :
    ∃ ys, All2 (CRel E h μ w.heap) xs ys ∧ (loadCells ⟨(μ b).1, (μ b).2 + off, none⟩ n).run P w = .ok ys.toArray w := by
  obtain ⟨ys, h1, h2, h3⟩ := R.cells hb hx
  refine ⟨ys, h1, ?_⟩
  have := run_loadCells_list (P := P) w ⟨(μ b).1, (μ b).2 + off, none⟩ ys (fun j v hj => by rw [add_addr]; exact h3 j v hj)
  rwa [h2] at this
theorem cellsAt_len {cells xs : List Value} {off n : Nat} (h : cellsAt cells off n = some xs) : off + n ≤ cells.length ∧ xs = (cells.drop off).take n := by
  unfold cellsAt at h
  split at h
  · rename_i hl; exact ⟨hl, (Option.some.inj h).symm⟩
  · cases h
theorem ice_cells {Z : Nat → Prop} {e room : Nat} {ys xs cells : List Value} {k o off n : Nat} (hat : IceAt Z w.heap e room ys k o) (hc : All2 (IRel E Z w.heap) cells ys) (hx : cellsAt cells off n = some xs) (P : Program) :
    ∃ zs, All2 (IRel E Z w.heap) xs zs ∧ (loadCells ⟨k, o + off, none⟩ n).run P w = .ok zs.toArray w := by
  obtain ⟨hl, rfl⟩ := cellsAt_len hx
  obtain ⟨_, _, cs, _, fr, hH, h1, h2⟩ := hat
  refine ⟨(ys.drop off).take n, (hc.drop off).take n, ?_⟩
  have hlen : ((ys.drop off).take n).length = n := by rw [List.length_take, List.length_drop, ← hc.length]; omega
  have := run_loadCells_list (P := P) w ⟨k, o + off, none⟩ ((ys.drop off).take n) (fun j v hj => by
    rw [add_addr, cell_of hH]
    rw [List.getElem?_take] at hj
    split at hj
    · rw [List.getElem?_drop] at hj
      rw [Nat.add_assoc]
      exact h2 _ _ hj
    · cases hj)
  rwa [hlen] at this
theorem sim_load (ok : EnvOk E P) (R : Rel E h μ w.heap base) {t : TypeId} {a a' v : Value} (hl : aload E t a h = some v) (ha : VRel E h μ w.heap a a') : Sim E base h μ w h v ((Instr.loadAt t a').run P w) := by
  unfold aload at hl
  split at hl
  · rename_i ti b off ht
    obtain ⟨hb, rfl⟩ := ha.inv_ptr
    split at hl
    · rename_i x hx
      have hg := run_agg ok ht w
      have hs := run_size ok ht w
      simp only [Instr.loadAt, Instr.sureAddr, loadVar, pure_bind, Sem.run_bind, hg, Result.andThen_ok]
      split at hl
      · rename_i hd
        obtain ⟨xs, h1, rfl⟩ := Option.map_eq_some_iff.1 hl
        obtain ⟨ys, h2, h3⟩ := load_cells R hx h1 P
        simp only [hd, if_true, Sem.run_bind, hs, Result.andThen_ok, h3, Sem.run_pure]
        exact Sim.pure R (.agg h2)
      · rename_i hd
        obtain ⟨v', h1, h2⟩ := R.cell hx hl
        simp only [hd, Bool.false_eq_true, if_false, run_load, h1]
        exact Sim.pure R (.w (.c h2))
    · cases hl
  · rename_i ti e off cells ht
    obtain ⟨ys, k, o, rfl, hat, hc⟩ := ha.inv_ice.inv_fp
    have hg := run_agg ok ht w
    have hs := run_size ok ht w
    simp only [Instr.loadAt, Instr.sureAddr, loadVar, pure_bind, Sem.run_bind, hg, Result.andThen_ok]
    split at hl
    · rename_i hd
      obtain ⟨xs, h1, rfl⟩ := Option.map_eq_some_iff.1 hl
      obtain ⟨zs, h2, h3⟩ := ice_cells hat hc h1 P
      simp only [hd, if_true, Sem.run_bind, hs, Result.andThen_ok, h3, Sem.run_pure]
      exact Sim.pure R (.agg (IRel.allC h2))
    · rename_i hd
      obtain ⟨v', h1, h2⟩ := hc.get hl
      obtain ⟨_, _, cs, _, fr, hH, _, h3⟩ := hat
      simp only [hd, Bool.false_eq_true, if_false, run_load, cell_of hH, h3 _ _ h1]
      exact Sim.pure R (.s h2.toS)
  · cases hl
theorem sim_store (ok : EnvOk E P) (R : Rel E h μ w.heap base) {t : TypeId} {a a' x x' : Value} {h' : Heap} (hl : astore E t a x h = some h') (ha : VRel E h μ w.heap a a') (hx : VRel E h μ w.heap x x') :
    ∃ w', (Instr.storeAt t a' x').run P w = .ok () w' ∧ Rel E h' μ w'.heap base ∧ Ext h μ w.heap h' μ w'.heap ∧ Below base w w' := by
  unfold astore at hl
  split at hl
  · rename_i ti b off xs ht hc
    obtain ⟨hb, rfl⟩ := ha.inv_ptr
    have hcs := hx.cells hc
    split at hl
    · rename_i hlen
      obtain ⟨w', h1, h2, h3, h4⟩ := awrite_sim R hl hcs P
      refine ⟨w', ?_, h2, h3, h4⟩
      have hs := run_size ok ht w
      have hsz : x'.cells.size = ti.size := by rw [← Array.length_toList, ← hcs.length, hlen]
      simp only [Instr.storeAt, Instr.sureAddr, storeVar, pure_bind, Sem.run_bind, hs, Result.andThen_ok, hsz, ne_eq, not_true, if_false]
      exact h1
    · cases hl
  · cases hl
theorem sim_new (R : Rel E h μ w.heap base) (hbase : base ≤ w.heap.size) (T : TypeId) {xs : List Value} {c : Array Value} (hv : All2 (CRel E h μ w.heap) xs c.toList) : Sim E base h μ w (h.alloc ⟨T, true, xs⟩) (.pointer (some ⟨h.next, 0, none⟩)) ((do pure (Value.pointer (some (← newRow T c))) : Sem Value).run P w) := by
  have hl : xs.length = c.size := by rw [hv.length, Array.length_toList]
  have hR := R.alloc hbase T xs c (by omega) (fun i v hi => by
    obtain ⟨v', a1, a2⟩ := hv.get hi
    exact ⟨v', by rwa [Array.getElem?_toList] at a1, a2⟩)
  refine ⟨.pointer (some ⟨w.heap.size, 0, none⟩), _, w.alloc (.cells c T), ?_, hR, alloc_ext _ _ _ _ rfl _ _ R.ice, below_alloc' _ _ hbase _, ?_⟩
  · simp [newRow]
  · have := VRel.s (SRel.ptr (E := E) (h := h.alloc ⟨T, true, xs⟩) (μ := at_ μ h.next (w.heap.size, 0)) (H := (w.alloc (.cells c T)).heap) h.next 0 (by simp))
    simpa [at_] using this
theorem sim_alloc (ok : EnvOk E P) (R : Rel E h μ w.heap base) (hbase : base ≤ w.heap.size) {t : TypeId} {v : Value} {h' : Heap} (hl : aalloc E t h = some (v, h')) : Sim E base h μ w h' v ((Instr.alloc t true (.tuple #[])).run P w) := by
  unfold aalloc at hl
  split at hl
  · rename_i ti ht
    simp only [anew, Option.some.injEq, Prod.mk.injEq] at hl
    obtain ⟨rfl, rfl⟩ := hl
    obtain ⟨z, h1, h2, _⟩ := run_zero ok ht w
    obtain ⟨_, _, _, _, _, _, _, _, _, hz⟩ := ok.types t ti ht
    have := sim_new (P := P) R hbase t (xs := ti.zero) (c := z.cells) (by rw [h2]; exact CRel.consts hz)
    simpa only [Instr.alloc, Sem.run_bind, h1, Result.andThen_ok, newVar] using this
  · cases hl
theorem sim_box (R : Rel E h μ w.heap base) (hbase : base ≤ w.heap.size) {t : TypeId} {x x' v : Value} {h' : Heap} (hl : abox t x h = some (v, h')) (hx : VRel E h μ w.heap x x') : Sim E base h μ w h' v ((Instr.box t x').run P w) := by
  unfold abox at hl
  split at hl
  · rename_i xs hc
    simp only [anew, Option.some.injEq, Prod.mk.injEq] at hl
    obtain ⟨rfl, rfl⟩ := hl
    exact sim_new (P := P) R hbase t (hx.cells hc)
  · cases hl
theorem fold_set (xs : List Value) : ∀ (off j : Nat) (cs : Array Value), ((xs.zipIdx j).foldl (fun cs p => cs.setIfInBounds (off + p.2) p.1) cs).toList = setAll cs.toList (off + j) xs := by
  induction xs with
  | nil => intro off j cs; simp [setAll]
  | cons x r ih =>
    intro off j cs
    simp only [List.zipIdx_cons, List.foldl_cons, setAll]
    rw [ih off (j + 1)]
    simp [Nat.add_assoc]
theorem afill_rel {H : Mem} (place : Nat → Option (Nat × Nat)) : ∀ {ps : List (Nat × Value)} {qs : List (Nat × Value)} {cells out : List Value} {cs : Array Value}, afill place cells ps = some out → All2 (fun p q => p.1 = q.1 ∧ VRel E h μ H p.2 q.2) ps qs → All2 (CRel E h μ H) cells cs.toList →
    ∃ cs', Instr.fill place cs qs = some cs' ∧ All2 (CRel E h μ H) out cs'.toList
  | [], _, cells, out, cs, hf, .nil, hc => by
    simp only [afill, Option.some.injEq] at hf
    subst hf
    exact ⟨cs, rfl, hc⟩
  | (i, v) :: r, _, cells, out, cs, hf, .cons hv hr, hc => by
    rename_i q qr
    obtain ⟨j, v'⟩ := q
    obtain ⟨rfl, hv⟩ := hv
    simp only [afill] at hf
    split at hf
    · rename_i off size xs hp hx
      split at hf
      · rename_i hl
        have hxs := hv.cells hx
        have hn : v'.cells.size = xs.length := by rw [← Array.length_toList, hxs.length]
        have hcl : cs.size = cells.length := by rw [← Array.length_toList, hc.length]
        have hset : ∀ (a b : List Value) (o : Nat) (c d : List Value), All2 (CRel E h μ H) a b → All2 (CRel E h μ H) c d → All2 (CRel E h μ H) (setAll c o a) (setAll d o b) := by
          intro a b o c d hab
          induction hab generalizing o c d with
          | nil => intro h; exact h
          | cons h1 _ ih => intro h; exact ih _ _ _ (h.set o h1)
        obtain ⟨cs', h1, h2⟩ := afill_rel place (cs := (v'.cells.zipIdx.foldl (fun cs (c, j) => cs.setIfInBounds (off + j) c) cs)) hf hr (by
          have : (v'.cells.zipIdx.foldl (fun cs (c, j) => cs.setIfInBounds (off + j) c) cs).toList = setAll cs.toList off v'.cells.toList := by
            rw [← Array.foldl_toList, Array.toList_zipIdx]
            exact fold_set v'.cells.toList off 0 cs
          rw [this]
          exact hset _ _ _ _ _ hxs hc)
        refine ⟨cs', ?_, h2⟩
        simp only [Instr.fill, hp]
        rw [if_neg (by simp only [Bool.or_eq_true, decide_eq_true_eq]; omega)]
        exact h1
      · cases hf
    · cases hf
theorem mapM_places (ok : EnvOk E P) : ∀ (fs : List Field), (fs.all fun f => (E.types f.type).isSome) = true → ∀ w : World, (fs.mapM (fun (f : Field) => (do pure (f.offset, ← sizeOf f.type) : Sem (Nat × Nat)))).run P w = .ok (fs.map fun f => (f.offset, ((E.types f.type).map TI.size).getD 0)) w
  | [], _, w => rfl
  | f :: r, hf, w => by
    simp only [List.all_cons, Bool.and_eq_true] at hf
    obtain ⟨ti, ht⟩ := Option.isSome_iff_exists.1 hf.1
    have hs := run_size ok ht w
    have ih := mapM_places ok r hf.2 w
    simp only [List.mapM_cons, Sem.run_bind, hs, Result.andThen_ok, Sem.run_pure, ih, List.map_cons, ht, Option.map_some, Option.getD_some]
theorem sim_build (ok : EnvOk E P) (R : Rel E h μ w.heap base) {t : TypeId} {ps qs : List (Nat × Value)} {v : Value} (hl : abuild E t ps = some v) (hp : All2 (fun p q => p.1 = q.1 ∧ VRel E h μ w.heap p.2 q.2) ps qs) : Sim E base h μ w h v ((Instr.build t qs.toArray).run P w) := by
  unfold abuild at hl
  split at hl
  · rename_i ti ht
    obtain ⟨z, h1, h2, _⟩ := run_zero ok ht w
    obtain ⟨_, _, _, _, _, _, _, _, _, hz⟩ := ok.types t ti ht
    have hu := run_und ok ht w
    have hzr : All2 (CRel E h μ w.heap) ti.zero z.cells.toList := by rw [h2]; exact CRel.consts hz
    split at hl
    · rename_i fs hd
      split at hl
      · rename_i hall
        obtain ⟨out, h3, rfl⟩ := Option.map_eq_some_iff.1 hl
        have hm := mapM_places ok fs.toList hall w
        have hpl : (fun i => (fs.map fun f => (f.offset, ((E.types f.type).map TI.size).getD 0))[i]?) = placesOf E fs := by
          funext i
          simp only [placesOf, Array.getElem?_map]
          cases hi : fs[i]? with
          | none => rfl
          | some f =>
            obtain ⟨tf, htf⟩ := Option.isSome_iff_exists.1 (List.all_eq_true.1 hall f (Array.mem_toList_iff.2 (Array.mem_of_getElem? hi)))
            simp [htf]
        obtain ⟨cs', h4, h5⟩ := afill_rel (placesOf E fs) h3 hp hzr
        have hm2 : (fs.mapM (fun (f : Field) => (do pure (f.offset, ← sizeOf f.type) : Sem (Nat × Nat)))).run P w = .ok (fs.map fun f => (f.offset, ((E.types f.type).map TI.size).getD 0)) w := by
          rw [Array.mapM_eq_mapM_toList, Sem.run_map, hm, Result.andThen_ok, ← Array.toList_map, Array.toArray_toList]
        simp only [Instr.build, Sem.run_bind, h1, Result.andThen_ok, hu, hd, hm2, hpl, h4]
        exact Sim.pure R (.agg h5)
      · cases hl
    · rename_i n e hd
      split at hl
      · rename_i te hte
        obtain ⟨out, h3, rfl⟩ := Option.map_eq_some_iff.1 hl
        obtain ⟨cs', h4, h5⟩ := afill_rel _ h3 hp hzr
        have hs := run_size ok hte w
        simp only [Instr.build, Sem.run_bind, h1, Result.andThen_ok, hu, hd, hs, h4]
        exact Sim.pure R (.agg h5)
      · cases hl
    · cases hl
  · cases hl
end
end Go.Fw
