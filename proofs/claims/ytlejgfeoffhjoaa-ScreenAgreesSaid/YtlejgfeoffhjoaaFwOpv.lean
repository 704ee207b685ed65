/- Operations, fourth part: conversions, append, copy, clear, len, min, max. -/
import Derived.Test.YtlejgfeoffhjoaaFwOpu
import Derived.Laws.BytesArg
namespace Go.Fw
open Go.RowKit
section
variable {E : Env} {P : Program} {h : Heap} {μ : Place} {base : Nat} {w : World}
theorem byteCells_rel {H : Mem} (s : ByteArray) : All2 (CRel E h μ H) (byteCells s) (byteCells s) := by
  have : ∀ l : List UInt8, All2 (CRel E h μ H) (l.map fun b => Value.int .u8 b.toNat) (l.map fun b => Value.int .u8 b.toNat) := by
    intro l
    induction l with
    | nil => exact .nil
    | cons b r ih => exact .cons (.s (.int _ _)) ih
  exact this _
theorem byteCells_length (s : ByteArray) : (byteCells s).length = s.size := by
  rw [byteCells, List.length_map, Array.length_toList]; rfl
theorem le_grown (w : World) (need old : Nat) (e : TypeId) : need ≤ grownCap w need old e := Nat.le_add_right _ _
theorem sim_strBytes (ok : EnvOk E P) (R : Rel E h μ w.heap base) (hbase : base ≤ w.heap.size) {src dst e : TypeId} {ts td te : TI} (h1 : E.types src = some ts) (h2 : E.types dst = some td) (h3 : E.types e = some te) (d2 : td.desc = .slice e) (d3 : te.desc = .int .u8) (hsz : te.size = 1) (s : ByteArray) :
    Sim E base h μ w (h.alloc ⟨e, true, byteCells s⟩) (.slice (some ⟨h.next, 0, none⟩) s.size s.size) ((convert src dst (.string s)).run P w) := by
  have u1 := (ok.types src ts h1).1
  have u2 := (ok.types dst td h2).1
  have u3 := (ok.types e te h3).1
  rw [d2] at u2
  rw [d3] at u3
  rw [Lib.run_convert_string_bytes w src dst e s u1 u2 u3]
  have hnew := Lib.bytesWorld_at_new w e s
  have hcap := le_grown w s.size 0 e
  have hcs : (Lib.bytesCells w e s).size = grownCap w s.size 0 e := by
    simp only [Lib.bytesCells, Array.size_append, Array.size_map, Array.size_replicate]
    show s.size + (grownCap w s.size 0 e - s.size) = grownCap w s.size 0 e
    omega
  refine sim_row R hbase h3 (fr := ((Lib.bytesCells w e s).size, (Lib.bytesCells w e s).size + 1)) (Lib.bytesWorld w e s) ?_ hnew (fun k hk => by simp; omega) (by rw [byteCells_length, hcs]; exact hcap) (fun i v hi => ?_) hcap (by rw [hcs, hsz]; omega)
  · refine ⟨rfl, rfl, rfl, by rw [Lib.bytesWorld_size]; omega, fun k hk => Lib.bytesWorld_at_old w e s k hk⟩
  · have hil : i < s.size := by
      rcases Nat.lt_or_ge i s.size with h | h
      · exact h
      · rw [List.getElem?_eq_none (by rw [byteCells_length]; exact h)] at hi; cases hi
    have hc := Lib.bytesWorld_cell w e s i hil
    rw [cell_of hnew] at hc
    refine ⟨_, hc, ?_⟩
    have hl2 : i < s.data.toList.length := by rw [Array.length_toList]; exact hil
    have : v = .int .u8 (s.data.toList.getD i 0).toNat := by
      simp only [byteCells, List.getElem?_map, List.getElem?_eq_getElem hl2, Option.map_some, Option.some.injEq] at hi
      rw [← hi, List.getD_eq_getElem?_getD, List.getElem?_eq_getElem hl2, Option.getD_some]
    rw [this]
    exact .s (.int _ _)
theorem cellBytes_run {H : Mem} : ∀ {xs : List Value} {ys : List Value} {l : List UInt8}, cellBytes xs = some l → All2 (CRel E h μ H) xs ys → ∃ ns : List Int, ys = ns.map (Value.int .u8) ∧ l = ns.map fun n => UInt8.ofNat n.toNat
  | [], _, l, hc, .nil => by simp only [cellBytes, Option.some.injEq] at hc; subst hc; exact ⟨[], rfl, rfl⟩
  | v :: r, _, l, hc, .cons hv hr => by
    rename_i v' r'
    simp only [cellBytes] at hc
    split at hc
    · rename_i b l' h1 h2
      obtain rfl := Option.some.inj hc
      obtain ⟨ns, e1, e2⟩ := cellBytes_run h2 hr
      unfold cellByte at h1
      split at h1
      · rename_i n
        obtain rfl := Option.some.inj h1
        have : v' = .int .u8 n := by
          cases hv with
          | s hv => cases hv; rfl
        subst this
        exact ⟨n :: ns, by simp [e1], by simp [e2]⟩
      · cases h1
    · cases hc
theorem sim_convert (ok : EnvOk E P) (R : Rel E h μ w.heap base) (hbase : base ≤ w.heap.size) {src dst : TypeId} {x x' v : Value} {h' : Heap} (hl : aconvert E src dst x h = some (v, h')) (hx : VRel E h μ w.heap x x') : Sim E base h μ w h' v ((convert src dst x').run P w) := by
  unfold aconvert at hl
  split at hl
  · rename_i ts td h1 h2
    have u1 := run_und ok h1 w
    have u2 := run_und ok h2 w
    split at hl
    · rename_i k0 k k1 n d1 d2
      obtain rfl := hx.inv_int
      simp only [Option.some.injEq, Prod.mk.injEq] at hl
      obtain ⟨rfl, rfl⟩ := hl
      simp only [convert, Sem.run_bind, u1, u2, Result.andThen_ok, d1, d2]
      exact Sim.pure R (.int _ _)
    · rename_i k0 k1 n d1 d2
      obtain rfl := hx.inv_int
      simp only [Option.some.injEq, Prod.mk.injEq] at hl
      obtain ⟨rfl, rfl⟩ := hl
      simp only [convert, Sem.run_bind, u1, u2, Result.andThen_ok, d1, d2]
      exact Sim.pure R (.string _)
    · rename_i s d1 d2
      obtain rfl := hx.inv_string
      simp only [Option.some.injEq, Prod.mk.injEq] at hl
      obtain ⟨rfl, rfl⟩ := hl
      simp only [convert, Sem.run_bind, u1, u2, Result.andThen_ok, d1, d2]
      exact Sim.pure R (.string _)
    · rename_i e s d1 d2
      obtain rfl := hx.inv_string
      split at hl
      · rename_i te h3
        split at hl
        · rename_i d3
          split at hl
          · rename_i hsz
            simp only [arow, Option.some.injEq, Prod.mk.injEq] at hl
            obtain ⟨rfl, rfl⟩ := hl
            exact sim_strBytes ok R hbase h1 h2 h3 d2 d3 hsz s
          · cases hl
        · cases hl
      · cases hl
    · rename_i e n c d1 d2
      obtain ⟨_, _, rfl⟩ := hx.inv_nilslice
      split at hl
      · rename_i te h3
        have u3 := run_und ok h3 w
        split at hl
        · rename_i d3
          simp only [Option.some.injEq, Prod.mk.injEq] at hl
          obtain ⟨rfl, rfl⟩ := hl
          simp only [convert, Sem.run_bind, u1, u2, Result.andThen_ok, d1, d2, u3, d3, Conv.bytesToString]
          exact Sim.pure R (.string _)
        · cases hl
      · cases hl
    · rename_i e b off n c d1 d2
      obtain ⟨b, off', a', c', he, rfl, hb, hn, hc, hsp, ha⟩ := hx.inv_slice
      obtain ⟨rfl, rfl⟩ : _ = b ∧ _ = off' := by simpa using he
      split at hl
      · rename_i te x h3 hblk
        have u3 := run_und ok h3 w
        split at hl
        · rename_i d3
          split at hl
          · rename_i cs hcs
            obtain ⟨l, hl1, hl2⟩ := Option.map_eq_some_iff.1 hl
            simp only [Prod.mk.injEq] at hl2
            obtain ⟨rfl, rfl⟩ := hl2
            have : ∃ ys, All2 (CRel E h μ w.heap) cs ys ∧ (loadCells a' n).run P w = .ok ys.toArray w := by
              by_cases h0 : n = 0
              · subst h0
                have : cs = [] := by
                  unfold cellsAt at hcs
                  split at hcs
                  · simpa using (Option.some.inj hcs).symm
                  · cases hcs
                subst this
                exact ⟨[], .nil, rfl⟩
              · obtain ⟨s1, s2, _⟩ := ha.resolve_left (by omega)
                have ea : a' = ⟨(μ b).1, (μ b).2 + off, none⟩ := by cases a'; simp_all
                subst ea
                exact load_cells R hblk hcs P
            obtain ⟨ys, r1, r2⟩ := this
            obtain ⟨ns, rfl, rfl⟩ := cellBytes_run hl1 r1
            simp only [convert, Sem.run_bind, u1, u2, Result.andThen_ok, d1, d2, u3, d3]
            rw [run_bytesToString w a' n c' ns r2, foldl_push_bytes]
            rw [show ByteArray.empty.data = #[] from rfl, Array.empty_append]
            exact Sim.pure (w := w) R (.string (E := E) (h := h) (μ := μ) (H := w.heap) ⟨(ns.map fun n => UInt8.ofNat n.toNat).toArray⟩)
          · cases hl
        · cases hl
      · cases hl
    · rename_i e e' n x cells d1 d2
      obtain ⟨ys, a', c', ti, rfl, ht, hn, hx1, hlc, hat, hc⟩ := hx.inv_ice.inv_fs
      split at hl
      · rename_i he
        subst he
        split at hl
        · rename_i te h3
          have u3 := run_und ok h3 w
          rw [h3] at ht
          obtain rfl := Option.some.inj ht
          split at hl
          · rename_i d3
            split at hl
            · rename_i hsz
              obtain ⟨l, hl1, hl2⟩ := Option.map_eq_some_iff.1 hl
              simp only [Prod.mk.injEq] at hl2
              obtain ⟨rfl, rfl⟩ := hl2
              have hlen : cells.toList.length = n := by rw [Array.length_toList, hlc, hsz, Nat.mul_one]
              cases a' with
              | none =>
                obtain rfl : n = 0 := by have := hx1.2.2 rfl; omega
                have hy : ys = [] := List.eq_nil_of_length_eq_zero (by rw [← hc.length, hlen])
                have hl0 : l = [] := by
                  obtain ⟨ns, e1, e2⟩ := cellBytes_run hl1 (IRel.allC (h := h) hc)
                  rw [hy] at e1
                  cases ns with
                  | nil => exact e2
                  | cons => cases e1
                subst hl0
                simp only [convert, Sem.run_bind, u1, u2, Result.andThen_ok, d1, d2, u3, d3, Conv.bytesToString]
                exact Sim.pure R (.string _)
              | some a' =>
              have : (loadCells a' n).run P w = .ok ys.toArray w := by
                by_cases h0 : n = 0
                · subst h0
                  have : ys = [] := List.eq_nil_of_length_eq_zero (by rw [← hc.length, hlen])
                  subst this
                  rfl
                · obtain ⟨k, o, he, hat2⟩ := hat.resolve_left h0
                  obtain rfl := Option.some.inj he
                  have := run_loadCells_list (P := P) w ⟨k, o, none⟩ ys (fun j v hj => by
                    obtain ⟨_, _, cs, _, fr, hH, _, h2⟩ := hat2
                    rw [add_addr, cell_of hH]
                    exact h2 _ _ hj)
                  rwa [← hc.length, hlen] at this
              obtain ⟨ns, rfl, rfl⟩ := cellBytes_run hl1 (IRel.allC (h := h) hc)
              simp only [convert, Sem.run_bind, u1, u2, Result.andThen_ok, d1, d2, u3, d3]
              rw [run_bytesToString w a' n c' ns this, foldl_push_bytes]
              rw [show ByteArray.empty.data = #[] from rfl, Array.empty_append]
              exact Sim.pure (w := w) R (.string (E := E) (h := h) (μ := μ) (H := w.heap) ⟨(ns.map fun n => UInt8.ofNat n.toNat).toArray⟩)
            · cases hl
          · cases hl
        · cases hl
      · cases hl
    · cases hl
  · cases hl
theorem source_run (R : Rel E h μ w.heap base) {e : TypeId} {te : TI} (hte : E.types e = some te) {size m : Nat} (hsize : te.size = size) {x x' : Value} {cs : List Value} (hs : asource e size x h = some (m, cs)) (hx : VRel E h μ w.heap x x') :
    (Builtin.lenOf x').run P w = .ok m w ∧ ∃ ys, All2 (CRel E h μ w.heap) cs ys ∧ ∀ k, k * size ≤ cs.length → k ≤ m → (Builtin.firstCells size k x').run P w = .ok (ys.take (k * size)).toArray w := by
  unfold asource at hs
  split at hs
  · obtain ⟨_, _, rfl⟩ := hx.inv_nilslice
    simp only [Option.some.injEq, Prod.mk.injEq] at hs
    obtain ⟨rfl, rfl⟩ := hs
    exact ⟨rfl, [], .nil, fun k hk _ => by simp [Builtin.firstCells]⟩
  · rename_i b off n c
    obtain ⟨b, off', a', c', he, rfl, hb, hn, hc, hsp, ha⟩ := hx.inv_slice
    obtain ⟨rfl, rfl⟩ : _ = b ∧ _ = off' := by simpa using he
    split at hs
    · rename_i h0
      simp only [Option.some.injEq, Prod.mk.injEq] at hs
      obtain ⟨rfl, rfl⟩ := hs
      subst h0
      refine ⟨rfl, [], .nil, fun k hk hk' => ?_⟩
      obtain rfl : k = 0 := by omega
      simp [Builtin.firstCells, loadCells, loadCellsFrom]
    · rename_i h0
      split at hs
      · rename_i blk hblk
        obtain ⟨cs', hcs, he2⟩ := Option.map_eq_some_iff.1 hs
        simp only [Prod.mk.injEq] at he2
        obtain ⟨rfl, rfl⟩ := he2
        obtain ⟨s1, s2, _⟩ := ha.resolve_left (by omega)
        have ea : a' = ⟨(μ b).1, (μ b).2 + off, none⟩ := by cases a'; simp_all
        subst ea
        obtain ⟨ys, r1, r2, r3⟩ := R.cells hblk hcs
        refine ⟨rfl, ys, r1, fun k hk hk' => ?_⟩
        simp only [Builtin.firstCells]
        have := run_loadCells_list (P := P) w ⟨(μ b).1, (μ b).2 + off, none⟩ (ys.take (k * size)) (fun j v hj => by
          rw [List.getElem?_take] at hj
          split at hj
          · rw [add_addr]; exact r3 j v hj
          · cases hj)
        have hlen : (ys.take (k * size)).length = k * size := by
          rw [List.length_take, ← r1.length]; omega
        rwa [hlen] at this
      · cases hs
  · rename_i s
    obtain rfl := hx.inv_string
    split at hs
    · rename_i h1
      subst h1
      simp only [Option.some.injEq, Prod.mk.injEq] at hs
      obtain ⟨rfl, rfl⟩ := hs
      refine ⟨rfl, byteCells s, byteCells_rel s, fun k hk _ => ?_⟩
      simp only [Builtin.firstCells, Sem.run_pure]
      congr 1
      apply Array.ext'
      simp [byteCells, ByteArray.data_extract]
    · cases hs
  · rename_i e' n x cells
    obtain ⟨ys, a', c', ti, rfl, ht, hn, hx1, hlc, hat, hc⟩ := hx.inv_ice.inv_fs
    split at hs
    · rename_i he
      subst he
      simp only [Option.some.injEq, Prod.mk.injEq] at hs
      obtain ⟨rfl, rfl⟩ := hs
      rw [hte] at ht
      obtain rfl := Option.some.inj ht
      subst hsize
      refine ⟨rfl, ys, IRel.allC hc, fun k hk hk' => ?_⟩
      simp only [Builtin.firstCells]
      have hlen : (ys.take (k * te.size)).length = k * te.size := by rw [List.length_take, ← hc.length]; omega
      by_cases h0 : k = 0
      · subst h0
        cases a' <;> simp [loadCells, loadCellsFrom]
      · obtain ⟨k', o, rfl, hat2⟩ := hat.resolve_left (by omega)
        have := run_loadCells_list (P := P) w ⟨k', o, none⟩ (ys.take (k * te.size)) (fun j v hj => by
          obtain ⟨_, _, cs, _, fr, hH, _, h2⟩ := hat2
          rw [List.getElem?_take] at hj
          split at hj
          · rw [add_addr, cell_of hH]; exact h2 _ _ hj
          · cases hj)
        rwa [hlen] at this
    · cases hs
  · cases hs
theorem source_len {e : TypeId} {te : TI} (hte : E.types e = some te) {size m : Nat} (hsize : te.size = size) {x x' : Value} {H : Mem} {cs : List Value} (hs : asource e size x h = some (m, cs)) (hx : VRel E h μ H x x') : cs.length = m * size := by
  unfold asource at hs
  split at hs
  · simp only [Option.some.injEq, Prod.mk.injEq] at hs
    obtain ⟨rfl, rfl⟩ := hs
    simp
  · split at hs
    · simp only [Option.some.injEq, Prod.mk.injEq] at hs
      obtain ⟨rfl, rfl⟩ := hs
      simp
    · split at hs
      · obtain ⟨cs', hcs, he2⟩ := Option.map_eq_some_iff.1 hs
        simp only [Prod.mk.injEq] at he2
        obtain ⟨rfl, rfl⟩ := he2
        unfold cellsAt at hcs
        split at hcs
        · obtain rfl := Option.some.inj hcs
          simp; omega
        · cases hcs
      · cases hs
  · split at hs
    · rename_i h1
      subst h1
      simp only [Option.some.injEq, Prod.mk.injEq] at hs
      obtain ⟨rfl, rfl⟩ := hs
      simp [byteCells_length]
    · cases hs
  · obtain ⟨ys, a', c', ti, rfl, ht, hn, hx1, hlc, hat, hc⟩ := hx.inv_ice.inv_fs
    split at hs
    · rename_i he
      subst he
      simp only [Option.some.injEq, Prod.mk.injEq] at hs
      obtain ⟨rfl, rfl⟩ := hs
      rw [hte] at ht
      obtain rfl := Option.some.inj ht
      rw [Array.length_toList, hlc, hsize]
    · cases hs
  · cases hs
theorem cap_bound (need old bytes : Nat) (hlt : old < need) (hb : need * bytes ≤ 140737488355328) : ¬ (Builtin.nextslicecap need old * bytes > 2 ^ 48) := by
  have key : Builtin.nextslicecap need old ≤ 2 * need := by
    unfold Builtin.nextslicecap
    split
    · omega
    · split
      · omega
      · rename_i h1 h2
        have gb : ∀ (r c : Nat), c ≤ 2 * need → 256 ≤ need → Builtin.growBy need r c ≤ 2 * need := by
          intro r
          induction r with
          | zero => intro c hc _; exact hc
          | succ r ih =>
            intro c hc h256
            simp only [Builtin.growBy]
            split
            · exact hc
            · exact ih _ (by omega) h256
        exact gb 4 old (by omega) (by omega)
  have : Builtin.nextslicecap need old * bytes ≤ 2 * need * bytes := Nat.mul_le_mul_right _ key
  rw [Nat.mul_assoc] at this
  omega
theorem Rel.adopt {H H' : Mem} (R : Rel E h μ H base) (T : TypeId) (xs : List Value) (k o : Nat) (cs : Array Value) (fr : Nat × Nat) (hold : ∀ c x, h.get c = some x → (μ c).1 ≠ k) (hbase : base ≤ k) (hk : H'[k]? = some (.cells cs T fr)) (hkold : ∃ cs0, H[k]? = some (.cells cs0 T fr) ∧ cs0.size = cs.size) (hrest : ∀ j, j ≠ k → H'[j]? = H[j]?) (hcold : ¬ μ.Y k)
    (hfr : ∀ i, i < cs.size → (decide (fr.1 ≤ i) && decide (i < fr.2)) = false) (hl : o + xs.length ≤ cs.size) (hv : ∀ (i : Nat) (v : Value), xs[i]? = some v → ∃ v', cs[o + i]? = some v' ∧ CRel E h μ H v v') :
    Rel E (h.alloc ⟨T, true, xs⟩) (at_ μ h.next (k, o)) H' base ∧ Ext h μ H (h.alloc ⟨T, true, xs⟩) (at_ μ h.next (k, o)) H' := by
  have e : Ext h μ H (h.alloc ⟨T, true, xs⟩) (at_ μ h.next (k, o)) H' := by
    refine ⟨by simp, fun b hb => by simp [at_, Nat.ne_of_lt hb], fun b x' hb hx => ?_, fun b y hb hy _ => by simp only [Heap.get_alloc, Nat.ne_of_lt hb, if_false]; exact hy, fun b y h1 h2 hy => by
      have hb : b = h.next := by simp only [Heap.next_alloc] at h2; omega
      simp only [Heap.get_alloc, hb, if_true, Option.some.injEq] at hy
      rw [← hy], fun j cs' T' fr' hj => ?_, fun _ hk => hk, fun j hj => hrest j (fun e => hcold (e ▸ hj)), fun _ hk => .inl hk, ?_, fun _ hk => hk, fun _ hk => .inl hk⟩
    rotate_right
    · rcases Nat.lt_or_ge H'.size H.size with h | h
      · exfalso
        have h1 : H.size - 1 < H.size := by omega
        by_cases hjk : H.size - 1 = k
        · have h2 : k < H'.size := by
            rcases Nat.lt_or_ge k H'.size with h | h
            · exact h
            · rw [Array.getElem?_eq_none h] at hk; cases hk
          omega
        · have h3 := hrest _ hjk
          rw [Array.getElem?_eq_none (show H'.size ≤ H.size - 1 by omega), Array.getElem?_eq_getElem h1] at h3
          cases h3
      · exact h
    · simp only [Heap.get_alloc, Nat.ne_of_lt hb, if_false] at hx
      exact ⟨x', hx, rfl, rfl⟩
    · by_cases hjk : j = k
      · subst hjk
        obtain ⟨cs0, h0, hs⟩ := hkold
        rw [h0] at hj
        injection hj with hj
        injection hj with e1 e2 e3
        subst e1 e2 e3
        exact ⟨cs, fr, hk, hs.symm⟩
      · exact ⟨cs', fr', by rw [hrest j hjk]; exact hj, rfl⟩
  refine ⟨⟨fun b x hx => ?_, fun b b' x x' h1 h2 hne ho => ?_, fun b x hx ho hZ => ?_, fun k hk => Nat.lt_of_lt_of_le (R.ice k hk) e.grow⟩, e⟩
  rotate_right
  · simp only [Heap.get_alloc] at hx
    split at hx
    · rename_i eb; subst eb
      have hZ' : μ.Y k := by simpa [at_] using hZ
      exact hcold hZ'
    · rename_i eb
      refine R.cold b x hx ho ?_
      have hm : (at_ μ h.next (k, o)).at' b = μ.at' b := by simp [at_, eb]
      rw [hm] at hZ
      exact hZ
  · simp only [Heap.get_alloc] at hx
    split at hx
    · rename_i eb; subst eb
      obtain rfl := Option.some.inj hx
      refine ⟨by simp, cs, fr, by simpa only [at_, if_true] using hk, by simpa [at_] using hl, fun i v hi => ?_, fun _ => ⟨by simpa [at_] using hbase, hfr⟩⟩
      obtain ⟨v', a1, a2⟩ := hv i v hi
      exact ⟨v', by simpa [at_] using a1, a2.mono e⟩
    · rename_i eb
      obtain ⟨hlt, cs', fr', hH, hl', hc, hown⟩ := R.blk b x hx
      have hm : at_ μ h.next (k, o) b = μ b := by simp [at_, eb]
      refine ⟨by simp; omega, cs', fr', by rw [hm, hrest _ (hold b x hx)]; exact hH, by rw [hm]; exact hl', fun i v hi => ?_, fun ho => by rw [hm]; exact hown ho⟩
      obtain ⟨v', a1, a2⟩ := hc i v hi
      exact ⟨v', by rw [hm]; exact a1, a2.mono e⟩
  · have old : ∀ c y, (h.alloc ⟨T, true, xs⟩).get c = some y → c ≠ h.next → h.get c = some y := fun c y hy hc => by
      simpa only [Heap.get_alloc, hc, if_false] using hy
    by_cases c1 : b = h.next
    · subst c1
      simp only [at_, if_true, Ne.symm hne, if_false]
      exact Ne.symm (hold b' x' (old b' x' h2 (Ne.symm hne)))
    · by_cases c2 : b' = h.next
      · subst c2
        simp only [at_, if_true, hne, if_false]
        exact hold b x (old b x h1 hne)
      · simp only [at_, c1, c2, if_false]
        exact R.inj b b' x x' (old b x h1 c1) (old b' x' h2 c2) hne ho
end
end Go.Fw
