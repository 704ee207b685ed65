/- Operations, second part: rows, fields, elements, slices, numbers, conversions. -/
import Derived.Test.YtlejgfeoffhjoaaFwOps
import Derived.Lib.ConvBytes
namespace Go.Fw
open Go.RowKit
theorem zeros_length (z : List Value) : ∀ n, (zeros z n).length = n * z.length
  | 0 => by simp [zeros]
  | n + 1 => by simp [zeros, zeros_length z n, Nat.add_mul]; omega
theorem zeros_get (z : List Value) : ∀ (n k : Nat), k < n * z.length → (zeros z n)[k]? = z[k % z.length]?
  | 0, k, h => by simp at h
  | n + 1, k, h => by
    simp only [zeros]
    rcases Nat.lt_or_ge k z.length with hk | hk
    · rw [List.getElem?_append_left hk, Nat.mod_eq_of_lt hk]
    · rw [List.getElem?_append_right hk, zeros_get z n (k - z.length) (by rw [Nat.add_mul] at h; omega), ← Nat.mod_eq_sub_mod hk]
theorem zeros_array (z : Array Value) (n : Nat) : ((Array.range (n * z.size)).map (z[· % z.size]!)).toList = zeros z.toList n := by
  have hl : z.toList.length = z.size := Array.length_toList
  apply List.ext_getElem?
  intro k
  rcases Nat.lt_or_ge k (n * z.size) with hk | hk
  · rw [zeros_get _ _ _ (by rw [hl]; exact hk), hl]
    have hpos : 0 < z.size := by
      rcases Nat.eq_zero_or_pos z.size with h | h
      · rw [h] at hk; simp at hk
      · exact h
    have hm := Nat.mod_lt k hpos
    rw [Array.getElem?_toList, Array.getElem?_toList]
    simp [hk, hm]
  · rw [List.getElem?_eq_none (by simpa using hk), List.getElem?_eq_none (by rw [zeros_length, hl]; exact hk)]
section
variable {E : Env} {h : Heap} {μ : Place} {base : Nat}
theorem zeros_rel {H : Mem} {z : List Value} (hz : z.all okConst = true) : ∀ n, All2 (CRel E h μ H) (zeros z n) (zeros z n)
  | 0 => .nil
  | n + 1 => (CRel.consts hz).append (zeros_rel hz n)
theorem Rel.allocG {H H' : Mem} (R : Rel E h μ H base) (hbase : base ≤ H.size) (T : TypeId) (xs : List Value) (cs : Array Value) (fr : Nat × Nat) (hN : H'[H.size]? = some (.cells cs T fr)) (hold : ∀ k, k < H.size → H'[k]? = H[k]?)
    (hfr : ∀ k, k < cs.size → (decide (fr.1 ≤ k) && decide (k < fr.2)) = false) (hl : xs.length ≤ cs.size) (hv : ∀ (i : Nat) (v : Value), xs[i]? = some v → ∃ v', cs[i]? = some v' ∧ CRel E h μ H v v') :
    Rel E (h.alloc ⟨T, true, xs⟩) (at_ μ h.next (H.size, 0)) H' base ∧ Ext h μ H (h.alloc ⟨T, true, xs⟩) (at_ μ h.next (H.size, 0)) H' := by
  have inb : ∀ (k : Nat) o, H[k]? = some o → k < H.size := fun k o hk => by
    rcases Nat.lt_or_ge k H.size with h | h
    · exact h
    · rw [Array.getElem?_eq_none h] at hk; cases hk
  have e : Ext h μ H (h.alloc ⟨T, true, xs⟩) (at_ μ h.next (H.size, 0)) H' := by
    refine ⟨by simp, fun b hb => by simp [at_, Nat.ne_of_lt hb], fun b x' hb hx => ?_, fun b y hb hy _ => by simp only [Heap.get_alloc, Nat.ne_of_lt hb, if_false]; exact hy, fun b y h1 h2 hy => by
      have hb : b = h.next := by simp only [Heap.next_alloc] at h2; omega
      simp only [Heap.get_alloc, hb, if_true, Option.some.injEq] at hy
      rw [← hy], fun k cs T fr hk => ⟨cs, fr, ?_, rfl⟩, fun _ hk => hk, fun k hk => hold k (R.ice k hk), fun _ hk => .inl hk, ?_, fun _ hk => hk, fun _ hk => .inl hk⟩
    rotate_right
    · rcases Nat.lt_or_ge H.size H'.size with h | h
      · exact Nat.le_of_lt h
      · rw [Array.getElem?_eq_none h] at hN; cases hN
    · simp only [Heap.get_alloc, Nat.ne_of_lt hb, if_false] at hx
      exact ⟨x', hx, rfl, rfl⟩
    · rw [hold k (inb _ _ hk)]; exact hk
  refine ⟨⟨fun b x hx => ?_, fun b b' x x' h1 h2 hne ho => ?_, fun b x hx ho hZ => ?_, fun k hk => Nat.lt_of_lt_of_le (R.ice k hk) e.grow⟩, e⟩
  rotate_right
  · simp only [Heap.get_alloc] at hx
    split at hx
    · rename_i eb; subst eb
      have hZ' : μ.Y H.size := by simpa [at_] using hZ
      exact absurd (R.ice _ hZ') (Nat.lt_irrefl _)
    · rename_i eb
      refine R.cold b x hx ho ?_
      have hm : (at_ μ h.next (H.size, 0)).at' b = μ.at' b := by simp [at_, eb]
      rw [hm] at hZ
      exact hZ
  · simp only [Heap.get_alloc] at hx
    split at hx
    · rename_i eb; subst eb
      obtain rfl := Option.some.inj hx
      refine ⟨by simp, cs, fr, by simpa only [at_, if_true] using hN, by simpa [at_] using hl, fun i v hi => ?_, fun _ => ⟨by simpa [at_] using hbase, hfr⟩⟩
      obtain ⟨v', a1, a2⟩ := hv i v hi
      exact ⟨v', by simpa [at_] using a1, a2.mono e⟩
    · rename_i eb
      obtain ⟨hlt, cs', fr', hH, hl', hc, hown⟩ := R.blk b x hx
      have hm : at_ μ h.next (H.size, 0) b = μ b := by simp [at_, eb]
      refine ⟨by simp; omega, cs', fr', by rw [hm, hold _ (inb _ _ hH)]; exact hH, by rw [hm]; exact hl', fun i v hi => ?_, fun ho => by rw [hm]; exact hown ho⟩
      obtain ⟨v', a1, a2⟩ := hc i v hi
      exact ⟨v', by rw [hm]; exact a1, a2.mono e⟩
  · have old : ∀ c y, (h.alloc ⟨T, true, xs⟩).get c = some y → c ≠ h.next → h.get c = some y ∧ (μ c).1 < H.size := fun c y hy hc => by
      simp only [Heap.get_alloc, hc, if_false] at hy
      refine ⟨hy, ?_⟩
      obtain ⟨_, _, _, hH, _⟩ := R.blk c y hy
      exact inb _ _ hH
    by_cases c1 : b = h.next
    · subst c1
      have := old b' x' h2 (Ne.symm hne)
      simp only [at_, if_true, Ne.symm hne, if_false]
      omega
    · by_cases c2 : b' = h.next
      · subst c2
        have := old b x h1 hne
        simp only [at_, if_true, hne, if_false]
        omega
      · simp only [at_, c1, c2, if_false]
        exact R.inj b b' x x' (old b x h1 c1).1 (old b' x' h2 c2).1 hne ho
theorem sim_row {w : World} (R : Rel E h μ w.heap base) (hbase : base ≤ w.heap.size) {e : TypeId} {te : TI} (hte : E.types e = some te) {xs : List Value} {cs : Array Value} {fr : Nat × Nat} {n c' : Nat} (w' : World)
    (hw : Below w.heap.size w w') (hN : w'.heap[w.heap.size]? = some (.cells cs e fr))
    (hfr : ∀ k, k < cs.size → (decide (fr.1 ≤ k) && decide (k < fr.2)) = false) (hl : xs.length ≤ cs.size) (hv : ∀ (i : Nat) (v : Value), xs[i]? = some v → ∃ v', cs[i]? = some v' ∧ CRel E h μ w.heap v v') (hn : n ≤ c') (hc : c' * te.size ≤ cs.size) :
    Sim E base h μ w (h.alloc ⟨e, true, xs⟩) (.slice (some ⟨h.next, 0, none⟩) n n) (.ok (.slice (some ⟨w.heap.size, 0, none⟩) n c') w') := by
  obtain ⟨R', ex⟩ := R.allocG hbase e xs cs fr hN (fun k hk => hw.block k hk) hfr hl hv
  refine ⟨_, _, w', rfl, R', ex, hw.mono hbase, .s (.slice h.next 0 n n _ c' (by simp) (Nat.le_refl _) hn rfl (.inr ⟨by simp [at_], by simp [at_], fun x hx => ?_⟩))⟩
  simp only [Heap.get_alloc, if_true, Option.some.injEq] at hx
  subst hx
  exact ⟨te, cs, fr, hte, hN, by simpa using hc⟩
theorem below_drew_alloc (w : World) (o : Obj) : Below w.heap.size w (w.alloc o) := (Below.refl _ w).alloc (Nat.le_refl _) o
theorem get_rel {H : Mem} {xs : List Value} {c : Array Value} (hv : All2 (CRel E h μ H) xs c.toList) : ∀ (i : Nat) (v : Value), xs[i]? = some v → ∃ v', c[i]? = some v' ∧ CRel E h μ H v v' := fun i v hi => by
  obtain ⟨v', a1, a2⟩ := hv.get hi
  exact ⟨v', by rwa [Array.getElem?_toList] at a1, a2⟩
variable {P : Program} {w : World}
theorem sim_buildSlice (ok : EnvOk E P) (R : Rel E h μ w.heap base) (hbase : base ≤ w.heap.size) {t : TypeId} {n : Nat} {ps qs : List (Nat × Value)} {v : Value} {h' : Heap} (hl : abuildSlice E t n ps h = some (v, h')) (hp : All2 (fun p q => p.1 = q.1 ∧ VRel E h μ w.heap p.2 q.2) ps qs) :
    Sim E base h μ w h' v ((Instr.buildSlice t n qs.toArray).run P w) := by
  unfold abuildSlice at hl
  split at hl
  · rename_i ti ht
    split at hl
    · rename_i e hd
      split at hl
      · rename_i te hte
        split at hl
        · rename_i hle
          split at hl
          · rename_i out hf
            simp only [arow, Option.some.injEq, Prod.mk.injEq] at hl
            obtain ⟨rfl, rfl⟩ := hl
            have hu := run_und ok ht w
            have hs := run_size ok hte w
            obtain ⟨z, h1, h2, h3⟩ := run_zero ok hte w
            obtain ⟨_, _, _, _, _, _, _, _, hzl, hz⟩ := ok.types e te hte
            have hzr := zeros_rel (E := E) (h := h) (μ := μ) (H := w.heap) hz n
            have hlen : out.length = n * te.size := by
              have : ∀ (ps : List (Nat × Value)) (cells out : List Value), afill (fun i => some (i * te.size, te.size)) cells ps = some out → out.length = cells.length := by
                intro ps
                induction ps with
                | nil => intro cells out hf; simp only [afill, Option.some.injEq] at hf; rw [← hf]
                | cons p r ih =>
                  intro cells out hf
                  obtain ⟨i, v⟩ := p
                  simp only [afill] at hf
                  split at hf
                  · split at hf
                    · rw [ih _ _ hf, setAll_length]
                    · cases hf
                  · cases hf
              rw [this _ _ _ hf, zeros_length, hzl]
            have key : ∀ c0 : Array Value, ((Array.range (n * te.size)).map (c0[· % c0.size]!)).toList = zeros te.zero n → ∃ cs', Instr.fill (fun i => some (i * te.size, te.size)) ((Array.range (n * te.size)).map (c0[· % c0.size]!)) qs = some cs' ∧ All2 (CRel E h μ w.heap) out cs'.toList := fun c0 hz0 =>
              afill_rel _ (cs := (Array.range (n * te.size)).map (c0[· % c0.size]!)) hf hp (by rw [hz0]; exact hzr)
            have fin : ∀ cs' : Array Value, All2 (CRel E h μ w.heap) out cs'.toList → Sim E base h μ w (h.alloc ⟨e, true, out⟩) (.slice (some ⟨h.next, 0, none⟩) n n) (.ok (.slice (some ⟨w.heap.size, 0, none⟩) n n) (w.alloc (.cells cs' e))) := fun cs' h5 => by
              have hcs : cs'.size = n * te.size := by rw [← Array.length_toList, ← h5.length, hlen]
              exact sim_row R hbase hte (w.alloc (.cells cs' e)) (below_drew_alloc w _) (alloc_heap w _) (fr := (0, 0)) (by simp) (by omega) (get_rel h5) (Nat.le_refl n) (by omega)
            simp only [Instr.buildSlice, Sem.run_bind, hu, Result.andThen_ok, hd, hs]
            rw [if_neg (by omega)]
            by_cases h0 : n * te.size = 0
            · obtain ⟨cs', h4, h5⟩ := key #[] (by
                have : (zeros te.zero n).length = 0 := by rw [zeros_length, hzl]; exact h0
                rw [List.eq_nil_of_length_eq_zero this]
                simp [h0])
              have := fin cs' h5
              simp only [h0, if_true, pure_bind] at h4 ⊢
              rw [h4]
              simpa [newRow] using this
            · obtain ⟨cs', h4, h5⟩ := key z.cells (by
                have := zeros_array z.cells n
                rw [h3, h2] at this
                rw [h3]
                exact this)
              have := fin cs' h5
              simp only [h0, if_false, pure_bind, Sem.run_bind, h1, Result.andThen_ok]
              rw [h4]
              simpa [newRow] using this
          · cases hl
        · cases hl
      · cases hl
    · cases hl
  · cases hl
theorem wrap_i64 (n : Int) (h0 : 0 ≤ n) (h1 : n ≤ 9223372036854775807) : IntKind.i64.wrap n = n := by
  rw [IntKind.wrap_i64]; omega
theorem sim_makeSlice (ok : EnvOk E P) (R : Rel E h μ w.heap base) (hbase : base ≤ w.heap.size) {t : TypeId} {l c l' c' : Value} {v : Value} {h' : Heap} (hm : amakeSlice E t l c h = some (v, h')) (hl : VRel E h μ w.heap l l') (hc : VRel E h μ w.heap c c') :
    Sim E base h μ w h' v ((Instr.makeSlice t l' c').run P w) := by
  unfold amakeSlice at hm
  split at hm
  · rename_i ti n m ht
    obtain rfl := hl.inv_int
    obtain rfl := hc.inv_int
    split at hm
    · rename_i e hd
      split at hm
      · rename_i te hte
        split at hm
        · rename_i hcond
          obtain ⟨h0, rfl, hb, hx⟩ := hcond
          simp only [arow, Option.some.injEq, Prod.mk.injEq] at hm
          obtain ⟨rfl, rfl⟩ := hm
          have hu := run_und ok ht w
          have hs := run_size ok hte w
          obtain ⟨tti, hi1, hi2, hi3⟩ := run_info ok hte w
          obtain ⟨z, h1, h2, h3⟩ := run_zero ok hte w
          obtain ⟨_, _, _, _, _, _, _, _, hzl, hz⟩ := ok.types e te hte
          have hw := wrap_i64 n h0 hx
          have htl : (decide (n < 0) || decide ((tti.bytes : Int) * n > 2 ^ 48)) = false := by
            simp only [Bool.or_eq_false_iff, decide_eq_false_iff_not]
            rw [hi3]
            constructor <;> omega
          have hzr := zeros_rel (E := E) (h := h) (μ := μ) (H := w.heap) hz n.toNat
          have fin : ∀ c0 : Array Value, ((Array.range (n.toNat * te.size)).map (c0[· % c0.size]!)).toList = zeros te.zero n.toNat → Sim E base h μ w (h.alloc ⟨e, true, zeros te.zero n.toNat⟩) (.slice (some ⟨h.next, 0, none⟩) n.toNat n.toNat) (.ok (.slice (some ⟨w.heap.size, 0, none⟩) n.toNat n.toNat) (w.alloc (.cells ((Array.range (n.toNat * te.size)).map (c0[· % c0.size]!)) e))) := fun c0 hz0 => by
            have hsz : ((Array.range (n.toNat * te.size)).map (c0[· % c0.size]!)).size = n.toNat * te.size := by simp
            exact sim_row R hbase hte _ (below_drew_alloc w _) (alloc_heap w _) (fr := (0, 0)) (by simp) (by rw [zeros_length, hzl]; omega) (get_rel (by rw [hz0]; exact hzr)) (Nat.le_refl n.toNat) (by omega)
          simp only [Instr.makeSlice, asInt, asIntOf, Sem.run_bind, hu, Result.andThen_ok, hd, pure_bind, hi1, hw]
          rw [if_neg (by simp only [htl]; simp; omega)]
          simp only [Sem.run_bind, run_askRoom, Result.andThen_ok, hs]
          by_cases h0 : n.toNat * te.size = 0
          · have := fin #[] (by
              have : (zeros te.zero n.toNat).length = 0 := by rw [zeros_length, hzl]; exact h0
              rw [List.eq_nil_of_length_eq_zero this]
              simp [h0])
            simp only [h0, if_true] at this ⊢
            simpa [newRow] using this
          · have := fin z.cells (by
              have := zeros_array z.cells n.toNat
              rw [h3, h2] at this
              rw [h3]
              exact this)
            simp only [h0, if_false, Sem.run_bind, h1, Result.andThen_ok]
            simpa [newRow] using this
        · cases hm
      · cases hm
    · cases hm
  · cases hm
theorem sim_fieldAddr (ok : EnvOk E P) (R : Rel E h μ w.heap base) {t : TypeId} {x x' v : Value} {f : Nat} (hl : afieldAddr E t x f = some v) (hx : VRel E h μ w.heap x x') : Sim E base h μ w h v ((Instr.fieldAt t x' f).run P w) := by
  unfold afieldAddr at hl
  split at hl
  · rename_i ti b off ht
    obtain ⟨hb, rfl⟩ := hx.inv_ptr
    split at hl
    · rename_i fs hd
      split at hl
      · rename_i fd hf
        split at hl
        · rename_i tf htf
          split at hl
          · cases hl
          · rename_i hz
            obtain rfl := Option.some.inj hl
            have hu := run_und ok ht w
            have hs := run_size ok htf w
            simp only [Instr.fieldAt, Sem.run_bind, hu, Result.andThen_ok, hd, hf, Instr.sureAddr, pure_bind, fieldPlace, hs, hz, if_false, Sem.run_pure, add_addr]
            have := Sim.pure (w := w) R (.s (.ptr (E := E) (H := w.heap) (μ := μ) b (off + fd.offset) hb))
            simpa [Nat.add_assoc] using this
        · cases hl
      · cases hl
    · cases hl
  · rename_i ti e off cells ht
    obtain ⟨ys, k, o, rfl, hat, hc⟩ := hx.inv_ice.inv_fp
    split at hl
    · rename_i fs hd
      split at hl
      · rename_i fd hf
        split at hl
        · rename_i tf htf
          split at hl
          · cases hl
          · rename_i hz
            obtain rfl := Option.some.inj hl
            have hu := run_und ok ht w
            have hs := run_size ok htf w
            simp only [Instr.fieldAt, Sem.run_bind, hu, Result.andThen_ok, hd, hf, Instr.sureAddr, pure_bind, fieldPlace, hs, hz, if_false, Sem.run_pure, add_addr]
            have := Sim.pure (w := w) R (.s (.ice (IRel.fp_of (e := e) (off := off + fd.offset) hat hc)))
            simpa [Nat.add_assoc] using this
        · cases hl
      · cases hl
    · cases hl
  · cases hl
theorem IceAt.any {Z : Nat → Prop} {H : Mem} {e room : Nat} {ys : List Value} {k o : Nat} (hat : IceAt Z H e room ys k o) : IceAt Z H e 0 ys k o := by
  obtain ⟨h1, _, cs, T, fr, h2, h3, h4⟩ := hat
  exact ⟨h1, ⟨rfl, rfl⟩, cs, T, fr, h2, h3, h4⟩
theorem extract_rel {H : Mem} {a a' : List Value} (hr : All2 (CRel E h μ H) a a') {off n : Nat} {cs : List Value} (hc : cellsAt a off n = some cs) : All2 (CRel E h μ H) cs (a'.toArray.extract off (off + n)).toList := by
  unfold cellsAt at hc
  split at hc
  · obtain rfl := Option.some.inj hc
    have : (a'.toArray.extract off (off + n)).toList = (a'.drop off).take n := by
      simp [List.extract_eq_take_drop]
    rw [this]
    exact (hr.drop off).take n
  · cases hc
theorem sim_part (ok : EnvOk E P) (R : Rel E h μ w.heap base) {t : TypeId} {cs cs' : Array Value} {v : Value} {off : Nat} (hl : apart E t cs.toList off = some v) (hx : All2 (CRel E h μ w.heap) cs.toList cs'.toList) : Sim E base h μ w h v ((part t cs' off).run P w) := by
  unfold apart at hl
  split at hl
  · rename_i ti ht
    have hg := run_agg ok ht w
    have hs := run_size ok ht w
    simp only [part, Sem.run_bind, hg, Result.andThen_ok]
    split at hl
    · rename_i hd
      obtain ⟨xs, h1, rfl⟩ := Option.map_eq_some_iff.1 hl
      simp only [hd, if_true, Sem.run_bind, hs, Result.andThen_ok, Sem.run_pure]
      have := extract_rel hx h1
      rw [Array.toArray_toList] at this
      exact Sim.pure R (.w (.agg (by simpa using this)))
    · rename_i hd
      obtain ⟨v', h1, h2⟩ := hx.get hl
      rw [Array.getElem?_toList] at h1
      simp only [hd, Bool.false_eq_true, if_false, h1, Sem.run_pure]
      exact Sim.pure R (.w (.c h2))
  · cases hl
theorem sim_field (ok : EnvOk E P) (R : Rel E h μ w.heap base) {t : TypeId} {x x' v : Value} {f : Nat} (hl : afield E t x f = some v) (hx : VRel E h μ w.heap x x') : Sim E base h μ w h v ((Instr.field t x' f).run P w) := by
  unfold afield at hl
  split at hl
  · rename_i ti cs ht
    obtain ⟨a', rfl, hr⟩ := hx.inv_agg
    split at hl
    · rename_i fs hd
      split at hl
      · rename_i fd hf
        have hu := run_und ok ht w
        simp only [Instr.field, Sem.run_bind, hu, Result.andThen_ok, hd, hf, asAgg, pure_bind]
        exact sim_part ok R hl hr
      · cases hl
    · cases hl
  · cases hl
theorem sim_indexAddr (ok : EnvOk E P) (R : Rel E h μ w.heap base) {t : TypeId} {x x' i i' v : Value} (hl : aindexAddr E t x i = some v) (hx : VRel E h μ w.heap x x') (hi : VRel E h μ w.heap i i') : Sim E base h μ w h v ((Instr.indexAt t x' i').run P w) := by
  unfold aindexAddr at hl
  split at hl
  · rename_i ti b off n c k j ht
    obtain ⟨b, off', a', c', he, rfl, hb, hn, hc, hsp, ha⟩ := hx.inv_slice
    obtain ⟨rfl, rfl⟩ : _ = b ∧ _ = off' := by simpa using he
    obtain rfl := hi.inv_int
    split at hl
    · rename_i e hd
      split at hl
      · rename_i te hte
        split at hl
        · rename_i hr
          obtain rfl := Option.some.inj hl
          have hu := run_und ok ht w
          have hs := run_size ok hte w
          obtain ⟨s1, s2, _⟩ : SliceAt E h μ w.heap b off a' c' := ha.resolve_left (by omega)
          have ea : a' = ⟨(μ b).1, (μ b).2 + off, none⟩ := by cases a'; simp_all
          subst ea
          simp only [Instr.indexAt, asIntOf, Sem.run_bind, hu, Result.andThen_ok, hd, pure_bind]
          rw [if_pos hr]
          simp only [Sem.run_bind, hs, Result.andThen_ok, Sem.run_pure, add_addr]
          have := Sim.pure (w := w) R (.s (.ptr (E := E) (H := w.heap) (μ := μ) b (off + j.toNat * te.size) hb))
          simpa [Nat.add_assoc] using this
        · cases hl
      · cases hl
    · cases hl
  · rename_i ti b off k j ht
    obtain ⟨hb, rfl⟩ := hx.inv_ptr
    obtain rfl := hi.inv_int
    split at hl
    · rename_i n e hd
      split at hl
      · rename_i te hte
        split at hl
        · rename_i hr
          obtain rfl := Option.some.inj hl
          have hu := run_und ok ht w
          have hs := run_size ok hte w
          simp only [Instr.indexAt, asIntOf, Sem.run_bind, hu, Result.andThen_ok, hd, pure_bind, Instr.sureAddr]
          rw [if_pos hr]
          simp only [Sem.run_bind, hs, Result.andThen_ok, Sem.run_pure, add_addr]
          have := Sim.pure (w := w) R (.s (.ptr (E := E) (H := w.heap) (μ := μ) b (off + j.toNat * te.size) hb))
          simpa [Nat.add_assoc] using this
        · cases hl
      · cases hl
    · cases hl
  · rename_i ti e' n x cells k j ht
    obtain ⟨ys, a', c', ti', rfl, ht', hn, hx1, hl1, hat, hc⟩ := hx.inv_ice.inv_fs
    obtain rfl := hi.inv_int
    split at hl
    · rename_i e hd
      split at hl
      · rename_i te hte
        split at hl
        · rename_i he
          subst he
          split at hl
          · rename_i hr
            obtain rfl := Option.some.inj hl
            have hu := run_und ok ht w
            have hs := run_size ok hte w
            obtain ⟨k', o, rfl, hat2⟩ := hat.resolve_left (by omega)
            simp only [Instr.indexAt, asIntOf, Sem.run_bind, hu, Result.andThen_ok, hd, pure_bind]
            rw [if_pos hr]
            simp only [Sem.run_bind, hs, Result.andThen_ok, Sem.run_pure, add_addr]
            exact Sim.pure (w := w) R (.s (.ice (IRel.fp_of (e := e) (off := j.toNat * te.size) hat2.any hc)))
          · cases hl
        · cases hl
      · cases hl
    · cases hl
  · rename_i ti e' off cells k j ht
    obtain ⟨ys, k', o, rfl, hat, hc⟩ := hx.inv_ice.inv_fp
    obtain rfl := hi.inv_int
    split at hl
    · rename_i n e hd
      split at hl
      · rename_i te hte
        split at hl
        · rename_i hr
          obtain rfl := Option.some.inj hl
          have hu := run_und ok ht w
          have hs := run_size ok hte w
          simp only [Instr.indexAt, asIntOf, Sem.run_bind, hu, Result.andThen_ok, hd, pure_bind, Instr.sureAddr]
          rw [if_pos hr]
          simp only [Sem.run_bind, hs, Result.andThen_ok, Sem.run_pure, add_addr]
          have := Sim.pure (w := w) R (.s (.ice (IRel.fp_of (e := e') (off := off + j.toNat * te.size) hat hc)))
          simpa [Nat.add_assoc] using this
        · cases hl
      · cases hl
    · cases hl
  · cases hl
theorem sim_index (ok : EnvOk E P) (R : Rel E h μ w.heap base) {t : TypeId} {x x' i i' v : Value} (hl : aindex E t x i = some v) (hx : VRel E h μ w.heap x x') (hi : VRel E h μ w.heap i i') : Sim E base h μ w h v ((Instr.index t x' i').run P w) := by
  unfold aindex at hl
  split at hl
  · rename_i ti s k j ht
    obtain rfl := hx.inv_string
    obtain rfl := hi.inv_int
    split at hl
    · rename_i hd
      split at hl
      · rename_i hr
        obtain ⟨b, hb, rfl⟩ := Option.map_eq_some_iff.1 hl
        have hu := run_und ok ht w
        simp only [Instr.index, asIntOf, Sem.run_bind, hu, Result.andThen_ok, hd, pure_bind, hr, if_true, hb]
        exact Sim.pure R (.int _ _)
      · cases hl
    · cases hl
  · rename_i ti cs k j ht
    obtain ⟨a', rfl, hr'⟩ := hx.inv_agg
    obtain rfl := hi.inv_int
    split at hl
    · rename_i n e hd
      split at hl
      · rename_i te hte
        split at hl
        · rename_i hr
          have hu := run_und ok ht w
          have hs := run_size ok hte w
          simp only [Instr.index, asIntOf, Sem.run_bind, hu, Result.andThen_ok, hd, pure_bind]
          rw [if_pos hr]
          simp only [Sem.run_bind, hs, Result.andThen_ok]
          exact sim_part ok R hl hr'
        · cases hl
      · cases hl
    · cases hl
  · cases hl
theorem sim_extract (R : Rel E h μ w.heap base) {x x' v : Value} {i : Nat} (hl : aextract x i = some v) (hx : VRel E h μ w.heap x x') : Sim E base h μ w h v ((Instr.extract x' i).run P w) := by
  unfold aextract at hl
  split at hl
  · obtain ⟨a', rfl, hr⟩ := hx.inv_tuple
    obtain ⟨v', h1, h2⟩ := hr.get (by rwa [Array.getElem?_toList])
    rw [Array.getElem?_toList] at h1
    simp only [Instr.extract, h1, Sem.run_pure]
    exact Sim.pure R (.w h2)
  · cases hl
end
end Go.Fw
