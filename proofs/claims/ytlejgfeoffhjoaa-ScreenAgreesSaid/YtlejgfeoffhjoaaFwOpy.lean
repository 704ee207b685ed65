/- One operation, whichever it is. -/
import Derived.Test.YtlejgfeoffhjoaaFwOpx
namespace Go.Fw
open Go.RowKit
def CallSim (E : Env) (P : Program) (cf : CallF) : Prop := ∀ f args h v h', cf f args h = some (v, h') →
  (∃ fn, E.funcs f = some fn ∧ fn.body.isSome = true) ∧
  ∀ (μ : Place) (base : Nat) (w : World) (args' : Array Value), Rel E h μ w.heap base → base ≤ w.heap.size → All2 (VRel E h μ w.heap) args args'.toList →
    Calls P f args' w fun e w' => ∃ v' μ', e = .returned v' ∧ Rel E h' μ' w'.heap base ∧ Ext h μ w.heap h' μ' w'.heap ∧ Below base w w' ∧ VRel E h' μ' w'.heap v v'
section
variable {E : Env} {P : Program} {h : Heap} {μ : Place} {base : Nat} {w : World}
def shut (μ : Place) (N : Nat) : Place := ⟨μ.at', μ.Z, fun k => μ.Y k ∨ k < N, fun k hk => .inl (μ.zy k hk)⟩
theorem Ext.ro (h : Heap) (μ : Place) (N : Nat) (H : Mem) : Ext0 h μ H h.ro (shut μ N) H := by
  refine ⟨Nat.le_refl _, fun _ _ => rfl, fun b x' hb hx => ?_, fun k cs T fr hk => ⟨cs, fr, hk, rfl⟩, fun _ hk => hk, fun _ _ => rfl⟩
  · have hb' : b < h.next := hb
    simp only [Heap.ro, hb', if_true] at hx
    obtain ⟨x, h1, rfl⟩ := Option.map_eq_some_iff.1 hx
    exact ⟨x, h1, rfl⟩
theorem Rel.ro {H : Mem} (R : Rel E h μ H base) (base' : Nat) : Rel E h.ro (shut μ H.size) H base' := by
  have key : ∀ b x, h.ro.get b = some x → ∃ y, h.get b = some y ∧ x = { y with own := false } := fun b x hx => by
    have hn : h.ro.get b = if b < h.next then (h.get b).map (fun x => { x with own := false }) else h.get b := rfl
    rw [hn] at hx
    split at hx
    · obtain ⟨y, h1, rfl⟩ := Option.map_eq_some_iff.1 hx
      exact ⟨y, h1, rfl⟩
    · rename_i hb
      exact absurd (R.blk b x hx).1 hb
  refine ⟨fun b x hx => ?_, fun b b' x x' h1 h2 hne ho => ?_, fun b x hx ho => ?_, fun k hk => hk.elim (R.ice k) id⟩
  · obtain ⟨y, hy, rfl⟩ := key b x hx
    obtain ⟨hlt, cs, fr, hH, hl, hc, _⟩ := R.blk b y hy
    exact ⟨hlt, cs, fr, hH, hl, fun i v hi => let ⟨v', a1, a2⟩ := hc i v hi; ⟨v', a1, a2.mono0 (Ext.ro h μ _ H)⟩, fun ho => by cases ho⟩
  · obtain ⟨y, hy, rfl⟩ := key b x h1
    cases ho
  · obtain ⟨y, hy, rfl⟩ := key b x hx
    cases ho
theorem CallSim.ro {cf : CallF} (c : CallSim E P cf) : CallSim E P (roCall cf) := by
  intro f args h v h' hl
  unfold roCall at hl
  split at hl
  · rename_i v2 h2 hcf
    simp only [Option.some.injEq, Prod.mk.injEq] at hl
    obtain ⟨rfl, rfl⟩ := hl
    obtain ⟨hf, hc⟩ := c f args h.ro v2 h2 hcf
    refine ⟨hf, fun μ base w args' R hbase ha => ?_⟩
    refine Calls.mono (hc (shut μ w.heap.size) w.heap.size w args' (R.ro _) (Nat.le_refl _) (ha.mono fun _ _ r => r.mono0 (Ext.ro h μ _ w.heap))) fun e w' he => ?_
    obtain ⟨v', μ', rfl, R', ex, bl, hv⟩ := he
    have hnx : h.next ≤ h2.next := ex.next
    have old : ∀ b x, b < h.next → h.get b = some x → h2.get b = some { x with own := false } := fun b x hb hx => ex.keep b { x with own := false } hb (by simp only [Heap.ro, hb, if_true, hx, Option.map_some]) rfl
    let μ2 : Place := ⟨μ'.at', μ'.Z, fun k => μ.Y k ∨ μ'.Z k, fun k hk => .inr hk⟩
    have zz : ∀ k, μ'.Z k → μ.Z k ∨ w.heap.size ≤ k := fun k hk => (ex.iced k hk).imp id fun hn => Nat.not_lt.1 fun hlt => hn (.inr hlt)
    have e1 : Ext0 h2 μ' w'.heap (h.merge h2) μ2 w'.heap := by
      refine ⟨Nat.le_refl _, fun _ _ => rfl, fun b x' hb hx => ?_, fun k cs T fr hk => ⟨cs, fr, hk, rfl⟩, fun _ hk => hk, fun _ _ => rfl⟩
      simp only [Heap.merge] at hx
      split at hx
      · rename_i hb2
        exact ⟨_, old b x' hb2 hx, rfl⟩
      · exact ⟨x', hx, rfl⟩
    have e2 : Ext h μ w.heap (h.merge h2) μ2 w'.heap := by
      refine ⟨hnx, ex.mu, fun b x' hb hx => ?_, fun b x hb hx ho => ?_, fun b x h1 h2' hx => ?_, ex.mem, ex.ice, fun k hk => ex.icy k (.inl hk), fun k hk => (zz k hk).imp id fun h hy => absurd (R.ice k hy) (Nat.not_lt.2 h), ex.grow, fun k hk => .inl hk, fun k hk => hk⟩
      · simp only [Heap.merge, hb, if_true] at hx
        exact ⟨x', hx, rfl, rfl⟩
      · simp only [Heap.merge, hb, if_true]
        exact hx
      · simp only [Heap.merge, Nat.not_lt.2 h1, if_false] at hx
        exact ex.fresh b x h1 h2' hx
    have inb : ∀ (k : Nat) o, w.heap[k]? = some o → k < w.heap.size := fun k o hk => by
      rcases Nat.lt_or_ge k w.heap.size with h | h
      · exact h
      · rw [Array.getElem?_eq_none h] at hk; cases hk
    refine ⟨v', μ2, rfl, ⟨fun b x hx => ?_, fun b b' x x' h1 h2' hne ho => ?_, fun b x hx ho hZ => ?_, fun k hk => hk.elim (fun h => Nat.lt_of_lt_of_le (R.ice k h) ex.grow) fun h => R'.ice k (μ'.zy k h)⟩, e2, bl.mono hbase, hv.mono0 e1⟩
    · by_cases hb : b < h.next
      · simp only [Heap.merge, hb, if_true] at hx
        obtain ⟨hlt, cs, fr, hH, hl, hc, hown⟩ := R.blk b x hx
        have hm : μ2.at' b = μ.at' b := ex.mu b hb
        refine ⟨Nat.lt_of_lt_of_le hlt hnx, cs, fr, ?_, ?_, fun i v hi => ?_, ?_⟩
        · rw [hm, bl.block _ (inb _ _ hH)]; exact hH
        · rw [hm]; exact hl
        · obtain ⟨u, a1, a2⟩ := hc i v hi
          exact ⟨u, by rw [hm]; exact a1, a2.mono e2⟩
        · rw [hm]; exact hown
      · simp only [Heap.merge, hb, if_false] at hx
        obtain ⟨hlt, cs, fr, hH, hl, hc, hown⟩ := R'.blk b x hx
        exact ⟨hlt, cs, fr, hH, hl, fun i v hi => let ⟨u, a1, a2⟩ := hc i v hi; ⟨u, a1, a2.mono0 e1⟩, fun ho => ⟨Nat.le_trans hbase (hown ho).1, (hown ho).2⟩⟩
    ·
      have lo : ∀ c y, c < h.next → h.get c = some y → (μ2.at' c).1 < w.heap.size := fun c y hc hy => by
        obtain ⟨_, cs, fr, hH, _⟩ := R.blk c y hy
        have hm : μ2.at' c = μ.at' c := ex.mu c hc
        rw [hm]
        exact inb _ _ hH
      by_cases hb : b < h.next
      · simp only [Heap.merge, hb, if_true] at h1
        by_cases hb' : b' < h.next
        · simp only [Heap.merge, hb', if_true] at h2'
          have hm : μ2.at' b = μ.at' b := ex.mu b hb
          have hm' : μ2.at' b' = μ.at' b' := ex.mu b' hb'
          rw [hm, hm']
          exact R.inj b b' x x' h1 h2' hne ho
        · simp only [Heap.merge, hb', if_false] at h2'
          have h3 := lo b x hb h1
          have h4 := ((R'.blk b' x' h2').2)
          obtain ⟨_, _, _, _, _, ho2⟩ := h4
          have := (ho2 (ex.fresh b' x' (Nat.not_lt.1 hb') (R'.blk b' x' h2').1 h2')).1
          show (μ2.at' b).1 ≠ (μ'.at' b').1
          omega
      · simp only [Heap.merge, hb, if_false] at h1
        by_cases hb' : b' < h.next
        · simp only [Heap.merge, hb', if_true] at h2'
          exact R'.inj b b' x _ h1 (old b' x' hb' h2') hne ho
        · simp only [Heap.merge, hb', if_false] at h2'
          exact R'.inj b b' x x' h1 h2' hne ho
    · by_cases hb : b < h.next
      · simp only [Heap.merge, hb, if_true] at hx
        have hm : μ2.at' b = μ.at' b := ex.mu b hb
        rw [hm] at hZ
        rcases hZ with hZ | hZ
        · exact R.cold b x hx ho hZ
        · rcases zz _ hZ with hZ | hZ
          · exact R.cold b x hx ho (μ.zy _ hZ)
          · obtain ⟨_, cs, fr, hH, _⟩ := R.blk b x hx
            have := inb _ _ hH
            omega
      · simp only [Heap.merge, hb, if_false] at hx
        rcases hZ with hZ | hZ
        · exact R'.cold b x hx ho (ex.iceY _ (.inl hZ))
        · exact R'.cold b x hx ho (μ'.zy _ hZ)
  · cases hl
theorem Rel.none {H : Mem} (μ : Place) (base : Nat) (hice : ∀ k, μ.Y k → k < H.size) : Rel E Heap.none μ H base := by
  refine ⟨fun b x hx => ?_, fun b b' x x' h1 => ?_, fun b x hx => ?_, hice⟩
  · cases hx
  · cases h1
  · cases hx
theorem Rel.stay {H H' : Mem} (R : Rel E h μ H base) (hs : ∀ k, k < H.size → H'[k]? = H[k]?) (hg : H.size ≤ H'.size) (μ' : Place) (hat : μ'.at' = μ.at') (z1 : ∀ k, μ.Z k → μ'.Z k) (z2 : ∀ k, μ'.Z k → μ.Z k ∨ H.size ≤ k) (y1 : ∀ k, μ.Y k → μ'.Y k) (y2 : ∀ k, μ'.Y k → μ.Y k ∨ μ'.Z k) (y3 : ∀ k, μ'.Y k → k < H'.size) :
    Rel E h μ' H' base ∧ Ext h μ H h μ' H' := by
  obtain ⟨at0, Z', Y', zy'⟩ := μ'
  obtain rfl : at0 = μ.at' := hat
  have inb : ∀ (k : Nat) o, H[k]? = some o → k < H.size := fun k o hk => by
    rcases Nat.lt_or_ge k H.size with h | h
    · exact h
    · rw [Array.getElem?_eq_none h] at hk; cases hk
  have e : Ext h μ H h ⟨μ.at', Z', Y', zy'⟩ H' := ⟨Nat.le_refl _, fun _ _ => rfl, fun _ x' _ hx => ⟨x', hx, rfl, rfl⟩, fun _ _ _ hx _ => hx, fun _ _ h1 h2 _ => absurd h2 (Nat.not_lt.2 h1), fun k cs T fr hk => ⟨cs, fr, by rw [hs k (inb _ _ hk)]; exact hk, rfl⟩, z1, fun k hk => hs k (R.ice k hk), fun k hk => (z2 k hk).imp id fun h hy => absurd (R.ice k hy) (Nat.not_lt.2 h), hg, y1, y2⟩
  refine ⟨⟨fun b x hx => ?_, R.inj, fun b x hx ho hZ => ?_, y3⟩, e⟩
  · obtain ⟨hlt, cs, fr, hH, hl, hc, hown⟩ := R.blk b x hx
    exact ⟨hlt, cs, fr, by rw [hs _ (inb _ _ hH)]; exact hH, hl, fun i v hi => let ⟨v', a1, a2⟩ := hc i v hi; ⟨v', a1, a2.mono e⟩, hown⟩
  · have hZ2 : μ.Y (μ.at' b).1 ∨ H.size ≤ (μ.at' b).1 := (y2 _ hZ).elim .inl fun h => (z2 _ h).imp (μ.zy _) id
    rcases hZ2 with h1 | h1
    · exact R.cold b x hx ho h1
    · obtain ⟨hlt, cs, fr, hH, hl, hc, hown⟩ := R.blk b x hx
      have := inb _ _ hH
      exact absurd this (Nat.not_lt.2 h1)
theorem sim_makeMap {w : World} (R : Rel E h μ w.heap base) (hbase : base ≤ w.heap.size) (t : TypeId) : Sim E base h μ w h AX ((Instr.makeMap t none).run P w) := by
  have bl : Below w.heap.size w (w.alloc (.map #[] 0)) := (Below.refl _ w).alloc (Nat.le_refl _) _
  obtain ⟨R3, ex⟩ := R.stay (H' := (w.alloc (.map #[] 0)).heap) (fun k hk => bl.block k hk) bl.size μ rfl (fun _ h => h) (fun _ h => .inl h) (fun _ h => h) (fun _ h => .inl h) (fun k hk => Nat.lt_of_lt_of_le (R.ice k hk) bl.size)
  exact ⟨.map (some w.heap.size), μ, w.alloc (.map #[] 0), rfl, R3, ex, bl.mono hbase, .w (.c (.s (.ice (.amap _))))⟩
inductive NRel (E : Env) (Z : Nat → Prop) (H : Mem) : Value → Value → Prop
  | s {v v' : Value} : IRel E Z H v v' → NRel E Z H v v'
  | agg {a a' : Array Value} : All2 (IRel E Z H) a.toList a'.toList → NRel E Z H (.agg a) (.agg a')
  | func (fn : Fn) {a a' c c' : Array Value} : All2 (IRel E Z H) a.toList a'.toList → All2 (IRel E Z H) c.toList c'.toList → NRel E Z H (.func fn a c) (.func fn a' c')
theorem NRel.toW {v v' : Value} {H : Mem} (r : NRel E μ.Z H v v') : WRel E h μ H v v' := by
  cases r with
  | s r => exact .c (.s r.toS)
  | agg h1 => exact .agg (IRel.allC h1)
  | func fn h1 h2 => exact .c (.func fn (h1.mono fun _ _ r => r.toS) (h2.mono fun _ _ r => r.toS))
theorem flat_i {H : Mem} {v v' : Value} (hf : flat v = true) (r : SRel E h μ H v v') : IRel E μ.Z H v v' := by
  cases r with
  | bool b => exact .bool b
  | int k n => exact .int k n
  | string s => exact .string s
  | nilptr => exact .nilptr
  | ptr b off hb => cases hf
  | nilslice => exact .nilslice
  | slice => cases hf
  | nilmap => exact .nilmap
  | nilfunc => exact .nilfunc
  | niliface => exact .niliface
  | ice r => exact r
theorem flat_c {H : Mem} {v v' : Value} (hf : flat v = true) (r : CRel E h μ H v v') : IRel E μ.Z H v v' := by
  cases r with
  | s r => exact flat_i hf r
  | func => cases hf
theorem noPtr_rel {H : Mem} {v v' : Value} (hf : noPtr v = true) (r : VRel E h μ H v v') : NRel E μ.Z H v v' := by
  cases r with
  | tuple => cases hf
  | any => cases hf
  | w r =>
    cases r with
    | agg h1 =>
      rename_i a a'
      refine .agg ?_
      have key : ∀ (l m : List Value), l.all flat = true → All2 (CRel E h μ H) l m → All2 (IRel E μ.Z H) l m := by
        intro l m hl hr
        induction hr with
        | nil => exact .nil
        | cons h1 _ ih =>
          simp only [List.all_cons, Bool.and_eq_true] at hl
          exact .cons (flat_c hl.1 h1) (ih hl.2)
      exact key _ _ hf h1
    | c r =>
      cases r with
      | s r =>
        refine .s (flat_i ?_ r)
        cases r <;> first | rfl | exact hf
      | func fn h1 h2 =>
        simp only [noPtr, Bool.and_eq_true] at hf
        have key : ∀ (l m : List Value), l.all flat = true → All2 (SRel E h μ H) l m → All2 (IRel E μ.Z H) l m := by
          intro l m hl hr
          induction hr with
          | nil => exact .nil
          | cons h1 _ ih =>
            simp only [List.all_cons, Bool.and_eq_true] at hl
            exact .cons (flat_i hl.1 h1) (ih hl.2)
        exact .func fn (key _ _ hf.1 h1) (key _ _ hf.2 h2)
theorem mapO_rel {f : Value → Option Value} {R S : Value → Value → Prop} (hf : ∀ v u v', f v = some u → R v v' → S u v') : ∀ {l m out : List Value}, mapO f l = some out → All2 R l m → All2 S out m
  | [], _, _, ho, .nil => by simp only [mapO, Option.some.injEq] at ho; subst ho; exact .nil
  | v :: r, _, _, ho, .cons h1 h2 => by
    simp only [mapO] at ho
    split at ho
    · rename_i u l' e1 e2
      obtain rfl := Option.some.inj ho
      exact .cons (hf _ _ _ e1 h1) (mapO_rel hf e2 h2)
    · cases ho
theorem iceC_rel {H : Mem} {Z' : Nat → Prop} (R : Rel E h μ H base) (z1 : ∀ k, μ.Z k → Z' k) (z2 : ∀ b x, h.get b = some x → x.own = true → Z' (μ b).1) : ∀ (n : Nat) {v u v' : Value}, iceC E h n v = some u → CRel E h μ H v v' → IRel E Z' H u v' := by
  have fl : ∀ {v u v' : Value}, (if flat v = true then some v else none) = some u → CRel E h μ H v v' → IRel E Z' H u v' := by
    intro v u v' hi hr
    split at hi
    · rename_i hf
      obtain rfl := Option.some.inj hi
      exact (flat_c hf hr).mono z1 fun _ _ => rfl
    · cases hi
  intro n
  induction n with
  | zero =>
    intro v u v' hi hr
    unfold iceC at hi
    split at hi
    · rename_i he; cases he
    · exact fl (by simpa [flat] using hi) hr
    · exact fl (by simpa [flat] using hi) hr
    · exact fl (by simpa [flat] using hi) hr
    · exact fl hi hr
  | succ n ih =>
    intro v u v' hi hr
    unfold iceC at hi
    split at hi
    · rename_i n' b off len cp he
      cases he
      split at hi
      · rename_i el cells0 hb
        obtain ⟨blk, eblk⟩ : ∃ blk : Blk, blk = ⟨el, true, cells0⟩ := ⟨_, rfl⟩
        obtain rfl : blk.elem = el := by rw [eblk]
        obtain rfl : blk.cells = cells0 := by rw [eblk]
        have howned : blk.own = true := by rw [eblk]
        rw [← eblk] at hb
        split at hi
        · rename_i ti ht
          split at hi
          · rename_i cs hcs
            split at hi
            · rename_i cs' hcs'
              obtain rfl := Option.some.inj hi
              cases hr with
              | s hr =>
                cases hr with
                | slice _ _ _ _ a' c' hb' hn hc hs ha =>
                  obtain ⟨ys, r1, r2, r3⟩ : ∃ ys, All2 (CRel E h μ H) cs ys ∧ ys.length = len * ti.size ∧ ∀ j v, ys[j]? = some v → ∃ cs2 fr2, H[(μ b).1]? = some (.cells cs2 blk.elem fr2) ∧ cs2[(μ b).2 + off + j]? = some v := by
                    obtain ⟨_, cs2, fr2, hH, hl, hcc, _⟩ := R.blk b blk hb
                    obtain ⟨hle, rfl⟩ := cellsAt_len hcs
                    refine ⟨(cs2.toList.drop ((μ b).2 + off)).take (len * ti.size), All2.of_get ?_ ?_, ?_, ?_⟩
                    · simp; omega
                    · intro i a b' ha hb'
                      rw [List.getElem?_take] at ha hb'
                      split at ha <;> rename_i hi
                      · rw [List.getElem?_drop] at ha
                        rw [if_pos hi, List.getElem?_drop, Array.getElem?_toList] at hb'
                        obtain ⟨v', h1, h2⟩ := hcc _ _ ha
                        rw [show (μ b).2 + (off + i) = (μ b).2 + off + i by omega, hb'] at h1
                        obtain rfl := Option.some.inj h1
                        exact h2
                      · simp at ha
                    · simp; omega
                    · intro j v hv
                      rw [List.getElem?_take] at hv
                      split at hv
                      · rw [List.getElem?_drop, Array.getElem?_toList] at hv
                        exact ⟨cs2, fr2, hH, hv⟩
                      · simp at hv
                  have hall := mapO_rel (R := CRel E h μ H) (S := IRel E Z' H) (fun v u v' h1 h2 => ih h1 h2) hcs' r1
                  refine IRel.fs_of ht (Nat.le_trans hn hc) (by simp) (by simp) (fun h => by cases h) (by rw [hall.length, r2]) ?_ hall
                  rcases Nat.eq_zero_or_pos len with h0 | h0
                  · exact .inl h0
                  · right
                    obtain ⟨s1, s2, s3⟩ := ha.resolve_left (by omega)
                    obtain ⟨ti', cs3, fr3, q1, q2, q3⟩ := s3 blk hb
                    rw [ht] at q1
                    obtain rfl := Option.some.inj q1
                    refine ⟨a'.block, a'.off, congrArg some (addr_eq rfl rfl hs), by rw [s1]; exact z2 b blk hb howned, ⟨rfl, rfl⟩, cs3, _, fr3, q2, ?_, fun j v hj => ?_⟩
                    · rw [r2]
                      exact Nat.le_trans (Nat.add_le_add_left (Nat.mul_le_mul_right _ (Nat.le_trans hn hc)) _) q3
                    · obtain ⟨cs2, fr2, hH, hv⟩ := r3 j v hj
                      rw [s1] at q2
                      rw [hH] at q2
                      injection q2 with q2
                      injection q2 with q2 _ _
                      subst q2
                      rw [s2]
                      exact hv
            · cases hi
          · cases hi
        · cases hi
      · cases hi
    · exact fl (by simpa [flat] using hi) hr
    · exact fl (by simpa [flat] using hi) hr
    · exact fl (by simpa [flat] using hi) hr
    · exact fl hi hr
theorem iceW_rel {H : Mem} {Z' : Nat → Prop} (R : Rel E h μ H base) (z1 : ∀ k, μ.Z k → Z' k) (z2 : ∀ b x, h.get b = some x → x.own = true → Z' (μ b).1) {v u v' : Value} (hi : iceW E h v = some u) (hr : WRel E h μ H v v') : NRel E Z' H u v' := by
  cases hr with
  | agg h1 =>
    simp only [iceW] at hi
    obtain ⟨l, h2, rfl⟩ := Option.map_eq_some_iff.1 hi
    exact .agg (by simpa using mapO_rel (R := CRel E h μ H) (S := IRel E Z' H) (fun v u v' h1 h2 => iceC_rel R z1 z2 4 h1 h2) h2 h1)
  | c hr =>
    have : iceC E h 4 v = some u := by
      cases hr with
      | s hr => cases hr <;> exact hi
      | func => exact hi
    exact .s (iceC_rel R z1 z2 4 this hr)
theorem iceV_rel {H : Mem} {Z' : Nat → Prop} (R : Rel E h μ H base) (z1 : ∀ k, μ.Z k → Z' k) (z2 : ∀ b x, h.get b = some x → x.own = true → Z' (μ b).1) {v u v' : Value} (hi : iceV E h v = some u) (hr : VRel E h μ H v v') (h2 : Heap) (μ2 : Place) (hz : μ2.Z = Z') : VRel E h2 μ2 H u v' := by
  subst hz
  cases hr with
  | any => simp [iceV, iceW, iceC, junk, flat] at hi
  | tuple h1 =>
    simp only [iceV] at hi
    obtain ⟨l, h2, rfl⟩ := Option.map_eq_some_iff.1 hi
    exact .tuple (by simpa using mapO_rel (R := WRel E h μ H) (S := WRel E _ μ2 H) (fun v u v' h1 h2 => (iceW_rel R z1 z2 h1 h2).toW) h2 h1)
  | w hr =>
    have : iceW E h v = some u := by
      cases hr with
      | agg => exact hi
      | c hr => cases hr with
        | s hr => cases hr <;> exact hi
        | func => exact hi
    exact .w (iceW_rel R z1 z2 this hr).toW
theorem CallSim.framed {cf : CallF} (c : CallSim E P cf) : CallSim E P (callOf E cf) := by
  intro f args h v h' hl
  unfold callOf at hl
  split at hl
  · unfold frameCall at hl
    split at hl
    · rename_i hfl
      split at hl
      · rename_i v2 h2 hcf
        split at hl
        · rename_i u hice
          simp only [Option.some.injEq, Prod.mk.injEq] at hl
          obtain ⟨rfl, rfl⟩ := hl
          obtain ⟨hf, hc⟩ := c f args Heap.none v2 h2 hcf
          refine ⟨hf, fun μ base w args' R hbase ha => ?_⟩
          have key : ∀ (l m : List Value), l.all noPtr = true → All2 (VRel E h μ w.heap) l m → All2 (VRel E Heap.none (shut μ w.heap.size) w.heap) l m := by
            intro l m hl hr
            induction hr with
            | nil => exact .nil
            | cons h1 _ ih =>
              simp only [List.all_cons, Bool.and_eq_true] at hl
              exact .cons (.w (NRel.toW (μ := shut μ w.heap.size) (noPtr_rel (μ := μ) hl.1 h1))) (ih hl.2)
          refine Calls.mono (hc (shut μ w.heap.size) w.heap.size w args' (Rel.none _ _ fun k hk => hk.elim (R.ice k) id) (Nat.le_refl _) (key _ _ hfl ha)) fun e w' he => ?_
          obtain ⟨v', μ', rfl, R', ex, bl, hv⟩ := he
          obtain ⟨R2, e2⟩ := R.stay (H' := w'.heap) (fun k hk => bl.block k hk) ex.grow ⟨μ.at', fun k => μ'.Z k ∨ (w.heap.size ≤ k ∧ k < w'.heap.size), fun k => μ.Y k ∨ (μ'.Z k ∨ (w.heap.size ≤ k ∧ k < w'.heap.size)), fun k hk => .inr hk⟩ rfl (fun k hk => .inl (ex.ice k hk)) (fun k hk => hk.elim (fun h => (ex.iced k h).imp id fun hn => Nat.not_lt.1 fun hlt => hn (.inr hlt)) fun h => .inr h.1) (fun k hk => .inl hk) (fun k hk => hk) (fun k hk => hk.elim (fun h => Nat.lt_of_lt_of_le (R.ice k h) ex.grow) fun h => h.elim (fun h => R'.ice k (μ'.zy k h)) fun h => h.2)
          refine ⟨v', _, rfl, R2, e2, bl.mono hbase, iceV_rel (Z' := fun k => μ'.Z k ∨ (w.heap.size ≤ k ∧ k < w'.heap.size)) R' (fun k hk => .inl hk) (fun b x hx hox => .inr ?_) hice hv _ _ rfl⟩
          obtain ⟨_, cs, fr, hH, _, _, ho⟩ := R'.blk b x hx
          refine ⟨(ho hox).1, ?_⟩
          rcases Nat.lt_or_ge (μ' b).1 w'.heap.size with h | h
          · exact h
          · rw [Array.getElem?_eq_none h] at hH; cases hH
        · cases hl
      · cases hl
    · cases hl
  · exact c f args h v h' hl
theorem run_asBool (b : Bool) : (asBool (.bool b)).run P w = .ok b w := rfl
theorem of_sim {o : Oper} {a : Act} {S : Sem Value} {v : Value} {h' : Heap} {K : Act → World → Prop} {Q : Exit → Act → World → Prop} (he : execOp a.eval o = (do pure (.value (← S)))) (hs : Sim E base h μ w h' v (S.run P w))
    (hK : ∀ v' w' μ', Rel E h' μ' w'.heap base → Ext h μ w.heap h' μ' w'.heap → Below base w w' → VRel E h' μ' w'.heap v v' → K (a.put o.dst v') w') : o.wp P a w K Q := by
  obtain ⟨v', μ', w', hr, h1, h2, h3, h4⟩ := hs
  unfold Oper.wp
  rw [he]
  simp only [Sem.run_bind, hr, Result.andThen_ok, Sem.run_pure]
  exact hK v' w' μ' h1 h2 h3 h4
theorem All2.mapS {H : Mem} {xs : List Value} {ys : List Value} (hv : All2 (VRel E h μ H) xs ys) (hs : ∀ x ∈ xs, ∀ y, VRel E h μ H x y → SRel E h μ H x y) : All2 (SRel E h μ H) xs ys := by
  induction hv with
  | nil => exact .nil
  | cons h1 _ ih => exact .cons (hs _ (by simp) _ h1) (ih fun x hx => hs x (by simp [hx]))
theorem VRel.toS {H : Mem} {x y : Value} (hv : VRel E h μ H x y) (hx : simple x = true) : SRel E h μ H x y := by
  cases hv with
  | any => simp [simple, junk] at hx
  | tuple => simp [simple] at hx
  | w r => cases r with
    | agg => simp [simple] at hx
    | c r => cases r with
      | s r => exact r
      | func => simp [simple] at hx
theorem SRel.allV {H : Mem} {xs ys : List Value} (hv : All2 (SRel E h μ H) xs ys) : All2 (VRel E h μ H) xs ys := hv.mono fun _ _ r => .s r
theorem op_sim (ok : EnvOk E P) {cf : CallF} (hc : CallSim E P cf) {o : Oper} {a : Act} {s : Slots} {v : Value} {h' : Heap} {K : Act → World → Prop} {Q : Exit → Act → World → Prop} (R : Rel E h μ w.heap base) (hbase : base ≤ w.heap.size) (hs : SlotsRel E h μ w.heap s a.tmps) (hl : aop E cf o.op s h = some (v, h'))
    (hK : ∀ v' w' μ', Rel E h' μ' w'.heap base → Ext h μ w.heap h' μ' w'.heap → Below base w w' → VRel E h' μ' w'.heap v v' → K (a.put o.dst v') w') : o.wp P a w K Q := by
  obtain ⟨dst, op, type, pos, after, guard⟩ := o
  have kp : ∀ {x : Option Value}, keep h x = some (v, h') → x = some v ∧ h' = h := fun {x} hx => by
    unfold keep at hx
    split at hx
    · simp only [Option.some.injEq, Prod.mk.injEq] at hx
      exact ⟨by rw [hx.1], hx.2.symm⟩
    · cases hx
  have pure1 : ∀ (x : Operand), ev s x = some v → h' = h → Sim E base h μ w h' v ((pure (a.eval x) : Sem Value).run P w) := fun x hx he => by
    subst he
    exact Sim.pure R (ev_rel hs hx)
  cases op <;> simp only [aop] at hl <;> try (cases hl; done)
  case move x =>
    obtain ⟨h1, rfl⟩ := kp hl
    exact of_sim (S := pure (a.eval x)) rfl (pure1 x h1 rfl) hK
  case assign x =>
    obtain ⟨h1, rfl⟩ := kp hl
    exact of_sim (S := pure (a.eval x)) rfl (pure1 x h1 rfl) hK
  case pick c x y =>
    split at hl
    · rename_i t hcv
      obtain ⟨h1, rfl⟩ := kp hl
      have hb := (ev_rel hs hcv).inv_bool
      refine of_sim (S := do pure (if ← asBool (a.eval c) then a.eval x else a.eval y)) (by simp [execOp]) ?_ hK
      rw [hb]
      simp only [Sem.run_bind, run_asBool, Result.andThen_ok, Sem.run_pure]
      refine Sim.pure R ?_
      cases t
      · simpa using ev_rel hs (by simpa using h1)
      · simpa using ev_rel hs (by simpa using h1)
    · cases hl
  case alloc t => exact of_sim rfl (sim_alloc ok R hbase hl) hK
  case box t x =>
    split at hl
    · rename_i u hu
      exact of_sim rfl (sim_box R hbase hl (ev_rel hs hu)) hK
    · cases hl
  case build t ps =>
    split at hl
    · rename_i l hp
      obtain ⟨h1, rfl⟩ := kp hl
      have := sim_build ok R h1 (evp_rel hs hp)
      refine of_sim rfl ?_ hK
      have e : (ps.map fun (i, x) => (i, a.eval x)) = ((ps.toList.map fun p => (p.1, a.eval p.2)).toArray) := by
        apply Array.ext'
        simp
      rw [e]
      exact this
    · cases hl
  case buildSlice t n ps =>
    split at hl
    · rename_i l hp
      have := sim_buildSlice ok R hbase hl (evp_rel hs hp)
      refine of_sim rfl ?_ hK
      have e : (ps.map fun (i, x) => (i, a.eval x)) = ((ps.toList.map fun p => (p.1, a.eval p.2)).toArray) := by
        apply Array.ext'
        simp
      rw [e]
      exact this
    · cases hl
  case load t x =>
    split at hl
    · rename_i u hu
      obtain ⟨h1, rfl⟩ := kp hl
      exact of_sim rfl (sim_load ok R h1 (ev_rel hs hu)) hK
    · cases hl
  case store t x y =>
    split at hl
    · rename_i u u2 hu hu2
      split at hl
      · rename_i h2 hst
        simp only [Option.some.injEq, Prod.mk.injEq] at hl
        obtain ⟨rfl, rfl⟩ := hl
        obtain ⟨w', q1, q2, q3, q4⟩ := sim_store ok R hst (ev_rel hs hu) (ev_rel hs hu2)
        unfold Oper.wp
        simp only [execOp, Sem.run_bind, q1, Result.andThen_ok, Sem.run_pure]
        exact hK undef w' μ q2 q3 q4 VRel.undef
      · cases hl
    · cases hl
  case nilCheck x =>
    split at hl
    · rename_i ad hu
      simp only [Option.some.injEq, Prod.mk.injEq] at hl
      obtain ⟨rfl, rfl⟩ := hl
      have hv := ev_rel hs hu
      obtain ⟨a', ha⟩ := hv.inv_some
      unfold Oper.wp
      simp only [execOp, ha, Sem.run_pure]
      rw [ha] at hv
      exact hK _ w μ R (Ext.refl _ _ _) (Below.refl _ _) hv
    · rename_i e' off cells hu
      simp only [Option.some.injEq, Prod.mk.injEq] at hl
      obtain ⟨rfl, rfl⟩ := hl
      have hv := ev_rel hs hu
      obtain ⟨_, _, _, ha, _⟩ := hv.inv_ice.inv_fp
      unfold Oper.wp
      simp only [execOp, ha, Sem.run_pure]
      rw [ha] at hv
      exact hK _ w μ R (Ext.refl _ _ _) (Below.refl _ _) hv
    · cases hl
  case binOp op t x y p =>
    split at hl
    · rename_i u u2 hu hu2
      obtain ⟨h1, rfl⟩ := kp hl
      exact of_sim rfl (sim_bin ok R x y h1 (ev_rel hs hu) (ev_rel hs hu2)) hK
    · cases hl
  case unOp op t x =>
    split at hl
    · rename_i u hu
      obtain ⟨h1, rfl⟩ := kp hl
      exact of_sim rfl (sim_un R h1 (ev_rel hs hu)) hK
    · cases hl
  case convert src dst x =>
    split at hl
    · rename_i u hu
      exact of_sim rfl (sim_convert ok R hbase hl (ev_rel hs hu)) hK
    · cases hl
  case makeFunc fn first captured =>
    split at hl
    · rename_i l r h1 h2
      split at hl
      · rename_i hsim
        simp only [Bool.and_eq_true, List.all_eq_true] at hsim
        simp only [Option.some.injEq, Prod.mk.injEq] at hl
        obtain ⟨rfl, rfl⟩ := hl
        have g1 := (evs_rel hs h1).mapS fun x hx y hxy => hxy.toS (hsim.1 x hx)
        have g2 := (evs_rel hs h2).mapS fun x hx y hxy => hxy.toS (hsim.2 x hx)
        exact of_sim (S := Instr.makeFunc fn (first.map a.eval) (captured.map a.eval)) rfl (Sim.pure R (.w (.c (.func fn (by simpa using g1) (by simpa using g2))))) hK
      · cases hl
    · cases hl
  case makeMap t r =>
    split at hl
    · simp only [Option.some.injEq, Prod.mk.injEq] at hl
      obtain ⟨rfl, rfl⟩ := hl
      exact of_sim (S := Instr.makeMap t none) rfl (sim_makeMap R hbase t) hK
    · cases hl
  case makeSlice t x y =>
    split at hl
    · rename_i u u2 hu hu2
      exact of_sim rfl (sim_makeSlice ok R hbase hl (ev_rel hs hu) (ev_rel hs hu2)) hK
    · cases hl
  case slice t x lo hi mx =>
    split at hl
    · rename_i u l r m hu h1 h2 h3
      obtain ⟨h4, rfl⟩ := kp hl
      have evo_rel : ∀ {x : Option Operand} {v : Option Value}, evo s x = some v → (v = none ∧ x.map a.eval = none) ∨ ∃ u u', v = some u ∧ x.map a.eval = some u' ∧ VRel E h' μ w.heap u u' := fun {x v} hx => by
        cases x with
        | none => simp only [evo, Option.some.injEq] at hx; subst hx; exact .inl ⟨rfl, rfl⟩
        | some x =>
          obtain ⟨u, g1, rfl⟩ := Option.map_eq_some_iff.1 hx
          exact .inr ⟨u, _, rfl, rfl, ev_rel hs g1⟩
      refine of_sim rfl ?_ hK
      have some_ : ∀ {x : Option Operand} {v : Option Value}, evo s x = some v → ∀ u, v = some u → ∃ u', x.map a.eval = some u' ∧ VRel E h' μ w.heap u u' := fun hx u hu => by
        rcases evo_rel hx with ⟨q1, _⟩ | ⟨u2, u', q1, q2, q3⟩
        · rw [q1] at hu; cases hu
        · rw [q1] at hu
          obtain rfl := Option.some.inj hu
          exact ⟨u', q2, q3⟩
      have none_ : ∀ {x : Option Operand} {v : Option Value}, evo s x = some v → v = none → x.map a.eval = none := fun hx hu => by
        rcases evo_rel hx with ⟨_, q2⟩ | ⟨u2, u', q1, q2, q3⟩
        · exact q2
        · rw [q1] at hu; cases hu
      exact sim_slice ok R h4 (ev_rel hs hu) (some_ h1) (none_ h1) (some_ h2) (none_ h2) (some_ h3) (none_ h3)
    · cases hl
  case fieldAddr t x f =>
    split at hl
    · rename_i u hu
      obtain ⟨h1, rfl⟩ := kp hl
      exact of_sim rfl (sim_fieldAddr ok R h1 (ev_rel hs hu)) hK
    · cases hl
  case field t x f =>
    split at hl
    · rename_i u hu
      obtain ⟨h1, rfl⟩ := kp hl
      exact of_sim rfl (sim_field ok R h1 (ev_rel hs hu)) hK
    · cases hl
  case indexAddr t x i =>
    split at hl
    · rename_i u u2 hu hu2
      obtain ⟨h1, rfl⟩ := kp hl
      exact of_sim rfl (sim_indexAddr ok R h1 (ev_rel hs hu) (ev_rel hs hu2)) hK
    · cases hl
  case index t x i =>
    split at hl
    · rename_i u u2 hu hu2
      obtain ⟨h1, rfl⟩ := kp hl
      exact of_sim rfl (sim_index ok R h1 (ev_rel hs hu) (ev_rel hs hu2)) hK
    · cases hl
  case extract x i =>
    split at hl
    · rename_i u hu
      obtain ⟨h1, rfl⟩ := kp hl
      exact of_sim rfl (sim_extract R h1 (ev_rel hs hu)) hK
    · cases hl
  case call c =>
    split at hl
    · rename_i b args hcal hargs
      have ha := evs_rel hs hargs
      obtain ⟨S, e1, e2⟩ := sim_builtin (ty := type) (cs := (c.args.map fun | .const _ => true | _ => false)) ok R hbase hl ha
      refine of_sim (S := S) ?_ e2 hK
      rw [← e1]
      simp only [execOp, resolve, hcal, pure_bind, invoke]
      congr 1
      apply Array.ext'
      simp
    · rename_i f args hcal hargs
      split at hl
      · rename_i fv hfv
        split at hl
        · rename_i g l htg
          unfold targetOf at htg
          split at htg
          · rename_i g' first captured
            simp only [Option.some.injEq, Prod.mk.injEq] at htg
            obtain ⟨rfl, rfl⟩ := htg
            have ha := evs_rel hs hargs
            obtain ⟨f', c', hfe, q1, q2⟩ := (ev_rel hs hfv).inv_func
            obtain ⟨⟨fn, hfn, hbody⟩, hcall⟩ := hc.framed _ _ _ _ _ hl
            obtain ⟨hP, hname⟩ := ok.funcs _ fn hfn
            have hbody' : fn.body.isNone = false := by cases hb : fn.body <;> simp_all
            unfold Oper.wp
            have hrun : (execOp a.eval { dst, op := .call c, type, pos, after, guard }).run P w = .ok (.enter g' ((f' ++ c.args.map a.eval) ++ c')) w := by
              simp only [execOp, resolve, hcal, hfe, Deferred.ofValue, pure_bind, invoke, callFunc, Sem.run_bind, run_program, Result.andThen_ok, hP, hname, hbody', Bool.false_eq_true, if_false, Sem.run_pure]
            rw [hrun, Oper.upon_enter]
            have hargs2 : All2 (VRel E h μ w.heap) (first.toList ++ args ++ captured.toList) ((f' ++ c.args.map a.eval) ++ c').toList := by
              rw [Array.toList_append, Array.toList_append, Array.toList_map]
              exact ((SRel.allV q1).append ha).append (SRel.allV q2)
            refine Calls.mono (hcall μ base w _ R hbase hargs2) fun e w' he => ?_
            obtain ⟨v', μ', rfl, g1, g2, g3, g4⟩ := he
            exact hK v' w' μ' g1 g2 g3 g4
          · cases htg
        · cases hl
      · cases hl
    · cases hl
end
end Go.Fw
