/- What is handed in, told as values. -/
import Derived.Test.YtlejgfeoffhjoaaFwMono
import Derived.ChangeArms
import Derived.SizedLaws
import Derived.WideShapes
namespace Go.Fw
open Go.RowKit
def Shape (E : Env) : Nat → TypeId → List Value → Prop
  | 0, _, _ => False
  | m + 1, t, cs =>
    match E.types t with
    | none => False
    | some ti =>
      match ti.desc with
      | .bool => ∃ b, cs = [.bool b]
      | .int k => ∃ n, cs = [.int k n] ∧ (Lit.int k n).wf = true
      | .string => ∃ s, cs = [.string s] ∧ s.size ≤ reachBytes
      | .slice e => ∃ te n x cells, E.types e = some te ∧ cs = [FS e n x cells] ∧ (x = 0 ∨ (x = 2 ∧ n = 0)) ∧ n * te.bytes ≤ reachBytes ∧ cells.size = n * te.size ∧ ∀ i, i < n → Shape E m e ((cells.toList.drop (i * te.size)).take te.size)
      | .struct fs => cs.length = ti.size ∧ ∀ (i : Nat) (f : Field), fs[i]? = some f → ∃ tf, E.types f.type = some tf ∧ Shape E m f.type ((cs.drop f.offset).take tf.size)
      | .array n e => ∃ te, E.types e = some te ∧ cs.length = n * te.size ∧ ∀ i, i < n → Shape E m e ((cs.drop (i * te.size)).take te.size)
      | _ => False
def tiles (E : Env) : Nat → List Field → Option Nat
  | off, [] => some off
  | off, f :: r => match E.types f.type with
    | some tf => if f.offset = off then tiles E (off + tf.size) r else none
    | none => none
def plainT (E : Env) : Nat → TypeId → Bool
  | 0, _ => false
  | m + 1, t =>
    match E.types t with
    | none => false
    | some ti =>
      match ti.desc with
      | .bool | .int _ | .string => ti.size == 1
      | .slice e => ti.size == 1 && plainT E m e
      | .struct fs => (tiles E 0 fs.toList == some ti.size) && (fs.toList.all fun f => plainT E m f.type) && decide (0 < ti.size)
      | .array n e => ((E.types e).map (fun te => n * te.size) == some ti.size) && plainT E m e && decide (0 < ti.size)
      | _ => false
section
variable {E : Env} {P : Program} {W : World} {H : Type} {enc : TypeId × Value → H}
theorem cellsOf_eq (ok : EnvOk E P) {t : TypeId} {ti : TI} (ht : E.types t = some ti) : P.cellsOf t = ti.size := by
  obtain ⟨_, i, z, h1, h2, _⟩ := ok.types t ti ht
  simp [Program.cellsOf, h1, h2]
theorem bytesOf_eq (ok : EnvOk E P) {t : TypeId} {ti : TI} (ht : E.types t = some ti) : P.bytesOf t = ti.bytes := by
  obtain ⟨_, i, z, h1, _, h2, _⟩ := ok.types t ti ht
  simp [Program.bytesOf, h1, h2]
abbrev old (W : World) : Nat → Prop := fun k => k < W.heap.size
theorem plain_pos {m : Nat} {t : TypeId} {ti : TI} (hp : plainT E m t = true) (ht : E.types t = some ti) : 0 < ti.size := by
  cases m with
  | zero => cases hp
  | succ m =>
    simp only [plainT, ht] at hp
    split at hp
    · have := beq_iff_eq.1 hp; omega
    · have := beq_iff_eq.1 hp; omega
    · have := beq_iff_eq.1 hp; omega
    · simp only [Bool.and_eq_true, beq_iff_eq] at hp; omega
    · simp only [Bool.and_eq_true, decide_eq_true_eq] at hp; exact hp.2
    · simp only [Bool.and_eq_true, decide_eq_true_eq] at hp; exact hp.2
    · cases hp
theorem cell_some {a : Addr} {v : Value} (h : W.cell? a = some v) : a.spot = none ∧ ∃ cs T fr, W.heap[a.block]? = some (.cells cs T fr) := by
  unfold World.cell? at h
  split at h
  · rename_i cs T fr hc
    split at h
    · cases h
    · rename_i hs
      refine ⟨?_, cs, T, fr, hc⟩
      cases hsp : a.spot with
      | none => rfl
      | some x => rw [hsp] at hs; exact absurd rfl hs
  · cases h
theorem cell_get {b o i : Nat} {sp : Option Nat} {cs : Array Value} {T : TypeId} {fr : Nat × Nat} {v : Value} (hH : W.heap[b]? = some (.cells cs T fr)) (hs : sp = none) (h : W.cell? ⟨b, o + i, if i = 0 then sp else none⟩ = some v) : cs[o + i]? = some v := by
  subst hs
  have : W.cell? ⟨b, o + i, none⟩ = some v := by
    split at h <;> exact h
  rwa [cell_of hH] at this
theorem flat_get {f : Nat → List Value} {n size : Nat} (hl : ∀ i, i < n → (f i).length = size) {i r : Nat} (hi : i < n) (hr : r < size) : ((List.range n).flatMap f)[i * size + r]? = (f i)[r]? := by
  induction n with
  | zero => omega
  | succ n ih =>
    have hlen : ((List.range n).flatMap f).length = n * size := by
      clear ih hi
      induction n with
      | zero => simp
      | succ n ih2 =>
        rw [List.range_succ, List.flatMap_append, List.length_append, ih2 (fun i hi => hl i (by omega))]
        simp only [List.flatMap_cons, List.flatMap_nil, List.append_nil, hl n (by omega)]
        rw [Nat.add_mul, Nat.one_mul]
    rw [List.range_succ, List.flatMap_append]
    simp only [List.flatMap_cons, List.flatMap_nil, List.append_nil]
    rcases Nat.lt_or_ge i n with h | h
    · have : i * size + size ≤ n * size := by rw [← Nat.succ_mul]; exact Nat.mul_le_mul_right _ h
      rw [List.getElem?_append_left (by omega)]
      exact ih (fun i hi => hl i (by omega)) h
    · obtain rfl : i = n := by omega
      rw [List.getElem?_append_right (by omega), hlen, Nat.add_sub_cancel_left]
theorem cell_flat {a : Addr} {n size : Nat} (hpos : 0 < size) (h : ∀ i, i < n → ∃ cs', W.cells? 0 (a.add (i * size)) size = some cs') : ∀ j, j < n * size → W.cell? ⟨a.block, a.off + j, if j = 0 then a.spot else none⟩ = ((List.range n).flatMap fun i => (W.cells? 0 (a.add (i * size)) size).getD [])[j]? := by
  intro j hj
  have hi : j / size < n := (Nat.div_lt_iff_lt_mul hpos).2 hj
  have hr : j % size < size := Nat.mod_lt _ hpos
  have hjd : j / size * size + j % size = j := by rw [Nat.mul_comm]; exact Nat.div_add_mod j size
  obtain ⟨cs', hc⟩ := h _ hi
  have hlen : ∀ i, i < n → ((W.cells? 0 (a.add (i * size)) size).getD []).length = size := fun i hi => by
    obtain ⟨cs2, h2⟩ := h i hi
    rw [h2]
    exact (World.cells?_some h2).2.1
  rw [← hjd, flat_get hlen hi hr, hc, Option.getD_some, ← (World.cells?_some hc).2.2 _ hr]
  congr 1
  unfold Addr.add
  by_cases h1 : j / size * size = 0
  · by_cases h2 : j % size = 0
    · simp [h1, h2]
    · simp [h1, h2]
  · have h3 : j / size * size + j % size ≠ 0 := by omega
    by_cases h2 : j % size = 0
    · simp [h1, h2]
    · simp [h1, h2, Nat.add_assoc]
theorem tiles_ge : ∀ (fs : List Field) (off top : Nat), tiles E off fs = some top → off ≤ top ∧ ∀ (i : Nat) (f : Field), fs[i]? = some f → off ≤ f.offset
  | [], off, top, ht => by
    simp only [tiles, Option.some.injEq] at ht
    subst ht
    exact ⟨Nat.le_refl _, fun i f hf => by simp at hf⟩
  | f :: r, off, top, ht => by
    simp only [tiles] at ht
    split at ht
    · rename_i tf htf
      split at ht
      · rename_i ho
        obtain ⟨h1, h2⟩ := tiles_ge r (off + tf.size) top ht
        refine ⟨by omega, fun i g hg => ?_⟩
        cases i with
        | zero =>
          simp only [List.getElem?_cons_zero, Option.some.injEq] at hg
          subst hg
          omega
        | succ i =>
          have := h2 i g (by simpa using hg)
          omega
      · cases ht
    · cases ht
theorem tiles_join {R : Value → Value → Prop} {Q : TypeId → List Value → Prop} : ∀ (fs : List Field) (off top : Nat) (cs : List Value), tiles E off fs = some top → cs.length = top →
    (∀ (i : Nat) (f : Field) (tf : TI), fs[i]? = some f → E.types f.type = some tf → ∃ bs, All2 R bs ((cs.drop f.offset).take tf.size) ∧ Q f.type bs) →
    ∃ avs, All2 R avs (cs.drop off) ∧ ∀ (i : Nat) (f : Field), fs[i]? = some f → ∃ tf, E.types f.type = some tf ∧ Q f.type ((avs.drop (f.offset - off)).take tf.size)
  | [], off, top, cs, ht, hl, _ => by
    simp only [tiles, Option.some.injEq] at ht
    subst ht
    rw [List.drop_of_length_le (by omega)]
    exact ⟨[], .nil, fun i f hf => by simp at hf⟩
  | f :: r, off, top, cs, ht, hl, hf => by
    have ht0 := ht
    simp only [tiles] at ht
    split at ht
    · rename_i tf htf
      split at ht
      · rename_i ho
        obtain ⟨avs, h1, h2⟩ := tiles_join r (off + tf.size) top cs ht hl (fun i g tg hg => hf (i + 1) g tg (by simpa using hg))
        obtain ⟨bs, g1, g2⟩ := hf 0 f tf rfl htf
        have hge := (tiles_ge r (off + tf.size) top ht)
        have hbl : bs.length = tf.size := by
          rw [g1.length, List.length_take, List.length_drop]
          omega
        rw [ho] at g1
        refine ⟨bs ++ avs, ?_, fun i g hg => ?_⟩
        · have : cs.drop off = (cs.drop off).take tf.size ++ cs.drop (off + tf.size) := by
            rw [← List.drop_drop]
            exact (List.take_append_drop _ _).symm
          rw [this]
          exact g1.append h1
        · cases i with
          | zero =>
            simp only [List.getElem?_cons_zero, Option.some.injEq] at hg
            subst hg
            refine ⟨tf, htf, ?_⟩
            rw [ho, Nat.sub_self, List.drop_zero, List.take_append_of_le_length (by omega), List.take_of_length_le (by omega)]
            exact g2
          | succ i =>
            have hg' : r[i]? = some g := by simpa using hg
            obtain ⟨tg, q1, q2⟩ := h2 i g hg'
            have := hge.2 i g hg'
            refine ⟨tg, q1, ?_⟩
            rw [show g.offset - off = bs.length + (g.offset - (off + tf.size)) by omega, List.drop_append]
            rw [List.drop_of_length_le (by omega), List.nil_append, show bs.length + (g.offset - (off + tf.size)) - bs.length = g.offset - (off + tf.size) by omega]
            exact q2
      · cases ht
    · cases ht
theorem All2.exists {α β : Type} {R : α → β → Prop} : ∀ (m : List β), (∀ (i : Nat) b, m[i]? = some b → ∃ a, R a b) → ∃ l, All2 R l m
  | [], _ => ⟨[], .nil⟩
  | b :: m, h => by
    obtain ⟨a, ha⟩ := h 0 b rfl
    obtain ⟨l, hl⟩ := All2.exists m (fun i b hb => h (i + 1) b (by simpa using hb))
    exact ⟨a :: l, .cons ha hl⟩
theorem rows_join {R : Value → Value → Prop} {Q : List Value → Prop} (size : Nat) : ∀ (n : Nat) (f : Nat → List Value), (∀ i, i < n → (f i).length = size ∧ ∃ bs, All2 R bs (f i) ∧ Q bs) → ∃ avs, All2 R avs ((List.range n).flatMap f) ∧ avs.length = n * size ∧ ∀ i, i < n → Q ((avs.drop (i * size)).take size)
  | 0, _, _ => ⟨[], .nil, by simp, fun i hi => absurd hi (Nat.not_lt_zero _)⟩
  | n + 1, f, h => by
    obtain ⟨avs, h1, h2, h3⟩ := rows_join size n f (fun i hi => h i (by omega))
    obtain ⟨hl, bs, g1, g2⟩ := h n (by omega)
    have hbl : bs.length = size := by rw [g1.length, hl]
    refine ⟨avs ++ bs, ?_, by rw [List.length_append, h2, hbl, Nat.add_mul, Nat.one_mul], fun i hi => ?_⟩
    · rw [List.range_succ, List.flatMap_append]
      refine h1.append ?_
      simpa using g1
    · rcases Nat.lt_or_ge i n with hi2 | hi2
      · have hb : i * size + size ≤ n * size := by
          rw [← Nat.succ_mul]; exact Nat.mul_le_mul_right _ hi2
        rw [List.drop_append_of_le_length (by omega), List.take_append_of_le_length (by rw [List.length_drop]; omega)]
        exact h3 i hi2
      · obtain rfl : i = n := by omega
        rw [List.drop_append, List.drop_of_length_le (by omega), List.nil_append, h2, Nat.sub_self, List.drop_zero, List.take_of_length_le (by omega)]
        exact g2
theorem flat_chunks (size : Nat) : ∀ (n : Nat) (cs : List Value), cs.length = n * size → cs = (List.range n).flatMap fun i => (cs.drop (i * size)).take size
  | 0, cs, h => by
    have : cs = [] := List.eq_nil_of_length_eq_zero (by simpa using h)
    subst this
    rfl
  | n + 1, cs, h => by
    have hn : n * size + size = (n + 1) * size := (Nat.succ_mul n size).symm
    have ih := flat_chunks size n (cs.take (n * size)) (by rw [List.length_take]; omega)
    rw [List.range_succ, List.flatMap_append]
    have h2 : (List.range n).flatMap (fun i => (cs.drop (i * size)).take size) = cs.take (n * size) := by
      have key : ∀ (l : List Nat) (f g : Nat → List Value), (∀ i ∈ l, f i = g i) → l.flatMap f = l.flatMap g := fun l f g hfg => by
        induction l with
        | nil => rfl
        | cons a l ih => rw [List.flatMap_cons, List.flatMap_cons, hfg a (by simp), ih fun i hi => hfg i (by simp [hi])]
      refine (key _ _ _ fun i hi => ?_).trans ih.symm
      rw [List.mem_range] at hi
      have hb : i * size + size ≤ n * size := by
        rw [← Nat.succ_mul]
        exact Nat.mul_le_mul_right _ hi
      rw [List.drop_take, List.take_take]
      congr 1
      omega
    rw [h2]
    simp only [List.flatMap_cons, List.flatMap_nil, List.append_nil]
    rw [List.take_of_length_le (l := cs.drop (n * size)) (by rw [List.length_drop]; omega), List.take_append_drop]
theorem weights_mem_all {e : TypeId} : ∀ {ds : List (DataW H)} {d : DataW H}, d ∈ ds → ∀ k ∈ d.weights P e, k ∈ DataW.weightsAll P e ds
  | [], _, hd, _, _ => by cases hd
  | d0 :: r, d, hd, k, hk => by
    simp only [DataW.weightsAll, List.mem_append]
    rcases List.mem_cons.1 hd with rfl | hd
    · exact .inl hk
    · exact .inr (weights_mem_all hd k hk)
theorem embed (ok : EnvOk E P) : ∀ (m fuel : Nat) (t : TypeId) (cs : List Value) (x : DataW H × List MemPlace), plainT E m t = true → DataW.trod enc P W 0 (fun _ => true) true fuel t cs = some x → (∀ k ∈ x.1.weights P t, k ≤ reachBytes) →
    ∃ avs, All2 (IRel E (old W) W.heap) avs cs ∧ Shape E m t avs ∧ ∀ ti, E.types t = some ti → cs.length = ti.size
  | 0, _, _, _, _, hp, _, _ => by cases hp
  | m + 1, fuel, t, cs, x, hp, h, hw => by
    simp only [plainT] at hp
    split at hp
    · cases hp
    · rename_i ti ht
      have hu := (ok.types t ti ht).1
      split at hp
      · rename_i hd
        rw [hd] at hu
        obtain ⟨b, rfl, _⟩ := DataW.trod_bool hu h
        exact ⟨[.bool b], .cons (.bool b) .nil, by simp only [Shape, ht, hd]; exact ⟨b, rfl⟩, fun ti' h' => by rw [ht] at h'; cases h'; simpa using (beq_iff_eq.1 hp).symm⟩
      · rename_i k hd
        rw [hd] at hu
        obtain ⟨n, rfl, _, hw⟩ := DataW.trod_int hu h
        exact ⟨[.int k n], .cons (.int k n) .nil, by simp only [Shape, ht, hd]; exact ⟨n, rfl, hw⟩, fun ti' h' => by rw [ht] at h'; cases h'; simpa using (beq_iff_eq.1 hp).symm⟩
      · rename_i hd
        rw [hd] at hu
        obtain ⟨s, rfl, rfl, _⟩ := DataW.trod_string hu h
        have hs : s.size ≤ reachBytes := by
          have := hw s.data.toList.length (by simp [DataW.weights])
          rwa [Array.length_toList] at this
        exact ⟨[.string s], .cons (.string s) .nil, by simp only [Shape, ht, hd]; exact ⟨s, rfl, hs⟩, fun ti' h' => by rw [ht] at h'; cases h'; simpa using (beq_iff_eq.1 hp).symm⟩
      · rename_i e hd
        rw [hd] at hu
        simp only [Bool.and_eq_true, beq_iff_eq] at hp
        obtain ⟨hsz, hpe⟩ := hp
        obtain ⟨te, hte⟩ : ∃ te, E.types e = some te := by
          cases m with
          | zero => cases hpe
          | succ m =>
            simp only [plainT] at hpe
            split at hpe
            · cases hpe
            · rename_i te hte; exact ⟨te, hte⟩
        have hce := cellsOf_eq ok hte
        rcases DataW.trod_slice hu h with ⟨rfl, _⟩ | ⟨a, len, cap, elems, rest, n, _, rfl, rfl, _, hlc, hcm, hel, hread, _⟩
        · refine ⟨[FS e 0 2 #[]], .cons ?_ .nil, ?_, fun ti' h' => by rw [ht] at h'; cases h'; simpa using hsz.symm⟩
          · exact IRel.fs_of (cells := []) (ys := []) (a' := none) (c' := 0) hte (Nat.le_refl _) (by simp) (by simp) (fun _ => rfl) (by simp) (.inl rfl) .nil
          · simp only [Shape, ht, hd]
            exact ⟨te, 0, 2, #[], hte, rfl, .inr ⟨rfl, rfl⟩, by simp, by simp, fun i hi => absurd hi (Nat.not_lt_zero _)⟩
        ·
          have each : ∀ i, i < len → ∃ cs', W.cells? 0 (a.add (i * te.size)) te.size = some cs' ∧ ∃ y, DataW.trod enc P W 0 (fun _ => true) true n e cs' = some y ∧ y ∈ elems := fun i hi => by
            have h1 := hread i hi
            rw [hce] at h1
            have h2 : elems[i]? = some elems[i] := List.getElem?_eq_getElem (by omega)
            rw [h2] at h1
            obtain ⟨cs', g1, g2⟩ := Option.bind_eq_some_iff.1 h1
            exact ⟨cs', g1, _, g2, List.getElem_mem _⟩
          obtain ⟨avs, h1, h2, h3⟩ := rows_join (R := IRel E (old W) W.heap) (Q := Shape E m e) te.size len (fun i => (W.cells? 0 (a.add (i * te.size)) te.size).getD []) (fun i hi => by
            obtain ⟨cs', g1, y, g2, hmem⟩ := each i hi
            obtain ⟨bs, q1, q2, q3⟩ := embed ok m n e cs' y hpe g2 (fun k hk => hw k (by
              simp only [DataW.weights, hu, List.mem_cons, List.mem_append]
              exact .inr (.inl (weights_mem_all (List.mem_map_of_mem hmem) k hk))))
            rw [g1]
            exact ⟨(World.cells?_some g1).2.1, bs, q1, q2⟩)
          have hbytes : len * te.bytes ≤ reachBytes := by
            have h4 := hw ((elems.length + rest.length) * P.bytesOf e) (by simp [DataW.weights, hu])
            rw [bytesOf_eq ok hte, hel] at h4
            exact Nat.le_trans (Nat.mul_le_mul_right _ (Nat.le_add_right _ _)) h4
          refine ⟨[FS e len 0 avs.toArray], .cons ?_ .nil, ?_, fun ti' h' => by rw [ht] at h'; cases h'; simpa using hsz.symm⟩
          · refine IRel.fs_of (ys := (List.range len).flatMap fun i => (W.cells? 0 (a.add (i * te.size)) te.size).getD []) (a' := some a) (c' := cap) hte hlc (by simp) (by simp) (fun h => by cases h) h2 ?_ h1
            rcases Nat.eq_zero_or_pos len with h0 | h0
            · exact .inl h0
            · right
              have hpos : 0 < te.size := plain_pos hpe hte
              have hcell : ∀ j, j < len * te.size → W.cell? ⟨a.block, a.off + j, if j = 0 then a.spot else none⟩ = ((List.range len).flatMap fun i => (W.cells? 0 (a.add (i * te.size)) te.size).getD [])[j]? := fun j hj => cell_flat hpos (fun i hi => let ⟨cs', g1, _⟩ := each i hi; ⟨cs', g1⟩) j hj
              obtain ⟨o, sp⟩ : ∃ o, o = a.off := ⟨_, rfl⟩
              have h00 := hcell 0 (Nat.mul_pos h0 hpos)
              have hys : ∀ j, j < len * te.size → ∃ v, ((List.range len).flatMap fun i => (W.cells? 0 (a.add (i * te.size)) te.size).getD [])[j]? = some v := fun j hj => ⟨_, List.getElem?_eq_getElem (by rw [← h1.length, h2]; exact hj)⟩
              obtain ⟨v0, hv0⟩ := hys 0 (Nat.mul_pos h0 hpos)
              rw [hv0] at h00
              obtain ⟨hs, cs0, T, fr, hH⟩ := cell_some h00
              simp only [if_true] at hs hH
              refine ⟨a.block, a.off, by cases a; simp only at hs; subst hs; rfl, ?_, ⟨rfl, rfl⟩, cs0, T, fr, hH, ?_, fun i v hi => ?_⟩
              · rcases Nat.lt_or_ge a.block W.heap.size with h | h
                · exact h
                · rw [Array.getElem?_eq_none h] at hH; cases hH
              · rw [← h1.length, h2]
                obtain ⟨vl, hvl⟩ := hys (len * te.size - 1) (by have := Nat.mul_pos h0 hpos; omega)
                have := hcell (len * te.size - 1) (by have := Nat.mul_pos h0 hpos; omega)
                rw [hvl] at this
                have h5 := cell_get hH hs this
                have h6 := (Array.getElem?_eq_some_iff.1 h5).1
                omega
              · have hil : i < len * te.size := by
                  rw [← h2, h1.length]
                  exact (List.getElem?_eq_some_iff.1 hi).1
                have := hcell i hil
                rw [hi] at this
                exact cell_get hH hs this
          · simp only [Shape, ht, hd]
            exact ⟨te, len, 0, avs.toArray, hte, rfl, .inl rfl, hbytes, by simpa using h2, fun i hi => h3 i hi⟩
      · rename_i fs hd
        rw [hd] at hu
        simp only [Bool.and_eq_true, beq_iff_eq] at hp
        obtain ⟨⟨htl, hall⟩, _⟩ := hp
        obtain ⟨xs, n, _, rfl, hlen, hxl, hf⟩ := DataW.trod_struct hu h
        rw [cellsOf_eq ok ht] at hlen
        obtain ⟨avs, h1, h2⟩ := tiles_join (R := IRel E (old W) W.heap) (Q := Shape E m) fs.toList 0 ti.size cs htl hlen (fun i f tf hfi htf => by
          have hfi' : fs[i]? = some f := by rwa [Array.getElem?_toList] at hfi
          have := hf i f hfi'
          rw [cellsOf_eq ok htf] at this
          have hi : i < xs.length := by rw [hxl]; exact (Array.getElem?_eq_some_iff.1 hfi').1
          rw [List.getElem?_eq_getElem hi] at this
          have hpf := List.all_eq_true.1 hall f (List.mem_of_getElem? hfi)
          obtain ⟨bs, q1, q2, _⟩ := embed ok m n f.type _ _ hpf this (fun k hk => hw k (by
            simp only [DataW.weights, hu]
            exact DataW.weights_mem_each (j := i) (t := f.type) (by rw [List.getElem?_map, hfi]; rfl) (by rw [List.getElem?_map, List.getElem?_eq_getElem hi]; rfl) k hk))
          exact ⟨bs, q1, q2⟩)
        refine ⟨avs, by simpa using h1, ?_, fun ti' h' => by rw [ht] at h'; cases h'; exact hlen⟩
        simp only [Shape, ht, hd]
        refine ⟨by rw [h1.length, List.drop_zero, hlen], fun i f hfi => ?_⟩
        have := h2 i f (by rw [Array.getElem?_toList]; exact hfi)
        simpa using this
      · rename_i cnt e hd
        rw [hd] at hu
        simp only [Bool.and_eq_true, beq_iff_eq] at hp
        obtain ⟨⟨hsz, hpe⟩, _⟩ := hp
        obtain ⟨te, hte, hsz⟩ := Option.map_eq_some_iff.1 hsz
        have hce := cellsOf_eq ok hte
        obtain ⟨xs, n, _, rfl, hlen, hxl, hread⟩ := DataW.trod_array hu h
        rw [cellsOf_eq ok ht, ← hsz] at hlen
        obtain ⟨avs, h1, h2, h3⟩ := rows_join (R := IRel E (old W) W.heap) (Q := Shape E m e) te.size cnt (fun i => (cs.drop (i * te.size)).take te.size) (fun i hi => by
          have hr := hread i hi
          rw [hce] at hr
          have hix : i < xs.length := by omega
          rw [List.getElem?_eq_getElem hix] at hr
          obtain ⟨bs, q1, q2, q3⟩ := embed ok m n e _ _ hpe hr (fun k hk => hw k (by
            simp only [DataW.weights, hu]
            exact weights_mem_all (List.mem_map_of_mem (List.getElem_mem hix)) k hk))
          exact ⟨q3 te hte, bs, q1, q2⟩)
        rw [← flat_chunks te.size cnt cs hlen] at h1
        refine ⟨avs, h1, ?_, fun ti' h' => by rw [ht] at h'; cases h'; rw [hlen, hsz]⟩
        simp only [Shape, ht, hd]
        exact ⟨te, hte, h2, h3⟩
      · cases hp
def inP (W : World) : Place := ⟨fun _ => (0, 0), fun k => k < W.heap.size, fun k => k < W.heap.size, fun _ h => h⟩
inductive ShapeV (E : Env) (m : Nat) (t : TypeId) : Value → Prop
  | agg (ht : (E.types t).map (fun i => aggD i.desc) = some true) (cs : List Value) : Shape E m t cs → ShapeV E m t (.agg cs.toArray)
  | one (ht : (E.types t).map (fun i => aggD i.desc) = some false) (v : Value) : Shape E m t [v] → ShapeV E m t v
theorem embedArg (ok : EnvOk E P) {m : Nat} {t : TypeId} {v : Value} {d : DataW H} {ps : List MemPlace} {r : Reach} {base : Nat} (hp : plainT E m t = true) (hval : Value.okWide P W r base t v) (hd : DataW.Trod enc P W 0 (fun _ => true) true t v d ps) (hw : ∀ k ∈ d.weights P t, k ≤ reachBytes) :
    ∃ av, VRel E Heap.none (inP W) W.heap av v ∧ ShapeV E m t av := by
  obtain ⟨fuel, hf⟩ := hd
  obtain ⟨avs, h1, h2, h3⟩ := embed ok m fuel t _ _ hp hf hw
  cases m with
  | zero => cases hp
  | succ m =>
    simp only [plainT] at hp
    split at hp
    · cases hp
    · rename_i ti ht
      have hu := (ok.types t ti ht).1
      have one : ∀ a, v.cells = #[a] → v = a → aggD ti.desc = false → ∃ av, VRel E Heap.none (inP W) W.heap av v ∧ ShapeV E (m + 1) t av := fun a ha hva hagg => by
        rw [ha] at h1
        cases h1 with
        | cons g1 g2 =>
          cases g2
          refine ⟨_, .s (IRel.toS (μ := inP W) (hva ▸ g1)), ?_⟩
          exact .one (by rw [ht]; simp [hagg]) _ h2
      split at hp
      · rename_i hd
        rw [hd] at hu
        obtain ⟨b, rfl⟩ := Go.WideShapes.okWide_bool hu hval
        exact one _ rfl rfl (by rw [hd]; rfl)
      · rename_i k hd
        rw [hd] at hu
        obtain ⟨b, rfl⟩ := Go.WideShapes.okWide_int hu hval
        exact one _ rfl rfl (by rw [hd]; rfl)
      · rename_i hd
        rw [hd] at hu
        obtain ⟨b, rfl⟩ := Go.WideShapes.okWide_string hu hval
        exact one _ rfl rfl (by rw [hd]; rfl)
      · rename_i e hd
        rw [hd] at hu
        obtain ⟨a, n, c, rfl⟩ := Go.WideShapes.okWide_slice hu hval
        exact one _ rfl rfl (by rw [hd]; rfl)
      · rename_i fs hd
        rw [hd] at hu
        obtain ⟨cs, rfl, _⟩ := Go.WideShapes.okWide_struct hu hval
        refine ⟨.agg avs.toArray, .w (.agg (IRel.allC (μ := inP W) (by
          have h1' : All2 (IRel E (inP W).Z W.heap) avs cs.toList := h1
          simpa using h1'))), ?_⟩
        have hagg : aggD ti.desc = true := by rw [hd]; rfl
        exact .agg (by rw [ht]; simp [hagg]) _ h2
      · rename_i cnt e hd
        rw [hd] at hu
        simp only [Value.okWide, hu] at hval
        obtain ⟨cs, rfl, _⟩ := hval
        refine ⟨.agg avs.toArray, .w (.agg (IRel.allC (μ := inP W) (by
          have h1' : All2 (IRel E (inP W).Z W.heap) avs cs.toList := h1
          simpa using h1'))), ?_⟩
        have hagg : aggD ti.desc = true := by rw [hd]; rfl
        exact .agg (by rw [ht]; simp [hagg]) _ h2
      · cases hp
def fieldsOf (E : Env) (t : TypeId) : Option (Nat × List (TypeId × Nat)) := (E.types t).map fun i => (i.size, match i.desc with
  | .struct fs => fs.toList.map fun f => (f.type, f.offset)
  | _ => [])
theorem Shape.struct {m : Nat} {t : TypeId} {size : Nat} {l : List (TypeId × Nat)} {cs : List Value} (h : Shape E m t cs) (ht : fieldsOf E t = some (size, l)) (hl : l ≠ []) : cs.length = size ∧ ∀ (i : Nat) (p : TypeId × Nat), l[i]? = some p → ∃ tf, E.types p.1 = some tf ∧ Shape E (m - 1) p.1 ((cs.drop p.2).take tf.size) := by
  cases m with
  | zero => exact h.elim
  | succ m =>
    obtain ⟨ti, h1, h2⟩ := Option.map_eq_some_iff.1 ht
    simp only [Prod.mk.injEq] at h2
    obtain ⟨rfl, h3⟩ := h2
    simp only [Shape, h1] at h
    split at h
    · rename_i hd; rw [hd] at h3; exact absurd h3.symm hl
    · rename_i hd; rw [hd] at h3; exact absurd h3.symm hl
    · rename_i hd; rw [hd] at h3; exact absurd h3.symm hl
    · rename_i hd; rw [hd] at h3; exact absurd h3.symm hl
    · rename_i fs hd
      rw [hd] at h3
      subst h3
      refine ⟨h.1, fun i p hp => ?_⟩
      simp only [List.getElem?_map, Option.map_eq_some_iff] at hp
      obtain ⟨f, hf, rfl⟩ := hp
      exact h.2 i f (by rwa [Array.getElem?_toList] at hf)
    · rename_i hd; rw [hd] at h3; exact absurd h3.symm hl
    · exact h.elim
theorem Shape.array {m : Nat} {t e : TypeId} {n size : Nat} {cs : List Value} (h : Shape E m t cs) (ht : (E.types t).map TI.desc = some (.array n e)) (he : (E.types e).map TI.size = some size) : cs.length = n * size ∧ ∀ i, i < n → Shape E (m - 1) e ((cs.drop (i * size)).take size) := by
  cases m with
  | zero => exact h.elim
  | succ m =>
    obtain ⟨ti, h1, h2⟩ := Option.map_eq_some_iff.1 ht
    obtain ⟨te, h3, rfl⟩ := Option.map_eq_some_iff.1 he
    simp only [Shape, h1, h2] at h
    obtain ⟨te', h4, h5, h6⟩ := h
    rw [h3] at h4
    cases h4
    exact ⟨h5, h6⟩
theorem Shape.int {m : Nat} {t : TypeId} {k : IntKind} {cs : List Value} (h : Shape E m t cs) (ht : (E.types t).map TI.desc = some (.int k)) : ∃ n, cs = [.int k n] ∧ (Lit.int k n).wf = true := by
  cases m with
  | zero => exact h.elim
  | succ m =>
    obtain ⟨ti, h1, h2⟩ := Option.map_eq_some_iff.1 ht
    simpa only [Shape, h1, h2] using h
theorem Shape.bool {m : Nat} {t : TypeId} {cs : List Value} (h : Shape E m t cs) (ht : (E.types t).map TI.desc = some .bool) : ∃ b, cs = [.bool b] := by
  cases m with
  | zero => exact h.elim
  | succ m =>
    obtain ⟨ti, h1, h2⟩ := Option.map_eq_some_iff.1 ht
    simpa only [Shape, h1, h2] using h
theorem Shape.string {m : Nat} {t : TypeId} {cs : List Value} (h : Shape E m t cs) (ht : (E.types t).map TI.desc = some .string) : ∃ s, cs = [.string s] ∧ s.size ≤ reachBytes := by
  cases m with
  | zero => exact h.elim
  | succ m =>
    obtain ⟨ti, h1, h2⟩ := Option.map_eq_some_iff.1 ht
    simpa only [Shape, h1, h2] using h
theorem Shape.slice {m : Nat} {t e : TypeId} {size bytes : Nat} {cs : List Value} (h : Shape E m t cs) (ht : (E.types t).map TI.desc = some (.slice e)) (he : (E.types e).map (fun i => (i.size, i.bytes)) = some (size, bytes)) :
    ∃ n x cells, cs = [FS e n x cells] ∧ (x = 0 ∨ (x = 2 ∧ n = 0)) ∧ n * bytes ≤ reachBytes ∧ cells.size = n * size ∧ ∀ i, i < n → Shape E (m - 1) e ((cells.toList.drop (i * size)).take size) := by
  cases m with
  | zero => exact h.elim
  | succ m =>
    obtain ⟨ti, h1, h2⟩ := Option.map_eq_some_iff.1 ht
    obtain ⟨te, h3, h4⟩ := Option.map_eq_some_iff.1 he
    cases h4
    simp only [Shape, h1, h2] at h
    obtain ⟨te', n, x, cells, h5, h6⟩ := h
    rw [h3] at h5
    cases h5
    exact ⟨n, x, cells, h6⟩
theorem ShapeV.toAgg {m : Nat} {t : TypeId} {av : Value} (h : ShapeV E m t av) (ht : (E.types t).map (fun i => aggD i.desc) = some true) : ∃ cs, av = .agg cs.toArray ∧ Shape E m t cs := by
  cases h with
  | agg _ cs h => exact ⟨cs, rfl, h⟩
  | one h1 => rw [h1] at ht; cases ht
theorem ShapeV.toOne {m : Nat} {t : TypeId} {av : Value} (h : ShapeV E m t av) (ht : (E.types t).map (fun i => aggD i.desc) = some false) : Shape E m t [av] := by
  cases h with
  | agg h1 => rw [h1] at ht; cases ht
  | one _ _ h => exact h
theorem rows_of {α : Type} {Q : List Value → Prop} (g : α → List Value) (size : Nat) (hg : ∀ a, (g a).length = size) (hq : ∀ l, Q l → ∃ a, l = g a) : ∀ (n : Nat) (cells : List Value), cells.length = n * size → (∀ i, i < n → Q ((cells.drop (i * size)).take size)) → ∃ l : List α, l.length = n ∧ cells = l.flatMap g
  | 0, cells, hl, _ => ⟨[], rfl, by simpa using hl⟩
  | n + 1, cells, hl, h => by
    obtain ⟨a, ha⟩ := hq _ (h 0 (by omega))
    rw [Nat.zero_mul, List.drop_zero] at ha
    obtain ⟨l, h1, h2⟩ := rows_of g size hg hq n (cells.drop size) (by rw [List.length_drop, hl, Nat.add_mul]; omega) (fun i hi => by
      rw [List.drop_drop]
      have := h (i + 1) (by omega)
      rwa [Nat.add_mul, Nat.one_mul, Nat.add_comm] at this)
    exact ⟨a :: l, by simp [h1], by rw [List.flatMap_cons, ← h2, ← ha, List.take_append_drop]⟩
end
end Go.Fw
