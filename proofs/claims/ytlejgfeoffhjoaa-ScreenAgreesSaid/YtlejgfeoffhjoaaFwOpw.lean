/- Operations, fifth part: append, copy, clear, len, min, max; and one for all. -/
import Derived.Test.YtlejgfeoffhjoaaFwOpv
namespace Go.Fw
open Go.RowKit
section
variable {E : Env} {P : Program} {h : Heap} {μ : Place} {base : Nat} {w : World}
theorem take_all {n : Nat} {ys : List Value} {cs : List Value} {H : Mem} (r : All2 (CRel E h μ H) cs ys) (hl : cs.length = n) : ys.take n = ys := List.take_of_length_le (by rw [← r.length, hl]; exact Nat.le_refl _)
theorem setAll_get : ∀ (xs cells : List Value) (off i : Nat), off + xs.length ≤ cells.length → (setAll cells off xs)[i]? = if off ≤ i ∧ i < off + xs.length then xs[i - off]? else cells[i]?
  | [], cells, off, i, _ => by
    rw [if_neg (by simp only [List.length_nil]; omega)]; rfl
  | x :: r, cells, off, i, hl => by
    simp only [List.length_cons] at hl
    simp only [setAll]
    rw [setAll_get r _ (off + 1) i (by simp; omega)]
    by_cases h1 : off + 1 ≤ i ∧ i < off + 1 + r.length
    · rw [if_pos h1, if_pos (by simp; omega), show i - off = (i - (off + 1)) + 1 by omega, List.getElem?_cons_succ]
    · rw [if_neg h1]
      by_cases h2 : i = off
      · subst h2
        rw [if_pos (by simp), List.getElem?_set_self (by omega)]
        simp
      · rw [List.getElem?_set_ne (by omega), if_neg (by simp; omega)]
theorem store_raw (P : Program) (k : Nat) (T : TypeId) (fr : Nat × Nat) : ∀ (ys : List Value) (o i : Nat) (cs : Array Value) (w : World), w.heap[k]? = some (.cells cs T fr) → (∀ j, j < cs.size → (decide (fr.1 ≤ j) && decide (j < fr.2)) = false) → o + i + ys.length ≤ cs.size → (∀ v ∈ ys, v.oneCell' = true) → base ≤ k →
    ∃ (w' : World) (cs' : Array Value), (storeCells ⟨k, o, none⟩ ys i).run P w = .ok () w' ∧ w'.heap[k]? = some (.cells cs' T fr) ∧ cs'.toList = setAll cs.toList (o + i) ys ∧ (∀ j, j ≠ k → w'.heap[j]? = w.heap[j]?) ∧ Below base w w'
  | [], o, i, cs, w, hk, _, _, _, _ => ⟨w, cs, rfl, hk, rfl, fun _ _ => rfl, Below.refl _ _⟩
  | v :: r, o, i, cs, w, hk, hf, hl, h1, hb => by
    simp only [List.length_cons] at hl
    have hst : (store ((⟨k, o, none⟩ : Addr).add i) v).run P w = .ok () (w.setCell ⟨k, o + i, none⟩ v) := by
      rw [add_addr, run_store P w _ v _ (h1 v (by simp)), cell_of hk, frozen_of hk, hf _ (by omega), Array.getElem?_eq_getElem (by omega)]
      rfl
    obtain ⟨w', cs', r1, r2, r3, r4, r5⟩ := store_raw P k T fr r o (i + 1) (cs.setIfInBounds (o + i) v) (w.setCell ⟨k, o + i, none⟩ v) (setCell_block w _ _ _ _ _ _ hk) (by simpa using hf) (by simp; omega) (fun x hx => h1 x (by simp [hx])) hb
    refine ⟨w', cs', ?_, r2, ?_, fun j hj => (r4 j hj).trans (setCell_other _ _ _ _ _ hj), ((Below.refl base w).setCell hb _).trans r5⟩
    · simp only [storeCells, Sem.run_bind, hst, Result.andThen_ok]
      exact r1
    · rw [r3]
      simp [setAll, Nat.add_assoc]
theorem ones {H : Mem} {xs ys : List Value} (hv : All2 (CRel E h μ H) xs ys) : ∀ v ∈ ys, v.oneCell' = true := by
  induction hv with
  | nil => intro v hv; cases hv
  | cons h1 _ ih =>
    intro v hv
    rcases List.mem_cons.1 hv with rfl | hv
    · exact h1.one
    · exact ih v hv
theorem addr_eq {a : Addr} {x y : Nat} (h1 : a.block = x) (h2 : a.off = y) (h3 : a.spot = none) : a = ⟨x, y, none⟩ := by
  cases a; simp_all
theorem grow_sim (ok : EnvOk E P) (hbase : base ≤ w.heap.size) {e : TypeId} {te : TI} (hte : E.types e = some te) {h1 : Heap} (R1 : Rel E h1 μ w.heap base) (e1 : Ext h μ w.heap h1 μ w.heap)
    {n m c' : Nat} {old new ys zs : List Value} (hold : All2 (CRel E h μ w.heap) old ys) (hnew : All2 (CRel E h μ w.heap) new zs) (hlo : old.length = n * te.size) (hln : new.length = m * te.size) :
    Sim E base h μ w (h1.alloc ⟨e, true, old ++ new⟩) (.slice (some ⟨h1.next, 0, none⟩) (n + m) (n + m))
      ((do pure (Value.slice (some (← newRow e (ys.toArray ++ zs.toArray ++ Builtin.zeroCells (← zeroValue e).cells (grownCap w (n + m) c' e - (n + m))))) (n + m) (grownCap w (n + m) c' e)) : Sem Value).run P { w with drawn := w.drawn + 1 }) := by
  obtain ⟨z, z1, z2, z3⟩ := run_zero ok hte { w with drawn := w.drawn + 1 }
  have hg := le_grown w (n + m) c' e
  have hys := hold.length
  have hzs := hnew.length
  have hsz : (ys.toArray ++ zs.toArray ++ Builtin.zeroCells z.cells (grownCap w (n + m) c' e - (n + m))).size = grownCap w (n + m) c' e * te.size := by
    rw [Array.size_append, Array.size_append, size_zeroCells, z3, List.size_toArray, List.size_toArray, ← hys, ← hzs, hlo, hln, ← Nat.add_mul, ← Nat.add_mul]
    congr 1
    omega
  have hrel := (hold.append hnew).mono fun _ _ q => q.mono e1
  have := sim_row (w := { w with drawn := w.drawn + 1 }) R1 hbase hte (xs := old ++ new) (cs := ys.toArray ++ zs.toArray ++ Builtin.zeroCells z.cells (grownCap w (n + m) c' e - (n + m))) (fr := (0, 0)) (n := n + m) (c' := grownCap w (n + m) c' e)
    (({ w with drawn := w.drawn + 1 } : World).alloc (.cells (ys.toArray ++ zs.toArray ++ Builtin.zeroCells z.cells (grownCap w (n + m) c' e - (n + m))) e)) (below_drew_alloc _ _) (alloc_heap _ _) (by simp)
    (by rw [hsz, List.length_append, hlo, hln, ← Nat.add_mul]; exact Nat.mul_le_mul_right _ hg)
    (fun i v hi => by
      obtain ⟨v', a1, a2⟩ := hrel.get hi
      refine ⟨v', ?_, a2⟩
      have hi2 : i < (ys ++ zs).length := by
        rcases Nat.lt_or_ge i (ys ++ zs).length with h | h
        · exact h
        · rw [List.getElem?_eq_none h] at a1; cases a1
      rw [Array.getElem?_append_left (by simpa using hi2), ← a1]
      simp) hg (by rw [hsz]; exact Nat.le_refl _)
  obtain ⟨v', μ', w', r1, r2, r3, r4, r5⟩ := this
  refine ⟨v', μ', w', ?_, r2, e1.trans r3, ?_, r5⟩
  · rw [← r1]
    simp only [Sem.run_bind, z1, Result.andThen_ok]
    simp [newRow]
  · exact ⟨r4.os, r4.tape, r4.output, r4.size, r4.block⟩
theorem sim_append (ok : EnvOk E P) (R : Rel E h μ w.heap base) (hbase : base ≤ w.heap.size) {t u ty : TypeId} {s s' x x' v : Value} {h' : Heap} (hl : aappend E t u s x h = some (v, h')) (hs : VRel E h μ w.heap s s') (hx : VRel E h μ w.heap x x') :
    Sim E base h μ w h' v ((Builtin.append_ #[t, u] ty #[s', x']).run P w) := by
  unfold aappend at hl
  split at hl
  · rename_i ti ux ht hut
    have hu := run_und ok ht w
    have huu := run_und ok hut w
    split at hl
    · rename_i e hd
      split at hl
      · rename_i te hte
        have hsz := run_size ok hte w
        obtain ⟨tti, i1, i2, i3⟩ := run_info ok hte w
        split at hl
        · cases hl
        · rename_i hnint
          split at hl
          · rename_i m new hsrc
            obtain ⟨lenx, zs, zr, fst⟩ := source_run (P := P) R hte rfl hsrc hx
            have hln := source_len hte rfl hsrc hx
            have hfx := fst m (by rw [hln]; exact Nat.le_refl _) (Nat.le_refl _)
            rw [take_all zr hln] at hfx
            have start : ∀ (a' : Option Addr) (n c' : Nat), s' = .slice a' n c' → (Builtin.append_ #[t, u] ty #[s', x']).run P w =
                (if n + m ≤ c' then (do
                  let new ← Builtin.firstCells te.size m x'
                  if let some a := a' then storeCells (a.add (n * te.size)) new.toList
                  pure (Value.slice a' (n + m) c') : Sem Value)
                else (do
                  if ((n + m : Nat) : Int) > IntKind.i64.max ∧ (false = true ∨ (← typeInfo e).bytes = 0) then runtimePanic (.error "growslice: len out of range")
                  if Builtin.nextslicecap (n + m) c' * (← typeInfo e).bytes > 2 ^ 48 then (if false = true then runtimePanic (.error "growslice: len out of range") else do
                    if !(← Builtin.mayShare te.size n m a' x') then mark .noRoom
                    unsupported (.resourceLimit "append: a slice or a string whose bytes no memory bears"))
                  let newCap ← choose (.appendCap (n + m) c' e)
                  askRoom (newCap * (← typeInfo e).bytes)
                  let old ← Builtin.firstCells te.size n s'
                  let new ← Builtin.firstCells te.size m x'
                  let rest := Builtin.zeroCells (← zeroValue e).cells (newCap - (n + m))
                  pure (.slice (some (← newRow e (old ++ new ++ rest))) (n + m) newCap) : Sem Value)).run P w := by
              intro a' n c' he
              subst he
              unfold Builtin.append_
              simp only [List.getElem?_toArray, List.getElem?_cons_zero, List.getElem?_cons_succ, Sem.run_bind, hu, Result.andThen_ok, hd, hsz, huu, Sem.run_pure, Bool.false_eq_true, if_false, lenx, Bool.not_false, if_true]
              rfl
            have grows : ∀ (a' : Option Addr) (n c' : Nat) (ys : List Value), s' = .slice a' n c' → c' < n + m → 1 ≤ te.bytes → (n + m) * te.bytes ≤ 140737488355328 → (Builtin.firstCells te.size n s').run P { w with drawn := w.drawn + 1 } = .ok ys.toArray { w with drawn := w.drawn + 1 } →
                ∃ zs : List Value, All2 (CRel E h μ w.heap) new zs ∧ (Builtin.append_ #[t, u] ty #[s', x']).run P w = ((do pure (Value.slice (some (← newRow e (ys.toArray ++ zs.toArray ++ Builtin.zeroCells (← zeroValue e).cells (grownCap w (n + m) c' e - (n + m))))) (n + m) (grownCap w (n + m) c' e)) : Sem Value).run P { w with drawn := w.drawn + 1 }) := by
              intro a' n c' ys he hlt hb hbb hfs
              have hcb := cap_bound (n + m) c' te.bytes hlt hbb
              obtain ⟨_, zs2, zr2, fst2⟩ := source_run (P := P) (w := { w with drawn := w.drawn + 1 }) R hte rfl hsrc hx
              have hfx2 := fst2 m (by rw [hln]; exact Nat.le_refl _) (Nat.le_refl _)
              rw [take_all zr2 hln] at hfx2
              refine ⟨zs2, zr2, ?_⟩
              rw [start a' n c' he, if_neg (by omega)]
              obtain ⟨tti2, j1, j2, j3⟩ := run_info ok hte { w with drawn := w.drawn + 1 }
              have hb2 : tti.bytes ≠ 0 := by omega
              rw [← i3] at hcb
              simp only [Sem.run_bind, i1, Result.andThen_ok, Bool.false_eq_true, false_or, hb2, and_false, if_false, hcb, run_choose, Question.forced, j1, run_askRoom, hfs, hfx2]
              rfl
            split at hl
            · rename_i base0 n c
              split at hl
              ·
                rename_i hroom
                cases base0 with
                | none =>
                  obtain ⟨rfl, rfl, rfl⟩ := hs.inv_nilslice
                  obtain rfl : m = 0 := by omega
                  simp only [if_true, Option.some.injEq, Prod.mk.injEq] at hl
                  obtain ⟨rfl, rfl⟩ := hl
                  rw [start none 0 0 rfl, if_pos (by omega)]
                  simp only [Sem.run_bind, hfx, Result.andThen_ok, Sem.run_pure]
                  exact Sim.pure R (.s .nilslice)
                | some a0 =>
                  obtain ⟨b, off, a', c', rfl, rfl, hb, hn, hc, hsp, ha⟩ := hs.inv_slice
                  rw [start (some a') n c' rfl, if_pos (by omega)]
                  split at hl
                  · rename_i h0
                    subst h0
                    simp only [Option.some.injEq, Prod.mk.injEq] at hl
                    obtain ⟨rfl, rfl⟩ := hl
                    have : zs = [] := by
                      have := zr.length
                      rw [hln] at this
                      exact List.eq_nil_of_length_eq_zero (by omega)
                    subst this
                    simp only [Sem.run_bind, hfx, Result.andThen_ok, storeCells, Sem.run_pure]
                    exact Sim.pure R hs
                  · rename_i h0
                    obtain ⟨h2, hw, he⟩ := Option.map_eq_some_iff.1 hl
                    simp only [Prod.mk.injEq] at he
                    obtain ⟨rfl, rfl⟩ := he
                    have ha := ha.resolve_left (by omega)
                    obtain ⟨w', q1, q2, q3, q4⟩ := awrite_sim R hw zr P
                    have ea : a'.add (n * te.size) = ⟨(μ b).1, (μ b).2 + (off + n * te.size), none⟩ := by
                      have : a' = ⟨(μ b).1, (μ b).2 + off, none⟩ := by
                        obtain ⟨s1, s2, _⟩ := ha
                        exact addr_eq s1 s2 hsp
                      rw [this, add_addr, Nat.add_assoc]
                    simp only [Sem.run_bind, hfx, Result.andThen_ok, ea, q1, Sem.run_pure]
                    exact ⟨_, μ, w', rfl, q2, q3, q4, (VRel.s (SRel.slice b off (n + m) c a' c' hb hroom hc hsp (.inr ha))).mono q3⟩
              · split at hl
                · rename_i hroom hcond
                  obtain ⟨hb1, hbb, hzl, hmax⟩ := hcond
                  cases base0 with
                  | none =>
                    obtain ⟨rfl, rfl, rfl⟩ := hs.inv_nilslice
                    simp only [if_true, arow, Option.some.injEq, Prod.mk.injEq] at hl
                    obtain ⟨rfl, rfl⟩ := hl
                    obtain ⟨zs2, zr2, hrun⟩ := grows none 0 0 [] rfl (by omega) hb1 hbb rfl
                    rw [hrun]
                    have := grow_sim (P := P) (n := 0) (m := m) (c' := 0) ok hbase hte R (Ext.refl _ _ _) (.nil : All2 (CRel E h μ w.heap) [] []) zr2 (by simp) hln
                    simpa using this
                  | some a0 =>
                    obtain ⟨b, off, a', c', rfl, rfl, hb, hn, hc, hsp, ha⟩ := hs.inv_slice
                    simp only at hl
                    split at hl
                    · rename_i blk hblk
                      split at hl
                      · rename_i hown
                        obtain ⟨old, hold, hl2⟩ := Option.map_eq_some_iff.1 hl
                        simp only [arow, Prod.mk.injEq] at hl2
                        obtain ⟨rfl, rfl⟩ := hl2
                        obtain ⟨own, rfl⟩ := hown
                        obtain ⟨R1, e1⟩ := R.drop b (fun y hy => by rw [hblk] at hy; obtain rfl := Option.some.inj hy; exact own)
                        have hlo : old.length = n * te.size := by
                          unfold cellsAt at hold
                          split at hold
                          · obtain rfl := Option.some.inj hold
                            simp; omega
                          · cases hold
                        by_cases hcc : n + m ≤ c'
                        · have ha := ha.resolve_left (by omega)
                          obtain ⟨s1, s2, s3⟩ := ha
                          obtain ⟨ti', cs, fr, g1, g2, g3⟩ := s3 blk hblk
                          rw [hte] at g1
                          obtain rfl := Option.some.inj g1
                          have ea : a' = ⟨(μ b).1, (μ b).2 + off, none⟩ := addr_eq s1 s2 hsp
                          subst ea
                          simp only at g2 g3
                          obtain ⟨hlt, cs2, fr2, g4, g5, g6, g7⟩ := R.blk b blk hblk
                          rw [g2] at g4
                          injection g4 with g4
                          injection g4 with g8 g9 g10
                          subst g8 g10
                          obtain ⟨g11, g12⟩ := g7 own
                          have hzl2 := zr.length
                          have hfit : (μ b).2 + off + n * te.size + 0 + zs.length ≤ cs.size := by
                            have := Nat.mul_le_mul_right te.size hcc
                            rw [Nat.add_mul] at this
                            omega
                          obtain ⟨w', cs', q1, q2, q3, q4, q5⟩ := store_raw (base := base) P (μ b).1 blk.elem fr zs ((μ b).2 + off + n * te.size) 0 cs w g2 g12 hfit (ones zr) g11
                          have hsz' : cs'.size = cs.size := by rw [← Array.length_toList, q3, setAll_length, Array.length_toList]
                          have hget : ∀ i : Nat, cs'[i]? = (setAll cs.toList ((μ b).2 + off + n * te.size + 0) zs)[i]? := fun i => by rw [← q3, Array.getElem?_toList]
                          have hap := Rel.adopt (H' := w'.heap) R1 blk.elem (old ++ new) (μ b).1 ((μ b).2 + off) cs' fr (fun c x hx => by
                              simp only [Heap.get_set] at hx
                              split at hx
                              · cases hx
                              · rename_i hcb
                                exact Ne.symm (R.inj b c blk x hblk hx (fun h => hcb h.symm) own)) g11 q2 ⟨cs, g2, hsz'.symm⟩ q4 (R.cold b blk hblk own) (by rw [hsz']; exact g12) (by rw [List.length_append, hlo, hsz']; omega) (fun i v hi => by
                              rw [hget, setAll_get _ _ _ _ (by rw [Array.length_toList]; exact hfit)]
                              by_cases hio : i < old.length
                              · rw [List.getElem?_append_left hio] at hi
                                rw [if_neg (by omega), Array.getElem?_toList]
                                have : blk.cells[off + i]? = some v := by
                                  unfold cellsAt at hold
                                  split at hold
                                  · obtain rfl := Option.some.inj hold
                                    rw [List.getElem?_take] at hi
                                    split at hi
                                    · rwa [List.getElem?_drop] at hi
                                    · cases hi
                                  · cases hold
                                obtain ⟨v', t1, t2⟩ := g6 _ _ this
                                exact ⟨v', by rw [Nat.add_assoc]; exact t1, t2.mono e1⟩
                              · rw [List.getElem?_append_right (by omega)] at hi
                                obtain ⟨v', t1, t2⟩ := zr.get hi
                                have hlt2 : i - old.length < zs.length := by
                                  rcases Nat.lt_or_ge (i - old.length) zs.length with h | h
                                  · exact h
                                  · rw [List.getElem?_eq_none h] at t1; cases t1
                                rw [if_pos (by omega)]
                                refine ⟨v', ?_, t2.mono e1⟩
                                rw [← t1]
                                congr 1
                                omega)
                          obtain ⟨R2, e2⟩ := hap
                          rw [start (some ⟨(μ b).1, (μ b).2 + off, none⟩) n c' rfl, if_pos hcc]
                          simp only [Sem.run_bind, hfx, Result.andThen_ok, add_addr, q1, Sem.run_pure]
                          refine ⟨_, _, w', rfl, R2, e1.trans e2, q5, .s (.slice _ 0 (n + m) (n + m) _ _ (by simp) (Nat.le_refl _) hcc rfl (.inr ?_))⟩
                          refine ⟨by simp [at_], by simp [at_], fun x hx => ?_⟩
                          simp only [Heap.next_set, Heap.get_alloc, if_true, Option.some.injEq] at hx
                          subst hx
                          exact ⟨te, cs', fr, hte, q2, by rw [hsz']; exact g3⟩
                        · have : ∃ ys, All2 (CRel E h μ w.heap) old ys ∧ (Builtin.firstCells te.size n (.slice (some a') n c')).run P { w with drawn := w.drawn + 1 } = .ok ys.toArray { w with drawn := w.drawn + 1 } := by
                            by_cases h0 : n = 0
                            · subst h0
                              have : old = [] := List.eq_nil_of_length_eq_zero (by omega)
                              subst this
                              exact ⟨[], .nil, by simp [Builtin.firstCells, loadCells, loadCellsFrom]⟩
                            · obtain ⟨s1, s2, _⟩ := ha.resolve_left (by omega)
                              have ea : a' = ⟨(μ b).1, (μ b).2 + off, none⟩ := addr_eq s1 s2 hsp
                              subst ea
                              exact load_cells (w := { w with drawn := w.drawn + 1 }) R hblk hold P
                          obtain ⟨ys, y1, y2⟩ := this
                          obtain ⟨zs2, zr2, hrun⟩ := grows (some a') n c' ys rfl (by omega) hb1 hbb y2
                          rw [hrun]
                          have := grow_sim (P := P) (c' := c') ok hbase hte R1 e1 y1 zr2 hlo hln
                          simpa using this
                      · cases hl
                    · cases hl
                · cases hl
            · rename_i e' n x cells
              obtain ⟨ys, a', c', ti', rfl, ht', hn, hx1, hlc, hat, hc⟩ := hs.inv_ice.inv_fs
              split at hl
              · rename_i h0
                subst h0
                simp only [Option.some.injEq, Prod.mk.injEq] at hl
                obtain ⟨rfl, rfl⟩ := hl
                rw [start a' n c' rfl, if_pos (by omega)]
                have : zs = [] := by
                  have := zr.length
                  rw [hln] at this
                  exact List.eq_nil_of_length_eq_zero (by omega)
                subst this
                cases a' with
                | none =>
                  simp only [Sem.run_bind, hfx, Result.andThen_ok, Sem.run_pure]
                  exact Sim.pure R hs
                | some a' =>
                  simp only [Sem.run_bind, hfx, Result.andThen_ok, storeCells, Sem.run_pure]
                  exact Sim.pure R hs
              · rename_i h0
                split at hl
                · rename_i hcond
                  obtain ⟨hx, rfl, hb1, hbb, hzl, hmax⟩ := hcond
                  obtain rfl : c' = n := by
                    rcases hx with hx | hx
                    · exact hx1.1 hx
                    · have := hx1.2.2 (hx1.2.1.2 hx)
                      omega
                  simp only [arow, Option.some.injEq, Prod.mk.injEq] at hl
                  obtain ⟨rfl, rfl⟩ := hl
                  rw [hte] at ht'
                  obtain rfl := Option.some.inj ht'
                  have hlo : cells.toList.length = c' * te.size := by rw [Array.length_toList]; exact hlc
                  have hfs : (Builtin.firstCells te.size c' (.slice a' c' c')).run P { w with drawn := w.drawn + 1 } = .ok ys.toArray { w with drawn := w.drawn + 1 } := by
                    simp only [Builtin.firstCells]
                    by_cases h00 : c' = 0
                    · subst h00
                      have : ys = [] := List.eq_nil_of_length_eq_zero (by rw [← hc.length]; omega)
                      subst this
                      cases a' <;> simp [loadCells, loadCellsFrom]
                    · obtain ⟨k', o, rfl, hat2⟩ := hat.resolve_left h00
                      obtain ⟨_, _, cs, _, fr, hH, _, h2⟩ := hat2
                      have := run_loadCells_list (P := P) { w with drawn := w.drawn + 1 } ⟨k', o, none⟩ ys (fun j v hj => by
                        rw [add_addr, cell_of (w := { w with drawn := w.drawn + 1 }) hH]; exact h2 _ _ hj)
                      rwa [← hc.length, hlo] at this
                  obtain ⟨zs2, zr2, hrun⟩ := grows a' c' c' ys rfl (by omega) hb1 hbb hfs
                  rw [hrun]
                  have := grow_sim (P := P) (c' := c') ok hbase hte R (Ext.refl _ _ _) (IRel.allC (h := h) hc) zr2 hlo hln
                  simpa using this
                · cases hl
            · cases hl
          · cases hl
      · cases hl
    · cases hl
  · cases hl
end
end Go.Fw
