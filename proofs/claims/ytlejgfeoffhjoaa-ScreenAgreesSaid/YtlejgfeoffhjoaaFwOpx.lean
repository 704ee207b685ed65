/- Operations, sixth part: copy, clear, len, min, max; one for all; calls. -/
import Derived.Test.YtlejgfeoffhjoaaFwOpw
namespace Go.Fw
open Go.RowKit
section
variable {E : Env} {P : Program} {h : Heap} {μ : Place} {base : Nat} {w : World}
theorem All2.inv0 {α β : Type} {R : α → β → Prop} {m : List β} (h : All2 R [] m) : m = [] := by cases h; rfl
theorem All2.invc {α β : Type} {R : α → β → Prop} {a : α} {l : List α} {m : List β} (h : All2 R (a :: l) m) : ∃ b r, m = b :: r ∧ R a b ∧ All2 R l r := by cases h with | cons h1 h2 => exact ⟨_, _, rfl, h1, h2⟩
theorem All2.inv1 {α β : Type} {R : α → β → Prop} {a : α} {m : List β} (h : All2 R [a] m) : ∃ b, m = [b] ∧ R a b := by
  obtain ⟨b, r, rfl, h1, h2⟩ := h.invc
  obtain rfl := h2.inv0
  exact ⟨b, rfl, h1⟩
theorem All2.inv2 {α β : Type} {R : α → β → Prop} {a a2 : α} {m : List β} (h : All2 R [a, a2] m) : ∃ b b2, m = [b, b2] ∧ R a b ∧ R a2 b2 := by
  obtain ⟨b, r, rfl, h1, h2⟩ := h.invc
  obtain ⟨b2, rfl, h3⟩ := h2.inv1
  exact ⟨b, b2, rfl, h1, h3⟩
theorem sim_copy (ok : EnvOk E P) (R : Rel E h μ w.heap base) {t u ty : TypeId} {d d' x x' v : Value} {h' : Heap} (hl : acopy E t d x h = some (v, h')) (hd : VRel E h μ w.heap d d') (hx : VRel E h μ w.heap x x') :
    Sim E base h μ w h' v ((Builtin.copy_ #[t, u] ty #[d', x']).run P w) := by
  unfold acopy at hl
  split at hl
  · rename_i ti ht
    have hu := run_und ok ht w
    split at hl
    · rename_i e hde
      split at hl
      · rename_i te hte
        have hsz := run_size ok hte w
        split at hl
        · rename_i bs n c m cs hsrc
          obtain ⟨lenx, zs, zr, fst⟩ := source_run (P := P) R hte rfl hsrc hx
          have hln := source_len hte rfl hsrc hx
          have hmul : min m n * te.size ≤ cs.length := by rw [hln]; exact Nat.mul_le_mul_right _ (Nat.min_le_left _ _)
          have hfx := fst (min m n) hmul (Nat.min_le_left _ _)
          have start : ∀ (a' : Option Addr) (c' : Nat), d' = .slice a' n c' → (Builtin.copy_ #[t, u] ty #[d', x']).run P w =
              (do if let some a := a' then storeCells a (zs.take (min m n * te.size))
                  pure (goInt (min m n : Nat)) : Sem Value).run P w := by
            intro a' c' he
            subst he
            unfold Builtin.copy_
            simp only [List.getElem?_toArray, List.getElem?_cons_zero, List.getElem?_cons_succ, Sem.run_bind, hu, Result.andThen_ok, hde, hsz, lenx]
            have hfx' : (Builtin.firstCells te.size (Nat.min m n) x').run P w = .ok (zs.take (min m n * te.size)).toArray w := hfx
            simp only [hfx', Result.andThen_ok]
            rfl
          split at hl
          · rename_i h0
            simp only [Option.some.injEq, Prod.mk.injEq] at hl
            obtain ⟨rfl, rfl⟩ := hl
            cases bs with
            | none =>
              obtain ⟨rfl, rfl, rfl⟩ := hd.inv_nilslice
              rw [start none 0 rfl, h0]
              exact Sim.pure R (.int _ _)
            | some a0 =>
              obtain ⟨b, off, a', c', rfl, rfl, hb, hn, hc, hsp, ha⟩ := hd.inv_slice
              rw [start (some a') c' rfl, h0]
              simp only [Nat.zero_mul, List.take_zero, storeCells, Sem.run_bind, Sem.run_pure, Result.andThen_ok]
              exact Sim.pure R (.int _ _)
          · rename_i h0
            split at hl
            · rename_i b off
              obtain ⟨h2, hw, he⟩ := Option.map_eq_some_iff.1 hl
              simp only [Prod.mk.injEq] at he
              obtain ⟨rfl, rfl⟩ := he
              obtain ⟨b, off, a', c', he, rfl, hb, hn, hc, hsp, ha⟩ := hd.inv_slice
              obtain ⟨rfl, rfl⟩ : _ = b ∧ _ = off := by simpa using he
              have ha := ha.resolve_left (by omega)
              obtain ⟨w', q1, q2, q3, q4⟩ := awrite_sim R hw (zr.take _) P
              have ea : a' = ⟨(μ b).1, (μ b).2 + off, none⟩ := by
                obtain ⟨s1, s2, _⟩ := ha
                cases a'; simp_all
              subst ea
              rw [start _ c' rfl]
              simp only [Sem.run_bind, q1, Result.andThen_ok, Sem.run_pure]
              exact ⟨_, μ, w', rfl, q2, q3, q4, .int _ _⟩
            · cases hl
        · cases hl
      · cases hl
    · cases hl
  · cases hl
theorem sim_clear (ok : EnvOk E P) (R : Rel E h μ w.heap base) {t ty : TypeId} {d d' v : Value} {h' : Heap} (hl : aclear E t d h = some (v, h')) (hd : VRel E h μ w.heap d d') :
    Sim E base h μ w h' v ((Builtin.clear_ #[t] ty #[d']).run P w) := by
  unfold aclear at hl
  split at hl
  · rename_i ti ht
    have hu := run_und ok ht w
    split at hl
    · rename_i e n c hde
      obtain ⟨rfl, rfl, rfl⟩ := hd.inv_nilslice
      simp only [Option.some.injEq, Prod.mk.injEq] at hl
      obtain ⟨rfl, rfl⟩ := hl
      simp only [Builtin.clear_, List.getElem?_toArray, List.getElem?_cons_zero, Sem.run_bind, hu, Result.andThen_ok, hde]
      exact Sim.pure R VRel.undef
    · rename_i e b off n c hde
      obtain ⟨b, off, a', c', he, rfl, hb, hn, hc, hsp, ha⟩ := hd.inv_slice
      obtain ⟨rfl, rfl⟩ : _ = b ∧ _ = off := by simpa using he
      split at hl
      · rename_i h0
        subst h0
        simp only [Option.some.injEq, Prod.mk.injEq] at hl
        obtain ⟨rfl, rfl⟩ := hl
        simp only [Builtin.clear_, List.getElem?_toArray, List.getElem?_cons_zero, Sem.run_bind, hu, Result.andThen_ok, hde]
        exact Sim.pure R VRel.undef
      · rename_i h0
        split at hl
        · rename_i te hte
          obtain ⟨h2, hw, he⟩ := Option.map_eq_some_iff.1 hl
          simp only [Prod.mk.injEq] at he
          obtain ⟨rfl, rfl⟩ := he
          obtain ⟨z, z1, z2, z3⟩ := run_zero ok hte w
          obtain ⟨_, _, _, _, _, _, _, _, _, hz⟩ := ok.types e te hte
          have ha := ha.resolve_left (by omega)
          have ea : a' = ⟨(μ b).1, (μ b).2 + off, none⟩ := by
            obtain ⟨s1, s2, _⟩ := ha
            cases a'; simp_all
          subst ea
          obtain ⟨w', q1, q2, q3, q4⟩ := awrite_sim R hw (zeros_rel (E := E) (h := h) (μ := μ) (H := w.heap) hz n) P
          have hzc : (Builtin.zeroCells z.cells n).toList = zeros te.zero n := by
            rw [← z2]; exact zeros_array z.cells n
          obtain ⟨k, rfl⟩ : ∃ k, n = k + 1 := ⟨n - 1, by omega⟩
          simp only [Builtin.clear_, List.getElem?_toArray, List.getElem?_cons_zero, Sem.run_bind, hu, Result.andThen_ok, hde, z1, hzc, q1, Sem.run_pure]
          exact ⟨_, μ, w', rfl, q2, q3, q4, VRel.undef⟩
        · cases hl
    · cases hl
  · cases hl
theorem sim_builtin (ok : EnvOk E P) (R : Rel E h μ w.heap base) (hbase : base ≤ w.heap.size) {b : Builtin} {tys : List TypeId} {ty : TypeId} {cs : Array Bool} {args args' : List Value} {v : Value} {h' : Heap} (hl : abuiltin E b tys args h = some (v, h')) (ha : All2 (VRel E h μ w.heap) args args') :
    ∃ S : Sem Value, builtin b tys.toArray ty cs args'.toArray = (do pure (.value (← S))) ∧ Sim E base h μ w h' v (S.run P w) := by
  unfold abuiltin at hl
  split at hl
  · rename_i t x
    obtain ⟨x', rfl, hx⟩ := ha.inv1
    refine ⟨_, rfl, ?_⟩
    split at hl
    · rename_i ti s ht
      obtain rfl := hx.inv_string
      have hu := run_und ok ht w
      split at hl
      · rename_i hd
        simp only [Option.some.injEq, Prod.mk.injEq] at hl
        obtain ⟨rfl, rfl⟩ := hl
        simp only [Builtin.len_, List.getElem?_toArray, List.getElem?_cons_zero, Sem.run_bind, hu, Result.andThen_ok, hd]
        exact Sim.pure R (.int _ _)
      · cases hl
    · rename_i ti a n c ht
      have hu := run_und ok ht w
      split at hl
      · rename_i e hd
        simp only [Option.some.injEq, Prod.mk.injEq] at hl
        obtain ⟨rfl, rfl⟩ := hl
        have : ∃ a' c', x' = .slice a' n c' := by
          cases a with
          | none => obtain ⟨rfl, rfl, rfl⟩ := hx.inv_nilslice; exact ⟨_, _, rfl⟩
          | some a => obtain ⟨_, _, a', c', _, rfl, _⟩ := hx.inv_slice; exact ⟨_, _, rfl⟩
        obtain ⟨a', c', rfl⟩ := this
        simp only [Builtin.len_, List.getElem?_toArray, List.getElem?_cons_zero, Sem.run_bind, hu, Result.andThen_ok, hd]
        exact Sim.pure R (.int _ _)
      · cases hl
    · rename_i ti e' n x cells ht
      have hu := run_und ok ht w
      split at hl
      · rename_i e hd
        simp only [Option.some.injEq, Prod.mk.injEq] at hl
        obtain ⟨rfl, rfl⟩ := hl
        obtain ⟨_, a', c', _, rfl, _⟩ := hx.inv_ice.inv_fs
        simp only [Builtin.len_, List.getElem?_toArray, List.getElem?_cons_zero, Sem.run_bind, hu, Result.andThen_ok, hd]
        exact Sim.pure R (.int _ _)
      · cases hl
    · cases hl
  · obtain ⟨x', y', rfl, hx, hy⟩ := ha.inv2
    exact ⟨_, rfl, sim_append ok R hbase hl hx hy⟩
  · obtain ⟨x', y', rfl, hx, hy⟩ := ha.inv2
    exact ⟨_, rfl, sim_copy ok R hl hx hy⟩
  · obtain ⟨x', rfl, hx⟩ := ha.inv1
    exact ⟨_, rfl, sim_clear ok R hl hx⟩
  · obtain ⟨u, hu, he⟩ := Option.map_eq_some_iff.1 hl
    simp only [Prod.mk.injEq] at he
    obtain ⟨rfl, rfl⟩ := he
    unfold amin at hu
    split at hu
    · obtain ⟨x', y', rfl, hx, hy⟩ := ha.inv2
      obtain rfl := hx.inv_int
      obtain rfl := hy.inv_int
      split at hu
      · rename_i hk
        subst hk
        obtain rfl := Option.some.inj hu
        exact ⟨_, rfl, Sim.pure R (.int _ _)⟩
      · cases hu
    · cases hu
  · obtain ⟨u, hu, he⟩ := Option.map_eq_some_iff.1 hl
    simp only [Prod.mk.injEq] at he
    obtain ⟨rfl, rfl⟩ := he
    unfold amax at hu
    split at hu
    · obtain ⟨x', y', rfl, hx, hy⟩ := ha.inv2
      obtain rfl := hx.inv_int
      obtain rfl := hy.inv_int
      split at hu
      · rename_i hk
        subst hk
        obtain rfl := Option.some.inj hu
        exact ⟨_, rfl, Sim.pure R (.int _ _)⟩
      · cases hu
    · cases hu
  · cases hl
end
end Go.Fw
