/- Operations, third part: slices cut, numbers, conversions, append and its kin. -/
import Derived.Test.YtlejgfeoffhjoaaFwOpt
import Derived.Laws.StructEq
import Derived.ChangeKeysEq
namespace Go.Fw
open Go.RowKit
section
variable {E : Env} {P : Program} {h : Heap} {μ : Place} {base : Nat} {w : World}
theorem bound_run {v v' : Value} {y y' d r : Nat} (hb : abound y (some v) d = some r) (hy : y ≤ y') (hv : VRel E h μ w.heap v v') (code : BoundsCode) : (Instr.sliceBound v' y' code).run P w = .ok r w ∧ r ≤ y := by
  unfold abound at hb
  split at hb
  · rename_i hq; cases hq
  · rename_i k i hq
    obtain rfl := Option.some.inj hq
    obtain rfl := hv.inv_int
    split at hb
    · rename_i hc
      obtain rfl := Option.some.inj hb
      refine ⟨?_, by omega⟩
      simp only [Instr.sliceBound, asIntOf, pure_bind]
      rw [if_pos ⟨hc.1, by omega⟩]
      rfl
    · cases hb
  · cases hb
theorem bounds_run {isS : Bool} {n c c' : Nat} {lo hi lo' hi' : Option Value} {r l : Nat} (h1 : abound c hi n = some r) (h2 : abound r lo 0 = some l) (hc : c ≤ c')
    (hlo : ∀ v, lo = some v → ∃ v', lo' = some v' ∧ VRel E h μ w.heap v v') (hlo0 : lo = none → lo' = none) (hhi : ∀ v, hi = some v → ∃ v', hi' = some v' ∧ VRel E h μ w.heap v v') (hhi0 : hi = none → hi' = none) (hn : n ≤ c) :
    (Instr.sliceBounds isS n c' lo' hi' none).run P w = .ok (l, r, c') w ∧ l ≤ r ∧ r ≤ c := by
  cases hi with
  | none =>
    obtain rfl := hhi0 rfl
    simp only [abound, Option.some.injEq] at h1
    subst h1
    cases lo with
    | none =>
      obtain rfl := hlo0 rfl
      simp only [abound, Option.some.injEq] at h2
      subst h2
      exact ⟨by simp [Instr.sliceBounds], by omega, hn⟩
    | some v =>
      obtain ⟨v', rfl, hv⟩ := hlo v rfl
      obtain ⟨a1, a2⟩ := bound_run (P := P) h2 (Nat.le_refl _) hv .sliceB
      exact ⟨by simp [Instr.sliceBounds, a1], a2, hn⟩
  | some hv0 =>
    obtain ⟨hv', rfl, hhv⟩ := hhi hv0 rfl
    obtain ⟨b1, b2⟩ := bound_run (P := P) h1 hc hhv (if isS then .sliceAcap else .sliceAlen)
    cases lo with
    | none =>
      obtain rfl := hlo0 rfl
      simp only [abound, Option.some.injEq] at h2
      subst h2
      exact ⟨by simp [Instr.sliceBounds, b1], by omega, b2⟩
    | some v =>
      obtain ⟨v', rfl, hv⟩ := hlo v rfl
      obtain ⟨a1, a2⟩ := bound_run (P := P) h2 (Nat.le_refl _) hv .sliceB
      exact ⟨by simp [Instr.sliceBounds, a1, b1], a2, b2⟩
theorem cut_rel {H : Mem} {a : Option Addr} {n c : Nat} {v' : Value} {e : TypeId} {te : TI} (hte : E.types e = some te) (hrow : rowOf h e a = true) (hv : VRel E h μ H (.slice a n c) v') :
    ∃ a' c', v' = .slice a' n c' ∧ c ≤ c' ∧ n ≤ c ∧ ∀ l r m m', l ≤ r → r ≤ m → m ≤ m' → m ≤ c → m' ≤ c' → VRel E h μ H (.slice (a.map fun p => ⟨p.block, p.off + l * te.size, none⟩) (r - l) (m - l)) (.slice (if m' = l then a' else a'.map (·.add (l * te.size))) (r - l) (m' - l)) := by
  cases a with
  | none =>
    obtain ⟨rfl, rfl, rfl⟩ := hv.inv_nilslice
    refine ⟨none, 0, rfl, Nat.le_refl _, Nat.le_refl _, fun l r m m' h1 h2 h3 h4 h5 => ?_⟩
    obtain rfl : m = 0 := by omega
    obtain rfl : m' = 0 := by omega
    obtain rfl : r = 0 := by omega
    obtain rfl : l = 0 := by omega
    simpa using VRel.s (.nilslice (E := E) (h := h) (μ := μ) (H := H))
  | some a =>
    obtain ⟨b, off, a', c', rfl, rfl, hb, hn, hc, hs, ha⟩ := hv.inv_slice
    refine ⟨some a', c', rfl, hc, hn, fun l r m m' h1 h2 h3 h4 h5 => ?_⟩
    simp only [Option.map_some]
    by_cases em : m' = l
    · rw [if_pos em]
      exact .s (.slice b (off + l * te.size) (r - l) (m - l) a' (m' - l) hb (by omega) (by omega) hs (.inl (by omega)))
    · rw [if_neg em]
      obtain ⟨s1, s2, s3⟩ := ha.resolve_left (by omega)
      have ea : a' = ⟨(μ b).1, (μ b).2 + off, none⟩ := by cases a'; simp_all
      subst ea
      rw [add_addr]
      refine .s (.slice b (off + l * te.size) (r - l) (m - l) _ (m' - l) hb (by omega) (by omega) rfl (.inr ⟨rfl, by simp [Nat.add_assoc], fun x hx => ?_⟩))
      obtain ⟨ti, cs, fr, ht, hH, hl⟩ := s3 x hx
      simp only [rowOf, hx, beq_iff_eq] at hrow
      rw [hrow, hte] at ht
      obtain rfl := Option.some.inj ht
      refine ⟨te, cs, fr, by rw [hrow, hte], hH, ?_⟩
      have : l * te.size + (m' - l) * te.size = m' * te.size := by rw [← Nat.add_mul]; congr 1; omega
      have h6 : m' * te.size ≤ c' * te.size := Nat.mul_le_mul_right _ h5
      show (μ b).2 + off + l * te.size + (m' - l) * te.size ≤ cs.size
      have h7 : (μ b).2 + off + c' * te.size ≤ cs.size := hl
      omega
theorem cut_ice {H : Mem} {e n x : Nat} {cells : Array Value} {v' : Value} {te : TI} (hte : E.types e = some te) (hv : VRel E h μ H (FS e n x cells) v') :
    ∃ a' c', v' = .slice a' n c' ∧ n ≤ c' ∧ ∀ l r m' x2, l ≤ r → r ≤ n → r ≤ m' → m' ≤ c' → (x2 = 1 → m' = r) → (x2 = 2 ↔ x = 2) → VRel E h μ H (FS e (r - l) x2 ((cells.toList.drop (l * te.size)).take ((r - l) * te.size)).toArray) (.slice (if m' = l then a' else a'.map (·.add (l * te.size))) (r - l) (m' - l)) := by
  obtain ⟨ys, a', c', ti, rfl, ht, hn, ⟨hx1, hx2, hx3⟩, hl, hat, hc⟩ := hv.inv_ice.inv_fs
  rw [hte] at ht
  obtain rfl := Option.some.inj ht
  refine ⟨a', c', rfl, hn, fun l r m' x2 h1 h2 h3 h4 h5 h6 => ?_⟩
  have hx2' : a' = none ↔ x2 = 2 := hx2.trans h6.symm
  have hle : l * te.size + (r - l) * te.size ≤ n * te.size := by
    rw [← Nat.add_mul]; exact Nat.mul_le_mul_right _ (by omega)
  have hlen : ((cells.toList.drop (l * te.size)).take ((r - l) * te.size)).length = (r - l) * te.size := by
    rw [List.length_take, List.length_drop, Array.length_toList]; omega
  have hall := (hc.drop (l * te.size)).take ((r - l) * te.size)
  by_cases em : m' = l
  · rw [if_pos em]
    exact .s (.ice (IRel.fs_of hte (by omega) (fun h => by have := h5 h; omega) hx2' (fun h => by have := hx3 h; omega) hlen (.inl (by omega)) hall))
  · rw [if_neg em]
    have hx2'' : (a'.map fun p => p.add (l * te.size)) = none ↔ x2 = 2 := by rw [Option.map_eq_none_iff]; exact hx2'
    have hx3' : (a'.map fun p => p.add (l * te.size)) = none → m' - l = 0 := fun h => by have := hx3 (Option.map_eq_none_iff.1 h); omega
    rcases Nat.eq_zero_or_pos (r - l) with h0 | h0
    · exact .s (.ice (IRel.fs_of hte (by omega) (fun h => by have := h5 h; omega) hx2'' hx3' hlen (.inl h0) hall))
    · obtain ⟨k, o, rfl, hz, _, cs, T, fr, hH, q1, q3⟩ := hat.resolve_left (by omega)
      rw [Option.map_some, add_addr] at hx2'' hx3' ⊢
      have hm : l * te.size + (m' - l) * te.size ≤ c' * te.size := by
        rw [← Nat.add_mul]; exact Nat.mul_le_mul_right _ (by omega)
      refine .s (.ice (IRel.fs_of hte (by omega) (fun h => by have := h5 h; omega) hx2'' hx3' hlen (.inr ⟨_, _, rfl, hz, ⟨rfl, rfl⟩, cs, T, fr, hH, ?_, fun i v hi => ?_⟩) hall))
      · rw [← hall.length, hlen]
        have := hc.length
        rw [Array.length_toList] at this
        show o + l * te.size + (r - l) * te.size ≤ cs.size
        omega
      · rw [List.getElem?_take] at hi
        split at hi
        · rw [List.getElem?_drop] at hi
          show cs[o + l * te.size + i]? = some v
          rw [Nat.add_assoc]
          exact q3 _ _ hi
        · cases hi
theorem sim_slice (ok : EnvOk E P) (R : Rel E h μ w.heap base) {t : TypeId} {x x' v : Value} {lo hi mx lo' hi' mx' : Option Value} (hl : aslice E t x lo hi mx h = some v) (hx : VRel E h μ w.heap x x')
    (hlo : ∀ v, lo = some v → ∃ v', lo' = some v' ∧ VRel E h μ w.heap v v') (hlo0 : lo = none → lo' = none) (hhi : ∀ v, hi = some v → ∃ v', hi' = some v' ∧ VRel E h μ w.heap v v') (hhi0 : hi = none → hi' = none)
    (hmx : ∀ v, mx = some v → ∃ v', mx' = some v' ∧ VRel E h μ w.heap v v') (hmx0 : mx = none → mx' = none) : Sim E base h μ w h v ((Instr.sliceAt t x' lo' hi' mx').run P w) := by
  unfold aslice at hl
  split at hl
  · rename_i ti s ht
    obtain rfl := hx.inv_string
    have hu := run_und ok ht w
    split at hl
    · rename_i hd
      obtain rfl := hmx0 rfl
      split at hl
      · rename_i r h1
        obtain ⟨l, h2, rfl⟩ := Option.map_eq_some_iff.1 hl
        obtain ⟨hb, _, _⟩ := bounds_run (P := P) (isS := false) h1 h2 (Nat.le_refl _) hlo hlo0 hhi hhi0 (Nat.le_refl _)
        simp only [Instr.sliceAt, Instr.slice, Sem.run_bind, hu, Result.andThen_ok, hd, Option.isSome_none, Bool.false_eq_true, if_false, hb, Sem.run_pure]
        exact Sim.pure R (.string _)
      · cases hl
    · cases hl
  · rename_i ti a n c ht
    have hu := run_und ok ht w
    split at hl
    · rename_i e hd
      split at hl
      · rename_i hrow
        split at hl
        · rename_i te hte
          have hs := run_size ok hte w
          obtain ⟨a', c', rfl, hc, hn, hcut⟩ := cut_rel hte hrow hx
          split at hl
          · obtain rfl := hmx0 rfl
            split at hl
            · rename_i r h1
              split at hl
              · rename_i l h2
                obtain rfl := Option.some.inj hl
                obtain ⟨hb, hlr, hrc⟩ := bounds_run (P := P) (isS := true) h1 h2 hc hlo hlo0 hhi hhi0 hn
                simp only [Instr.sliceAt, Instr.slice, Sem.run_bind, hu, Result.andThen_ok, hd, hb, hs, Sem.run_pure]
                exact Sim.pure R (hcut l r c c' hlr hrc hc (Nat.le_refl _) (Nat.le_refl _))
              · cases hl
            · cases hl
          · rename_i mv
            obtain ⟨mv', rfl, hmv⟩ := hmx mv rfl
            split at hl
            · rename_i m hv hm
              obtain ⟨hv', rfl, hhv⟩ := hhi hv rfl
              split at hl
              · rename_i r h1
                split at hl
                · rename_i l h2
                  obtain rfl := Option.some.inj hl
                  obtain ⟨m1, m2⟩ := bound_run (P := P) hm hc hmv .slice3Acap
                  obtain ⟨r1, r2⟩ := bound_run (P := P) h1 (Nat.le_refl _) hhv .slice3B
                  have fin := hcut l r m m
                  cases lo with
                  | none =>
                    obtain rfl := hlo0 rfl
                    simp only [abound, Option.some.injEq] at h2
                    subst h2
                    simp only [Instr.sliceAt, Instr.slice, Instr.sliceBounds, Sem.run_bind, hu, Result.andThen_ok, hd, hs, Sem.run_pure, if_true, m1, r1]
                    exact Sim.pure R (fin (by omega) r2 (Nat.le_refl _) m2 (by omega))
                  | some lv =>
                    obtain ⟨lv', rfl, hlv⟩ := hlo lv rfl
                    obtain ⟨l1, l2⟩ := bound_run (P := P) h2 (Nat.le_refl _) hlv .slice3C
                    simp only [Instr.sliceAt, Instr.slice, Instr.sliceBounds, Sem.run_bind, hu, Result.andThen_ok, hd, hs, Sem.run_pure, if_true, m1, r1, Option.isSome_some, l1]
                    exact Sim.pure R (fin l2 r2 (Nat.le_refl _) m2 (by omega))
                · cases hl
              · cases hl
            · cases hl
        · cases hl
      · cases hl
    · cases hl
  · rename_i ti e' n x cells ht
    have hu := run_und ok ht w
    split at hl
    · rename_i e hd
      split at hl
      · rename_i he
        subst he
        split at hl
        · rename_i te hte
          have hs := run_size ok hte w
          obtain ⟨a', c', rfl, hn, hcut⟩ := cut_ice hte hx
          split at hl
          · obtain rfl := hmx0 rfl
            split at hl
            · rename_i r h1
              split at hl
              · rename_i l h2
                obtain rfl := Option.some.inj hl
                obtain ⟨hb, hlr, hrc⟩ := bounds_run (P := P) (isS := true) h1 h2 hn hlo hlo0 hhi hhi0 (Nat.le_refl n)
                simp only [Instr.sliceAt, Instr.slice, Sem.run_bind, hu, Result.andThen_ok, hd, hb, hs, Sem.run_pure]
                exact Sim.pure R (hcut l r c' (if x = 2 then 2 else 0) hlr hrc (by omega) (Nat.le_refl _) (fun h => by split at h <;> omega) (by split <;> simp_all))
              · cases hl
            · cases hl
          · rename_i mv
            obtain ⟨mv', rfl, hmv⟩ := hmx mv rfl
            split at hl
            · rename_i m hv hm
              obtain ⟨hv', rfl, hhv⟩ := hhi hv rfl
              split at hl
              · rename_i r h1
                split at hl
                · rename_i l h2
                  obtain rfl := Option.some.inj hl
                  obtain ⟨m1, m2⟩ := bound_run (P := P) hm hn hmv .slice3Acap
                  obtain ⟨r1, r2⟩ := bound_run (P := P) h1 (Nat.le_refl _) hhv .slice3B
                  have fin := hcut l r m (if x = 2 then 2 else if m = r then 1 else 0)
                  cases lo with
                  | none =>
                    obtain rfl := hlo0 rfl
                    simp only [abound, Option.some.injEq] at h2
                    subst h2
                    simp only [Instr.sliceAt, Instr.slice, Instr.sliceBounds, Sem.run_bind, hu, Result.andThen_ok, hd, hs, Sem.run_pure, if_true, m1, r1]
                    exact Sim.pure R (fin (by omega) (by omega) r2 (by omega) (fun h => by split at h; omega; split at h <;> omega) (by split; simp_all; split <;> simp_all))
                  | some lv =>
                    obtain ⟨lv', rfl, hlv⟩ := hlo lv rfl
                    obtain ⟨l1, l2⟩ := bound_run (P := P) h2 (Nat.le_refl _) hlv .slice3C
                    simp only [Instr.sliceAt, Instr.slice, Instr.sliceBounds, Sem.run_bind, hu, Result.andThen_ok, hd, hs, Sem.run_pure, if_true, m1, r1, Option.isSome_some, l1]
                    exact Sim.pure R (fin l2 (by omega) r2 (by omega) (fun h => by split at h; omega; split at h <;> omega) (by split; simp_all; split <;> simp_all))
                · cases hl
              · cases hl
            · cases hl
        · cases hl
      · cases hl
    · cases hl
  · cases hl
theorem sim_un (R : Rel E h μ w.heap base) {op : UnOp} {x x' v : Value} (hl : aun op x = some v) (hx : VRel E h μ w.heap x x') : Sim E base h μ w h v ((Op.unary op x').run P w) := by
  unfold aun at hl
  split at hl
  · obtain rfl := hx.inv_int
    obtain rfl := Option.some.inj hl
    exact Sim.pure R (.int _ _)
  · obtain rfl := hx.inv_bool
    obtain rfl := Option.some.inj hl
    exact Sim.pure R (.bool _)
  · cases hl
theorem guard_skip {op : BinOp} {t : TypeId} {x y : Operand} {a b : Value} (ha : ∀ cs, a ≠ .agg cs) (hn : a ≠ .nilIface) : (eqGuard op t x y a b).run P w = .ok () w := by
  unfold eqGuard
  cases op
  case eql => cases a <;> first
      | exact absurd rfl (ha _)
      | exact absurd rfl hn
      | rfl
  case neq => cases a <;> first
      | exact absurd rfl (ha _)
      | exact absurd rfl hn
      | rfl
  all_goals rfl
theorem run_equal (ok : EnvOk E P) {t : TypeId} {ti : TI} (ht : E.types t = some ti) {x y x' y' : Value} {b : Bool} (hl : aeq ti.desc x y = some b) (hx : VRel E h μ w.heap x x') (hy : VRel E h μ w.heap y y') : (Op.equal t x' y').run P w = .ok b w := by
  have hu := run_und ok ht w
  unfold Op.equal Op.maxDepth
  rw [show (10000 : Nat) = 9999 + 1 from rfl]
  unfold Op.equalIn
  simp only [Sem.run_bind, hu, Result.andThen_ok]
  unfold aeq at hl
  split at hl
  · rename_i hd
    obtain rfl := hx.inv_bool
    obtain rfl := hy.inv_bool
    obtain rfl := Option.some.inj hl
    rw [hd]; rfl
  · rename_i p hd
    obtain rfl := hx.inv_nilptr
    obtain rfl := Option.some.inj hl
    cases p with
    | none => obtain rfl := hy.inv_nilptr; rw [hd]; rfl
    | some p => obtain ⟨p', rfl⟩ := hy.inv_some; rw [hd]; rfl
  · rename_i hd
    obtain ⟨p', rfl⟩ := hx.inv_some
    obtain rfl := hy.inv_nilptr
    obtain rfl := Option.some.inj hl
    rw [hd]; rfl
  · rename_i p n' c' hd
    obtain ⟨_, _, rfl⟩ := hx.inv_nilslice
    obtain rfl := Option.some.inj hl
    cases p with
    | none => obtain ⟨_, _, rfl⟩ := hy.inv_nilslice; rw [hd]; rfl
    | some p => obtain ⟨_, _, _, _, _, rfl, _⟩ := hy.inv_slice; rw [hd]; rfl
  · rename_i hd
    obtain ⟨_, _, _, _, _, rfl, _⟩ := hx.inv_slice
    obtain ⟨_, _, rfl⟩ := hy.inv_nilslice
    obtain rfl := Option.some.inj hl
    rw [hd]; rfl
  · rename_i hd
    obtain ⟨_, a', _, _, rfl, _, _, ⟨_, hx2, _⟩, _⟩ := hx.inv_ice.inv_fs
    obtain ⟨_, _, rfl⟩ := hy.inv_nilslice
    obtain rfl := Option.some.inj hl
    rw [hd]
    cases a' with
    | none =>
      obtain rfl := hx2.1 rfl
      rfl
    | some a' =>
      rw [beq_false_of_ne (fun h => by cases hx2.2 h)]
      rfl
  · rename_i hd
    obtain ⟨_, _, rfl⟩ := hx.inv_nilslice
    obtain ⟨_, a', _, _, rfl, _, _, ⟨_, hx2, _⟩, _⟩ := hy.inv_ice.inv_fs
    obtain rfl := Option.some.inj hl
    rw [hd]
    cases a' with
    | none =>
      obtain rfl := hx2.1 rfl
      rfl
    | some a' =>
      rw [beq_false_of_ne (fun h => by cases hx2.2 h)]
      rfl
  · rename_i hd
    obtain ⟨_, _, _, rfl, _⟩ := hx.inv_ice.inv_fp
    obtain rfl := hy.inv_nilptr
    obtain rfl := Option.some.inj hl
    rw [hd]; rfl
  · rename_i hd
    obtain rfl := hx.inv_nilptr
    obtain ⟨_, _, _, rfl, _⟩ := hy.inv_ice.inv_fp
    obtain rfl := Option.some.inj hl
    rw [hd]; rfl
  · rename_i hd
    obtain rfl := hx.inv_nilfunc
    obtain rfl := hy.inv_nilfunc
    obtain rfl := Option.some.inj hl
    rw [hd]; rfl
  · rename_i hd
    obtain rfl := hx.inv_nilfunc
    obtain ⟨_, _, rfl, _⟩ := hy.inv_func
    obtain rfl := Option.some.inj hl
    rw [hd]; rfl
  · rename_i hd
    obtain ⟨_, _, rfl, _⟩ := hx.inv_func
    obtain rfl := hy.inv_nilfunc
    obtain rfl := Option.some.inj hl
    rw [hd]; rfl
  · cases hl
theorem aint_run {k : IntKind} {op : BinOp} {a b : Int} {v : Value} (hs : op ≠ .shl) (hs' : op ≠ .shr) (hl : aint k op a b = some v) (t : TypeId) : (binOp op t (.int k a) (.int k b)).run P w = .ok v w ∧ ∀ {H : Mem}, VRel E h μ H v v := by
  unfold aint at hl
  cases op <;> simp only [abits, reduceCtorEq] at hl <;>
    first
    | (obtain rfl := Option.some.inj hl; exact ⟨by simp [binOp, Op.intArith, Op.intBits, Op.intCmp], fun {_} => by first | exact .int _ _ | exact .bool _⟩)
    | (split at hl
       · cases hl
       · rename_i hz
         obtain rfl := Option.some.inj hl
         exact ⟨by simp [binOp, Op.intDiv, hz], fun {_} => .int _ _⟩)
    | exact absurd rfl hs
    | exact absurd rfl hs'
theorem astr_run {op : BinOp} {a b : ByteArray} {v : Value} (hl : astr op a b = some v) (t : TypeId) : (binOp op t (.string a) (.string b)).run P w = .ok v w ∧ ∀ {H : Mem}, VRel E h μ H v v := by
  have hm : IntKind.i64.max = 9223372036854775807 := by decide
  unfold astr at hl
  cases op <;> simp only [reduceCtorEq] at hl
  case add =>
    split at hl
    · rename_i hz
      obtain rfl := Option.some.inj hl
      refine ⟨?_, fun {_} => .string _⟩
      have : ¬ (((a.size + b.size : Nat) : Int) > IntKind.i64.max) := by rw [hm]; omega
      simp only [binOp, Op.stringOp]
      rw [if_neg this]
      rfl
    · cases hl
  all_goals
    obtain rfl := Option.some.inj hl
    exact ⟨by simp [binOp, Op.stringOp], fun {_} => .bool _⟩
theorem run_part1 {t : TypeId} {d : TypeDesc} (hu : P.underlying t = some d) (hd : aggD d = false) {cs : Array Value} {off : Nat} {v : Value} (hx : cs[off]? = some v) : (part t cs off).run P w = .ok v w := by
  cases d <;> first
    | (cases hd; done)
    | simp [part, isAgg, run_underlying hu, hx]
theorem eqF_int {cs cs' : Array Value} (r : All2 (CRel E h μ w.heap) cs.toList cs'.toList) {off : Nat} {v : Value} (hx : cs.toList[off]? = some v) : ∃ v', cs'[off]? = some v' ∧ CRel E h μ w.heap v v' := by
  obtain ⟨v', h1, h2⟩ := r.get hx
  exact ⟨v', by simpa using h1, h2⟩
theorem run_eqF (ok : EnvOk E P) {xs ys xs' ys' : Array Value} (rx : All2 (CRel E h μ w.heap) xs.toList xs'.toList) (ry : All2 (CRel E h μ w.heap) ys.toList ys'.toList) : ∀ (l : List Field) (b : Bool), eqF E xs.toList ys.toList l = some b → (Op.eqFields 9999 xs' ys' l).run P w = .ok b w
  | [], b, hl => by
    obtain rfl := Option.some.inj hl
    rfl
  | f :: r, b, hl => by
    unfold eqF at hl
    split at hl
    · cases hl
    · rename_i hn
      have hn' : f.name ≠ "_" := fun e => hn (by rw [e]; rfl)
      split at hl
      · rename_i ti ht
        have hu := (ok.types _ _ ht).1
        have step : ∀ (x y : Value) (e : Bool) (q : Bool), (part f.type xs' f.offset).run P w = .ok x w → (part f.type ys' f.offset).run P w = .ok y w → (Op.equalIn 9999 f.type x y).run P w = .ok e w → eqF E xs.toList ys.toList r = some q → b = (e && q) → (Op.eqFields 9999 xs' ys' (f :: r)).run P w = .ok b w := by
          intro x y e q p1 p2 p3 p4 p5
          have ih := run_eqF ok rx ry r q p4
          unfold Op.eqFields
          rw [if_pos hn']
          simp only [Sem.run_bind, p1, p2, p3, Result.andThen_ok]
          cases e with
          | false => subst p5; rfl
          | true =>
            subst p5
            simpa using ih
        split at hl
        · rename_i k0 k a k' b' hd h1 h2
          split at hl
          · rename_i hk
            subst hk
            obtain ⟨q, hq, rfl⟩ := Option.map_eq_some_iff.1 hl
            obtain ⟨x, e1, r1⟩ := eqF_int rx h1
            obtain ⟨y, e2, r2⟩ := eqF_int ry h2
            obtain rfl := (VRel.w (.c r1)).inv_int
            obtain rfl := (VRel.w (.c r2)).inv_int
            rw [hd] at hu
            exact step _ _ _ q (run_part1 hu rfl e1) (run_part1 hu rfl e2) (run_equalIn_int w 9998 f.type k k0 a b' hu) hq rfl
          · cases hl
        · rename_i a b' hd h1 h2
          obtain ⟨q, hq, rfl⟩ := Option.map_eq_some_iff.1 hl
          obtain ⟨x, e1, r1⟩ := eqF_int rx h1
          obtain ⟨y, e2, r2⟩ := eqF_int ry h2
          obtain rfl := (VRel.w (.c r1)).inv_bool
          obtain rfl := (VRel.w (.c r2)).inv_bool
          rw [hd] at hu
          exact step _ _ _ q (run_part1 hu rfl e1) (run_part1 hu rfl e2) (run_equalIn_bool' w 9998 f.type a b' hu) hq rfl
        · rename_i a b' hd h1 h2
          obtain ⟨q, hq, rfl⟩ := Option.map_eq_some_iff.1 hl
          obtain ⟨x, e1, r1⟩ := eqF_int rx h1
          obtain ⟨y, e2, r2⟩ := eqF_int ry h2
          obtain rfl := (VRel.w (.c r1)).inv_string
          obtain rfl := (VRel.w (.c r2)).inv_string
          rw [hd] at hu
          exact step _ _ _ q (run_part1 hu rfl e1) (run_part1 hu rfl e2) (run_equalIn_string w 9998 f.type a b' hu) hq rfl
        · cases hl
      · cases hl
theorem run_eqI (ok : EnvOk E P) {e : TypeId} (he : intT E e = true) {xs ys xs' ys' : Array Value} (rx : All2 (CRel E h μ w.heap) xs.toList xs'.toList) (ry : All2 (CRel E h μ w.heap) ys.toList ys'.toList) : ∀ (l : List Nat) (b : Bool), eqI xs.toList ys.toList l = some b → (Op.eqItems 9999 e (P.cellsOf e) xs' ys' l).run P w = .ok b w
  | [], b, hl => by
    obtain rfl := Option.some.inj hl
    simp [Op.eqItems]
  | i :: is, b, hl => by
    unfold eqI at hl
    unfold intT at he
    have he0 := he
    split at he
    · rename_i te ht
      split at he
      · rename_i k0 hd
        obtain ⟨hu, ti, z, hi, hs, _⟩ := ok.types _ _ ht
        rw [hd] at hu
        have hc : P.cellsOf e = 1 := by
          have h1 : te.size = 1 := by simpa using he
          unfold Program.cellsOf
          rw [hi]
          show ti.size = 1
          rw [hs, h1]
        split at hl
        · rename_i k a k' b' h1 h2
          split at hl
          · rename_i hk
            subst hk
            obtain ⟨q, hq, rfl⟩ := Option.map_eq_some_iff.1 hl
            obtain ⟨x, e1, r1⟩ := eqF_int rx h1
            obtain ⟨y, e2, r2⟩ := eqF_int ry h2
            obtain rfl := (VRel.w (.c r1)).inv_int
            obtain rfl := (VRel.w (.c r2)).inv_int
            have ih := run_eqI ok (by unfold intT; rw [ht]; simpa [hd] using he) rx ry is q hq
            have p1 : (part e xs' (i * P.cellsOf e)).run P w = .ok (.int k a) w := by
              rw [hc, Nat.mul_one]
              exact run_part1 hu rfl e1
            have p2 : (part e ys' (i * P.cellsOf e)).run P w = .ok (.int k b') w := by
              rw [hc, Nat.mul_one]
              exact run_part1 hu rfl e2
            have p3 := run_equalIn_int w 9998 e k k0 a b' hu
            simp only [Op.eqItems, Sem.run_bind, p1, p2, p3, Result.andThen_ok]
            cases (a == b') with
            | false => rfl
            | true => simpa using ih
          · cases hl
        · cases hl
      · cases he
    · cases he
theorem run_arrays (ok : EnvOk E P) {t : TypeId} {ti : TI} (ht : E.types t = some ti) {n : Nat} {e : TypeId} {xs ys : Array Value} {x' y' : Value} {b : Bool} (hd : ti.desc = .array n e) (he : ti.eqs = true) (hi : intT E e = true) (hq : eqI xs.toList ys.toList (List.range n) = some b) (hx : VRel E h μ w.heap (.agg xs) x') (hy : VRel E h μ w.heap (.agg ys) y') (op : BinOp) (xo yo : Operand) :
    (eqGuard op t xo yo x' y').run P w = .ok () w ∧ (binOp .eql t x' y').run P w = .ok (.bool b) w ∧ (binOp .neq t x' y').run P w = .ok (.bool !b) w := by
  obtain ⟨xs', rfl, rx⟩ := hx.inv_agg
  obtain ⟨ys', rfl, ry⟩ := hy.inv_agg
  obtain ⟨s1, s2⟩ := ok.eqs t ti ht he
  have hu := (ok.types _ _ ht).1
  rw [hd] at hu
  obtain ⟨te, hte⟩ : ∃ te, E.types e = some te := by
    unfold intT at hi
    split at hi
    · rename_i te h1
      exact ⟨te, h1⟩
    · cases hi
  obtain ⟨_, ie, _, hie, _⟩ := ok.types _ _ hte
  have hr : (Op.equalIn 10000 t (.agg xs') (.agg ys')).run P w = .ok b w := by
    rw [show (10000 : Nat) = 9999 + 1 from rfl, run_equalIn_array w 9999 xs' ys' hu hie]
    exact run_eqI ok hi rx ry (List.range n) b hq
  exact ⟨run_eqGuard_agg w op t xo yo xs' ys' s2, by rw [run_eql_struct, hr]; rfl, by rw [run_neq_struct, hr]; rfl⟩
theorem aeqX_cases {ti : TI} {x y : Value} {b : Bool} (hl : aeqX E ti x y = some b) : aeq ti.desc x y = some b ∨ (∃ fs xs ys, ti.desc = .struct fs ∧ x = .agg xs ∧ y = .agg ys ∧ ti.eqs = true ∧ eqF E xs.toList ys.toList fs.toList = some b) ∨ ∃ n e xs ys, ti.desc = .array n e ∧ x = .agg xs ∧ y = .agg ys ∧ ti.eqs = true ∧ intT E e = true ∧ eqI xs.toList ys.toList (List.range n) = some b := by
  unfold aeqX at hl
  split at hl
  · rename_i n e xs ys hd
    split at hl
    · rename_i he
      exact .inr (.inr ⟨n, e, xs, ys, hd, rfl, rfl, he.1, he.2, hl⟩)
    · cases hl
  · rename_i fs xs ys hd
    split at hl
    · rename_i he
      exact .inr (.inl ⟨fs, xs, ys, hd, rfl, rfl, he, hl⟩)
    · cases hl
  · exact .inl hl
theorem run_structs (ok : EnvOk E P) {t : TypeId} {ti : TI} (ht : E.types t = some ti) {fs : Array Field} {xs ys : Array Value} {x' y' : Value} {b : Bool} (hd : ti.desc = .struct fs) (he : ti.eqs = true) (hq : eqF E xs.toList ys.toList fs.toList = some b) (hx : VRel E h μ w.heap (.agg xs) x') (hy : VRel E h μ w.heap (.agg ys) y') (op : BinOp) (xo yo : Operand) :
    (eqGuard op t xo yo x' y').run P w = .ok () w ∧ (binOp .eql t x' y').run P w = .ok (.bool b) w ∧ (binOp .neq t x' y').run P w = .ok (.bool !b) w := by
  obtain ⟨xs', rfl, rx⟩ := hx.inv_agg
  obtain ⟨ys', rfl, ry⟩ := hy.inv_agg
  obtain ⟨s1, s2⟩ := ok.eqs t ti ht he
  have hu := (ok.types _ _ ht).1
  rw [hd] at hu
  have hf : P.fieldsOf t = fs := by unfold Program.fieldsOf; rw [hu]
  have hr : (Op.equalIn 10000 t (.agg xs') (.agg ys')).run P w = .ok b w := by
    rw [show (10000 : Nat) = 9999 + 1 from rfl, run_equalIn_struct w 9999 t xs' ys' (by rw [hf]; exact hu) s1, hf]
    exact run_eqF ok rx ry fs.toList b hq
  exact ⟨run_eqGuard_agg w op t xo yo xs' ys' s2, by rw [run_eql_struct, hr]; rfl, by rw [run_neq_struct, hr]; rfl⟩
theorem sim_bin (ok : EnvOk E P) (R : Rel E h μ w.heap base) {op : BinOp} {t : TypeId} {x y x' y' v : Value} (xo yo : Operand) (hl : abin E op t x y = some v) (hx : VRel E h μ w.heap x x') (hy : VRel E h μ w.heap y y') :
    Sim E base h μ w h v ((do eqGuard op t xo yo x' y'; binOp op t x' y' : Sem Value).run P w) := by
  unfold abin at hl
  split at hl
  · rename_i k a k' b
    obtain rfl := hx.inv_int
    obtain rfl := hy.inv_int
    simp only [Sem.run_bind, guard_skip (P := P) (w := w) (op := op) (t := t) (x := xo) (y := yo) (a := .int k a) (b := .int k' b) (by simp) (by simp), Result.andThen_ok]
    split at hl
    · split at hl
      · cases hl
      · rename_i hb
        obtain rfl := Option.some.inj hl
        have : (binOp .shl t (.int k a) (.int k' b)).run P w = .ok (.int k (k.wrap (a * 2 ^ min b.toNat k.bits))) w := by simp [binOp, Op.shift, hb]
        rw [this]
        exact Sim.pure R (.int _ _)
    · split at hl
      · cases hl
      · rename_i hb
        obtain rfl := Option.some.inj hl
        have : (binOp .shr t (.int k a) (.int k' b)).run P w = .ok (.int k (a.fdiv (2 ^ min b.toNat k.bits))) w := by simp [binOp, Op.shift, hb]
        rw [this]
        exact Sim.pure R (.int _ _)
    · rename_i h1 h2
      split at hl
      · rename_i hk
        subst hk
        obtain ⟨r1, r2⟩ := aint_run (E := E) (P := P) (h := h) (μ := μ) (w := w) h1 h2 hl t
        rw [r1]
        exact Sim.pure R r2
      · cases hl
  · rename_i a b
    obtain rfl := hx.inv_string
    obtain rfl := hy.inv_string
    simp only [Sem.run_bind, guard_skip (P := P) (w := w) (op := op) (t := t) (x := xo) (y := yo) (a := .string a) (b := .string b) (by simp) (by simp), Result.andThen_ok]
    obtain ⟨r1, r2⟩ := astr_run (E := E) (P := P) (h := h) (μ := μ) (w := w) hl t
    rw [r1]
    exact Sim.pure R r2
  ·
    have key : ∀ {ti : TI} {b : Bool}, E.types t = some ti → aeq ti.desc x y = some b → (∀ cs, x' ≠ .agg cs) ∧ x' ≠ .nilIface ∧ (∀ k n, x' ≠ .int k n) ∧ (∀ s, x' ≠ .string s) ∧ (∀ k n, x' ≠ .float k n) ∧ (∀ k n m, x' ≠ .complex k n m) := by
      intro ti b ht hq
      unfold aeq at hq
      split at hq
      · obtain rfl := hx.inv_bool; simp
      · obtain rfl := hx.inv_nilptr; simp
      · obtain ⟨_, rfl⟩ := hx.inv_some; simp
      · obtain ⟨_, _, rfl⟩ := hx.inv_nilslice; simp
      · obtain ⟨_, _, _, _, _, rfl, _⟩ := hx.inv_slice; simp
      · obtain ⟨_, _, _, _, rfl, _⟩ := hx.inv_ice.inv_fs; simp
      · obtain ⟨_, _, rfl⟩ := hx.inv_nilslice; simp
      · obtain ⟨_, _, _, rfl, _⟩ := hx.inv_ice.inv_fp; simp
      · obtain rfl := hx.inv_nilptr; simp
      · obtain rfl := hx.inv_nilfunc; simp
      · obtain rfl := hx.inv_nilfunc; simp
      · obtain ⟨_, _, rfl, _⟩ := hx.inv_func; simp
      · cases hq
    split at hl
    · rename_i ti ht
      obtain ⟨b, hq, rfl⟩ := Option.map_eq_some_iff.1 hl
      rcases aeqX_cases hq with hq | ⟨fs, xs, ys, hd, rfl, rfl, he, hq⟩ | ⟨n, e, xs, ys, hd, rfl, rfl, he, hi, hq⟩
      rotate_left
      · obtain ⟨g1, g2, g3⟩ := run_structs ok ht hd he hq hx hy .eql xo yo
        simp only [Sem.run_bind, g1, Result.andThen_ok]
        rw [g2]
        exact Sim.pure R (.bool _)
      · obtain ⟨g1, g2, g3⟩ := run_arrays ok ht hd he hi hq hx hy .eql xo yo
        simp only [Sem.run_bind, g1, Result.andThen_ok]
        rw [g2]
        exact Sim.pure R (.bool _)
      obtain ⟨k1, k2, k3, k4, k5, k6⟩ := key ht hq
      have hr := run_equal ok ht hq hx hy
      simp only [Sem.run_bind, guard_skip (P := P) (w := w) (op := .eql) (t := t) (x := xo) (y := yo) (b := y') k1 k2, Result.andThen_ok]
      have : (binOp .eql t x' y').run P w = .ok (.bool b) w := by
        cases x' <;> first
          | exact absurd rfl (k3 _ _)
          | exact absurd rfl (k4 _)
          | exact absurd rfl (k5 _ _)
          | exact absurd rfl (k6 _ _ _)
          | (simp only [binOp, Sem.run_bind, hr, Result.andThen_ok]; rfl)
      rw [this]
      exact Sim.pure R (.bool _)
    · rename_i ti ht
      obtain ⟨b, hq, rfl⟩ := Option.map_eq_some_iff.1 hl
      rcases aeqX_cases hq with hq | ⟨fs, xs, ys, hd, rfl, rfl, he, hq⟩ | ⟨n, e, xs, ys, hd, rfl, rfl, he, hi, hq⟩
      rotate_left
      · obtain ⟨g1, g2, g3⟩ := run_structs ok ht hd he hq hx hy .neq xo yo
        simp only [Sem.run_bind, g1, Result.andThen_ok]
        rw [g3]
        exact Sim.pure R (.bool _)
      · obtain ⟨g1, g2, g3⟩ := run_arrays ok ht hd he hi hq hx hy .neq xo yo
        simp only [Sem.run_bind, g1, Result.andThen_ok]
        rw [g3]
        exact Sim.pure R (.bool _)
      obtain ⟨k1, k2, k3, k4, k5, k6⟩ := key ht hq
      have hr := run_equal ok ht hq hx hy
      simp only [Sem.run_bind, guard_skip (P := P) (w := w) (op := .neq) (t := t) (x := xo) (y := yo) (b := y') k1 k2, Result.andThen_ok]
      have : (binOp .neq t x' y').run P w = .ok (.bool !b) w := by
        cases x' <;> first
          | exact absurd rfl (k3 _ _)
          | exact absurd rfl (k4 _)
          | exact absurd rfl (k5 _ _)
          | exact absurd rfl (k6 _ _ _)
          | (simp only [binOp, Sem.run_bind, hr, Result.andThen_ok]; rfl)
      rw [this]
      exact Sim.pure R (.bool _)
    · cases hl
end
end Go.Fw
