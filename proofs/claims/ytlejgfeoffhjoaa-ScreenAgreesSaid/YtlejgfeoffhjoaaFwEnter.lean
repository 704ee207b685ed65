/- A call walked in the caller's own memory: what it is handed may be functions that hold pointers. -/
import Derived.Test.YtlejgfeoffhjoaaFwMat
import Derived.Test.YtlejgfeoffhjoaaFwLem
namespace Go.Fw
open Go.RowKit
theorem heapOf_alloc (l : List Blk) (x : Blk) : (heapOf l).alloc x = heapOf (l ++ [x]) := by
  show Heap.mk _ _ = Heap.mk _ _
  congr 1
  · simp
    rfl
  · funext b
    show (if b = l.length then some x else l[b]?) = (l ++ [x])[b]?
    by_cases e : b = l.length
    · subst e
      simp
    · rw [if_neg e]
      rcases Nat.lt_or_ge b l.length with h | h
      · rw [List.getElem?_append_left h]
      · rw [List.getElem?_eq_none h, List.getElem?_eq_none (by simp; omega)]
theorem none_heapOf : Heap.none = heapOf [] := rfl
theorem heapOf_set (l : List Blk) (k : Nat) (x : Blk) (h : k < l.length) : (heapOf l).set k (some x) = heapOf (l.set k x) := by
  show Heap.mk _ _ = Heap.mk _ _
  congr 1
  · simp
    rfl
  · funext b
    show (if b = k then some x else l[b]?) = (l.set k x)[b]?
    rw [List.getElem?_set]
    by_cases e : b = k
    · subst e
      rw [if_pos rfl, if_pos rfl, if_pos h]
    · rw [if_neg e, if_neg fun h => e h.symm]
theorem SCall.enterL {E : Env} {f : FuncId} {fn : Func} {c : Code} {args : List Value} {bs bs' : List Blk} {v : Value} (hf : E.funcs f = some fn) (hb : fn.body = some c) (hl : args.length ≤ fn.ntmps) (own : bs.all (·.own) = true) (own' : bs'.all (·.own) = true) (len : bs.length ≤ bs'.length)
    (hw : Wp bs.length E fn.ntmps c (slots0 args) (heapOf bs) (endK E fn (LentEnd E bs.length v bs'))) : SCall E f args (heapOf bs) v (heapOf bs') := by
  refine fun ok => ⟨⟨fn, hf, by rw [hb]; rfl⟩, fun μ base w args' R hbase ha => ?_⟩
  refine Calls.mono (enter ok (Nat.le_refl _) hf hb hl hw R hbase ha) fun e w' he => ?_
  obtain ⟨v1, h1, v', μ', ⟨rl, hnd, hk, hbk, htold⟩, rfl, R', t, hv⟩ := he
  have f := Fine.of hnd hbk
  have t2 := t.trans (f.tom R' hk)
  refine ⟨v', μIce h1 μ' rl, rfl, f.rel R', ⟨len, t2.mu, t2.back, fun b x hb hx ho => ?_, fun b x _ hb' hx => ?_, t2.mem, t2.ice, t2.icy, t2.iced, t2.below.size, t2.iceY, t2.icedY⟩, t2.below, VRel.told R' f htold hv⟩
  · exfalso
    have := List.all_eq_true.1 own x (List.mem_of_getElem? hx)
    rw [ho] at this
    cases this
  · exact List.all_eq_true.1 own' x (List.mem_of_getElem? hx)
theorem WpCall.enterL {E : Env} {f : FuncId} {args : List Value} {h : Heap} {bs bs' : List Blk} {v : Value} {K : Value → Heap → Prop} (c : SCall E f args (heapOf bs) v (heapOf bs')) (e : h = heapOf bs) (k : K v (heapOf bs')) : WpCall E f args h K := by
  subst e
  exact WpCall.by c k
def clT (E : Env) : List TypeId → Option (List Value)
  | [t] => match E.types t with
    | some ti => match ti.desc with
      | .slice e => (E.types e).map TI.zero
      | _ => none
    | none => none
  | _ => none
def clA : Option (List Value) → Option (Nat × Nat × Nat)
  | some [.slice (some ⟨b, off, none⟩) n _] => some (b, off, n)
  | _ => none
theorem zeros_len (z : List Value) : ∀ n, (zeros z n).length = n * z.length
  | 0 => by simp [zeros]
  | n + 1 => by
    rw [zeros, List.length_append, zeros_len z n, Nat.add_mul, Nat.one_mul, Nat.add_comm]
theorem o_clear {E : Env} {cf : CallF} {s : Slots} {h : Heap} {args : Array Operand} {tys : Array TypeId} {el : TypeId} {bl off n : Nat} {old z : List Value} (hn : n ≠ 0) (hl : true = true ∧ off + (zeros z n).length ≤ old.length) (hb : h.get bl = some ⟨el, true, old⟩ := by kernel_rfl) (ha : clA (evs s args.toList) = some (bl, off, n) := by kernel_rfl) (ht : clT E tys.toList = some z := by kernel_rfl) :
    aop E cf (.call { callee := .builtin .clear, args := args, argTypes := tys }) s h = some (.tuple #[], h.set bl (some ⟨el, true, setAll old off (zeros z n)⟩)) := by
  obtain ⟨t, ti, e, te, ht1, ht2, ht3, ht4, rfl⟩ : ∃ t ti e te, tys.toList = [t] ∧ E.types t = some ti ∧ ti.desc = .slice e ∧ E.types e = some te ∧ te.zero = z := by
    unfold clT at ht
    split at ht
    · rename_i t e1
      split at ht
      · rename_i ti e2
        split at ht
        · rename_i e e3
          obtain ⟨te, h1, h2⟩ := Option.map_eq_some_iff.1 ht
          exact ⟨t, ti, e, te, e1, e2, e3, h1, h2⟩
        · cases ht
      · cases ht
    · cases ht
  obtain ⟨c, hev⟩ : ∃ c, evs s args.toList = some [.slice (some ⟨bl, off, none⟩) n c] := by
    unfold clA at ha
    split at ha
    · rename_i b o m c e1
      simp only [Option.some.injEq, Prod.mk.injEq] at ha
      obtain ⟨rfl, rfl, rfl⟩ := ha
      exact ⟨c, e1⟩
    · cases ha
  have hop : aop E cf (.call { callee := .builtin .clear, args := args, argTypes := tys }) s h = aclear E t (.slice (some ⟨bl, off, none⟩) n c) h := by
    simp only [aop, hev, ht1, abuiltin]
  rw [hop]
  unfold aclear
  simp only [ht2, ht3, if_neg hn, ht4]
  unfold awrite
  rw [hb]
  simp only [true_and]
  rw [if_pos hl.2]
  rfl
end Go.Fw
