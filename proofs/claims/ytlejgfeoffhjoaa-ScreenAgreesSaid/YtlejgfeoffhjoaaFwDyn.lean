/- Two operations that touch different places of memory: either may come first. -/
import Derived.Test.YtlejgfeoffhjoaaFwLend
namespace Go.Fw
open Go.RowKit
def adrSlot : Op → Option Nat
  | .load _ (.tmp a) => some a
  | .store _ (.tmp a) _ => some a
  | .slice _ (.tmp a) _ _ _ => some a
  | .call { callee := .builtin .append, args := ⟨.tmp a :: _⟩, .. } => some a
  | _ => none
inductive Foot where
  | nil
  | cells (b lo n : Nat)
  | blk (b : Nat)
  | any
def footA (E : Env) (t : TypeId) (v : Value) (one : Bool) : Foot := match E.types t with
  | some ti => match v with
    | .pointer (some ⟨b, off, none⟩) => .cells b off (if one && !aggD ti.desc then 1 else ti.size)
    | .iface _ _ => .nil
    | _ => .any
  | none => .any
def footS (v : Value) : Foot := match v with
  | .slice (some ⟨b, _, none⟩) _ _ => .blk b
  | .slice none _ _ => .nil
  | .iface _ _ => .nil
  | .string _ => .nil
  | _ => .any
def reads (E : Env) (s : Slots) : Op → Foot
  | .load t (.tmp a) => footA E t (s a) true
  | .slice _ (.tmp a) _ _ _ => footS (s a)
  | _ => .any
def writes (E : Env) (s : Slots) : Op → Foot
  | .store t (.tmp a) _ => footA E t (s a) false
  | .call { callee := .builtin .append, args := ⟨.tmp a :: _⟩, .. } => footS (s a)
  | _ => .any
def isSt : Op → Bool
  | .store _ (.tmp _) _ => true
  | _ => false
def apartF : Foot → Foot → Bool
  | .any, _ => false
  | _, .any => false
  | .nil, _ => true
  | _, .nil => true
  | .cells b lo n, .cells b' lo' n' => b != b' || (decide (lo + n ≤ lo') || decide (lo' + n' ≤ lo))
  | .cells b _ _, .blk b' => b != b'
  | .blk b, .cells b' _ _ => b != b'
  | .blk b, .blk b' => b != b'
def dynR (E : Env) (s : Slots) (x y : Op) : Bool := clsOf E x == .read && apartF (reads E s x) (writes E s y)
def dynS (E : Env) (s : Slots) (x y : Op) : Bool := isSt x && isSt y && apartF (writes E s x) (writes E s y)
def isMk : Op → Bool
  | .alloc _ | .box .. | .buildSlice .. | .makeSlice .. => true
  | _ => false
def dynM (x y : Op) : Bool := isSt x && isMk y
def dynOk (E : Env) (s : Slots) (x y : Op) : Bool := dynR E s x y || dynR E s y x || dynS E s x y || dynM x y || dynM y x
def agreeF (h h' : Heap) : Foot → Prop
  | .nil => True
  | .blk b => h'.get b = h.get b
  | .cells b lo n => h'.get b = h.get b ∨ ∃ x x', h.get b = some x ∧ h'.get b = some x' ∧ x'.cells.length = x.cells.length ∧ ∀ i, lo ≤ i → i < lo + n → x'.cells[i]? = x.cells[i]?
  | .any => False
theorem cellsAt_agree {l l' : List Value} {lo n : Nat} (hl : l'.length = l.length) (h : ∀ i, lo ≤ i → i < lo + n → l'[i]? = l[i]?) : cellsAt l' lo n = cellsAt l lo n := by
  unfold cellsAt
  rw [hl]
  split
  · congr 1
    apply List.ext_getElem?
    intro i
    rw [List.getElem?_take, List.getElem?_take]
    split
    · rw [List.getElem?_drop, List.getElem?_drop]
      exact h _ (by omega) (by omega)
    · rfl
  · rfl
theorem load_agree {E : Env} {t : TypeId} {v : Value} {h h' : Heap} (ha : agreeF h h' (footA E t v true)) : aload E t v h' = aload E t v h := by
  unfold footA at ha
  split at ha
  · rename_i ti ht
    split at ha
    · rename_i b off
      simp only [aload, ht]
      rcases ha with ha | ⟨x, x', h1, h2, h3, h4⟩
      · rw [ha]
      · rw [h1, h2]
        dsimp only
        by_cases hd : aggD ti.desc = true
        · rw [if_pos hd, if_pos hd]
          rw [cellsAt_agree h3 fun i q1 q2 => h4 i q1 (by simpa [hd] using q2)]
        · rw [if_neg hd, if_neg hd]
          exact h4 off (Nat.le_refl _) (by simp [hd])
    · rename_i d x
      unfold aload
      simp only [ht]
      split
      · rename_i hx; cases hx
      · rfl
      · rfl
    · exact ha.elim
  · exact ha.elim
theorem keep_eq {h h' : Heap} {o : Option Value} {v : Value} (hk : keep h o = some (v, h')) : h' = h ∧ ∀ g, keep g o = some (v, g) := by
  obtain ⟨rfl, rfl⟩ := keep_some hk
  exact ⟨rfl, fun _ => rfl⟩
theorem slice_agree {E : Env} {t : TypeId} {x : Value} {lo hi mx : Option Value} {h h' : Heap} (hx : ∀ a n c, x = .slice a n c → ∀ e, rowOf h' e a = rowOf h e a) : aslice E t x lo hi mx h' = aslice E t x lo hi mx h := by
  unfold aslice
  split
  · rfl
  · rename_i ti a n c _
    simp only [hx a n c rfl]
  · rfl
  · rfl
theorem footS_row {h h' : Heap} {x : Value} (ha : agreeF h h' (footS x)) : ∀ a n c, x = .slice a n c → ∀ e, rowOf h' e a = rowOf h e a := by
  rintro a n c rfl e
  unfold footS at ha
  split at ha
  · rename_i b off n' c' heq
    cases heq
    simp only [rowOf]
    rw [show h'.get b = h.get b from ha]
  · rename_i heq
    cases heq
    rfl
  · rename_i heq; cases heq
  · rename_i heq; cases heq
  · exact ha.elim
theorem read_agree {E : Env} {cf : CallF} {op : Op} {s : Slots} {h h' g : Heap} {v : Value} (ha : agreeF h h' (reads E s op)) (hl : aop E cf op s h = some (v, g)) : g = h ∧ aop E cf op s h' = some (v, h') := by
  unfold reads at ha
  split at ha
  · rename_i t a
    simp only [aop, ev] at hl ⊢
    obtain ⟨rfl, hk⟩ := keep_eq hl
    rw [load_agree ha]
    exact ⟨rfl, hk h'⟩
  · rename_i t a lo hi mx
    simp only [aop, ev] at hl ⊢
    split at hl
    · rename_i v0 l r m e1 e2 e3 e4
      obtain ⟨rfl, hk⟩ := keep_eq hl
      cases e1
      refine ⟨rfl, ?_⟩
      rw [slice_agree (footS_row ha)]
      exact hk h'
    · cases hl
  · exact ha.elim
theorem setAll_len : ∀ (xs cells : List Value) (off : Nat), (setAll cells off xs).length = cells.length
  | [], _, _ => rfl
  | x :: r, cells, off => by rw [setAll, setAll_len r, List.length_set]
theorem setAll_out : ∀ (xs cells : List Value) (off i : Nat), i < off ∨ off + xs.length ≤ i → (setAll cells off xs)[i]? = cells[i]?
  | [], _, _, _, _ => rfl
  | x :: r, cells, off, i, h => by
    simp only [List.length_cons] at h
    rw [setAll, setAll_out r _ _ _ (by omega), List.getElem?_set_ne (by omega)]
theorem setAll_in : ∀ (xs cells : List Value) (off i : Nat), off + xs.length ≤ cells.length → off ≤ i → i < off + xs.length → (setAll cells off xs)[i]? = xs[i - off]?
  | [], _, _, _, _, h1, h2 => by simp at h2; omega
  | x :: r, cells, off, i, hl, h1, h2 => by
    simp only [List.length_cons] at h2 hl
    rw [setAll]
    by_cases h : i = off
    · subst h
      rw [setAll_out r _ _ _ (by omega), List.getElem?_set_self (by omega), Nat.sub_self]
      rfl
    · rw [setAll_in r _ _ _ (by rw [List.length_set]; omega) (by omega) (by omega), show i - off = (i - (off + 1)) + 1 by omega, List.getElem?_cons_succ]
theorem setAll_comm (xs ys cells : List Value) (o p : Nat) (h1 : o + xs.length ≤ cells.length) (h2 : p + ys.length ≤ cells.length) (h : o + xs.length ≤ p ∨ p + ys.length ≤ o) : setAll (setAll cells o xs) p ys = setAll (setAll cells p ys) o xs := by
  apply List.ext_getElem?
  intro i
  by_cases q1 : p ≤ i ∧ i < p + ys.length
  · rw [setAll_in ys _ _ _ (by rw [setAll_len]; exact h2) q1.1 q1.2, setAll_out xs _ _ _ (by omega), setAll_in ys _ _ _ h2 q1.1 q1.2]
  · rw [setAll_out ys _ _ _ (by omega)]
    by_cases q2 : o ≤ i ∧ i < o + xs.length
    · rw [setAll_in xs _ _ _ h1 q2.1 q2.2, setAll_in xs _ _ _ (by rw [setAll_len]; exact h1) q2.1 q2.2]
    · rw [setAll_out xs _ _ _ (by omega), setAll_out xs _ _ _ (by omega), setAll_out ys _ _ _ (by omega)]
theorem store_spec {E : Env} {cf : CallF} {t : TypeId} {a : Tmp} {x : Operand} {s : Slots} {h h' : Heap} {v : Value} (hl : aop E cf (.store t (.tmp a) x) s h = some (v, h')) :
    ∃ ti b off u xs blk, E.types t = some ti ∧ s a = .pointer (some ⟨b, off, none⟩) ∧ ev s x = some u ∧ cellsOf u = some xs ∧ xs.length = ti.size ∧ h.get b = some blk ∧ blk.own = true ∧ off + xs.length ≤ blk.cells.length ∧ v = undef ∧ h' = h.set b (some { blk with cells := setAll blk.cells off xs }) := by
  simp only [aop, ev] at hl
  split at hl
  · rename_i v0 u e1 e2
    cases e1
    split at hl
    · rename_i g hs
      cases hl
      unfold astore at hs
      split at hs
      · rename_i ti b off xs ht ha hc
        split at hs
        · rename_i hz
          unfold awrite at hs
          split at hs
          · rename_i blk hb
            split at hs
            · rename_i ho
              cases hs
              exact ⟨ti, b, off, u, xs, blk, ht, ha, e2, hc, hz, hb, ho.1, ho.2, rfl, rfl⟩
            · cases hs
          · cases hs
        · cases hs
      · cases hs
    · cases hl
  · cases hl
theorem store_of {E : Env} {cf : CallF} {t : TypeId} {a : Tmp} {x : Operand} {s : Slots} {h : Heap} {ti : TI} {b off : Nat} {u : Value} {xs : List Value} {blk : Blk} (ht : E.types t = some ti) (ha : s a = .pointer (some ⟨b, off, none⟩)) (hx : ev s x = some u) (hc : cellsOf u = some xs) (hz : xs.length = ti.size) (hb : h.get b = some blk) (ho : blk.own = true) (hle : off + xs.length ≤ blk.cells.length) :
    aop E cf (.store t (.tmp a) x) s h = some (undef, h.set b (some { blk with cells := setAll blk.cells off xs })) := by
  have ea : ev s (.tmp a) = some (s a) := rfl
  simp only [aop, ea, hx, ha, astore, ht, hc]
  rw [if_pos hz]
  simp only [awrite, hb]
  rw [if_pos ⟨ho, hle⟩]
theorem set_comm {h : Heap} {b c : Nat} {x y : Option Blk} (hn : b ≠ c) : (h.set b x).set c y = (h.set c y).set b x := by
  simp only [Heap.set, Heap.mk.injEq, true_and]
  funext i
  by_cases h1 : i = c
  · subst h1
    rw [if_pos rfl, if_neg (fun e => hn e.symm), if_pos rfl]
  · rw [if_neg h1]
    by_cases h2 : i = b
    · rw [if_pos h2, if_pos h2]
    · rw [if_neg h2, if_neg h2, if_neg h1]
theorem set_set {h : Heap} {b : Nat} {x y : Option Blk} : (h.set b x).set b y = h.set b y := by
  simp only [Heap.set, Heap.mk.injEq, true_and]
  funext i
  by_cases h1 : i = b
  · rw [if_pos h1, if_pos h1]
  · rw [if_neg h1, if_neg h1, if_neg h1]
theorem get_set_ne {h : Heap} {b c : Nat} {x : Option Blk} (hn : c ≠ b) : (h.set b x).get c = h.get c := by
  simp only [Heap.get_set, if_neg hn]
theorem awrite_get {b off : Nat} {xs : List Value} {h h' : Heap} (hw : awrite b off xs h = some h') : ∀ c, c ≠ b → h'.get c = h.get c := by
  intro c hc
  unfold awrite at hw
  split at hw
  · split at hw
    · cases hw
      exact get_set_ne hc
    · cases hw
  · cases hw
theorem append_spec {E : Env} {t u : TypeId} {sv x : Value} {h h' : Heap} {v : Value} (hl : aappend E t u sv x h = some (v, h')) : ∀ c, c < h.next → (∀ b off n k, sv = .slice (some ⟨b, off, none⟩) n k → c ≠ b) → h'.get c = h.get c := by
  intro c hc hne
  have al : ∀ {z : Blk} {g : Heap}, g.next = h.next → g.get c = h.get c → (g.alloc z).get c = h.get c := fun {z g} e1 e2 => by
    simp only [Heap.get_alloc]
    rw [if_neg (by omega)]
    exact e2
  unfold aappend at hl
  split at hl
  · split at hl
    · split at hl
      · split at hl
        · cases hl
        · split at hl
          · split at hl
            · rename_i base n k
              split at hl
              · split at hl
                · cases hl; rfl
                · split at hl
                  · rename_i b off
                    obtain ⟨g, hg, he⟩ := Option.map_eq_some_iff.1 hl
                    cases he
                    exact awrite_get hg c (hne _ _ _ _ rfl)
                  · cases hl
              · split at hl
                · split at hl
                  · split at hl
                    · cases hl
                      exact al rfl rfl
                    · cases hl
                  · rename_i b off
                    split at hl
                    · split at hl
                      · obtain ⟨old, _, he⟩ := Option.map_eq_some_iff.1 hl
                        cases he
                        exact al rfl (get_set_ne (hne _ _ _ _ rfl))
                      · cases hl
                    · cases hl
                  · cases hl
                · cases hl
            · split at hl
              · cases hl; rfl
              · split at hl
                · cases hl
                  exact al rfl rfl
                · cases hl
            · cases hl
          · cases hl
      · cases hl
    · cases hl
  · cases hl
def footB : Foot → Option Nat
  | .cells c _ _ => some c
  | .blk c => some c
  | _ => none
theorem footA_within {E : Env} {t : TypeId} {v : Value} {o : Bool} {N b : Nat} (hw : within N v) (hb : footB (footA E t v o) = some b) : b < N := by
  unfold footA at hb
  split at hb
  · split at hb
    · rename_i b' off
      obtain rfl : b' = b := Option.some.inj hb
      exact hw
    · cases hb
    · cases hb
  · cases hb
theorem footS_within {v : Value} {N b : Nat} (hw : within N v) (hb : footB (footS v) = some b) : b < N := by
  unfold footS at hb
  split at hb
  · rename_i b' off n k
    obtain rfl : b' = b := Option.some.inj hb
    exact hw
  · cases hb
  · cases hb
  · cases hb
  · cases hb
theorem reads_within {E : Env} {s : Slots} {x : Op} {N b : Nat} (hw : ∀ x u, ev s x = some u → within N u) (hb : footB (reads E s x) = some b) : b < N := by
  unfold reads at hb
  split at hb
  · exact footA_within (hw (.tmp _) _ rfl) hb
  · exact footS_within (hw (.tmp _) _ rfl) hb
  · cases hb
theorem write_agree {E : Env} {cf : CallF} {x y : Op} {s : Slots} {h h' : Heap} {v : Value} (hw : ∀ x u, ev s x = some u → within h.next u) (hap : apartF (reads E s x) (writes E s y) = true) (hl : aop E cf y s h = some (v, h')) : agreeF h h' (reads E s x) ∧ agreeF h' h (reads E s x) := by
  have blockCase : (∀ b, footB (reads E s x) = some b → h'.get b = h.get b) → (reads E s x ≠ .any) → agreeF h h' (reads E s x) ∧ agreeF h' h (reads E s x) := fun hb hn => by
    cases hx : reads E s x with
    | nil => exact ⟨trivial, trivial⟩
    | blk b => rw [hx] at hb; exact ⟨hb b rfl, (hb b rfl).symm⟩
    | cells b lo n => rw [hx] at hb; exact ⟨.inl (hb b rfl), .inl (hb b rfl).symm⟩
    | any => exact absurd hx hn
  have hnx : reads E s x ≠ .any := fun e => by rw [e] at hap; simp [apartF] at hap
  unfold writes at hap
  split at hap
  · rename_i t a z
    obtain ⟨ti, b, off, u, xs, blk, ht, ha, hx, hc, hz, hb, ho, hle, rfl, rfl⟩ := store_spec hl
    have hf : footA E t (s a) false = .cells b off ti.size := by unfold footA; rw [ht, ha]; rfl
    rw [hf] at hap
    cases hx : reads E s x with
    | nil => exact ⟨trivial, trivial⟩
    | any => exact absurd hx hnx
    | blk c =>
      rw [hx] at hap
      have hne : c ≠ b := by simpa [apartF] using hap
      exact ⟨get_set_ne hne, (get_set_ne hne).symm⟩
    | cells c lo n =>
      rw [hx] at hap
      by_cases hne : c = b
      · subst hne
        have hd : lo + n ≤ off ∨ off + ti.size ≤ lo := by simpa [apartF] using hap
        have key : ∀ i, lo ≤ i → i < lo + n → (setAll blk.cells off xs)[i]? = blk.cells[i]? := fun i q1 q2 => setAll_out _ _ _ _ (by omega)
        have hg : (h.set c (some { blk with cells := setAll blk.cells off xs })).get c = some { blk with cells := setAll blk.cells off xs } := by simp only [Heap.get_set, if_true]
        exact ⟨.inr ⟨blk, _, hb, hg, setAll_len _ _ _, key⟩, .inr ⟨_, blk, hg, hb, (setAll_len _ _ _).symm, fun i q1 q2 => (key i q1 q2).symm⟩⟩
      · exact ⟨.inl (get_set_ne hne), .inl (get_set_ne hne).symm⟩
  · rename_i a l tys
    refine blockCase (fun b hb => ?_) hnx
    have hlt := reads_within hw hb
    have hne : ∀ c off n k, s a = .slice (some ⟨c, off, none⟩) n k → b ≠ c := fun c off n k hs e => by
      rw [hs] at hap
      subst e
      cases hx : reads E s x with
      | nil => rw [hx] at hb; cases hb
      | any => rw [hx] at hb; cases hb
      | blk c => rw [hx] at hb hap; obtain rfl : c = b := Option.some.inj hb; simp [apartF, footS] at hap
      | cells c _ _ => rw [hx] at hb hap; obtain rfl : c = b := Option.some.inj hb; simp [apartF, footS] at hap
    simp only [aop] at hl
    split at hl
    · rename_i bb args e1 e2
      cases e1
      simp only [evs] at e2
      split at e2
      · rename_i v0 l0 h1 h2
        cases h1
        cases e2
        cases htys : tys.toList with
        | nil => rw [htys] at hl; cases l0 <;> cases hl
        | cons t r =>
          rw [htys] at hl
          match r, l0, hl with
          | [u], [z], hl => exact append_spec hl b hlt fun c off n k hs => hne c off n k hs
      · cases e2
    · rename_i e1 _
      cases e1
    · cases hl
  · cases hq : reads E s x <;> rw [hq] at hap <;> simp [apartF] at hap
theorem apartF_symm (f g : Foot) : apartF f g = apartF g f := by
  cases f <;> cases g <;> simp only [apartF] <;> first | rfl | (rw [Bool.eq_iff_iff]; simp [bne_iff_ne]; constructor <;> omega) | (rw [Bool.eq_iff_iff]; simp [bne_iff_ne]; constructor <;> exact fun h e => h e.symm)
theorem isSt_spec {x : Op} (h : isSt x = true) : ∃ t a z, x = .store t (.tmp a) z := by
  unfold isSt at h
  split at h
  · exact ⟨_, _, _, rfl⟩
  · cases h
theorem mk_spec {E : Env} {cf : CallF} {op : Op} {s : Slots} {h h' : Heap} {v : Value} (hm : isMk op = true) (hl : aop E cf op s h = some (v, h')) : ∃ z, h' = h.alloc z ∧ ∀ g : Heap, g.next = h.next → aop E cf op s g = some (v, g.alloc z) := by
  unfold isMk at hm
  split at hm
  · rename_i t
    simp only [aop, aalloc, anew] at hl ⊢
    split at hl
    · rename_i ti ht
      cases hl
      exact ⟨_, rfl, fun g hg => by rw [hg]⟩
    · cases hl
  · rename_i t x
    simp only [aop, abox, anew] at hl ⊢
    split at hl
    · rename_i u hu
      split at hl
      · rename_i xs hx
        cases hl
        refine ⟨_, rfl, fun g hg => ?_⟩
        simp only [hg]
      · cases hl
    · cases hl
  · rename_i t n ps
    simp only [aop, abuildSlice, arow] at hl ⊢
    split at hl
    · rename_i l hu
      split at hl
      · rename_i ti ht
        split at hl
        · rename_i e hd
          split at hl
          · rename_i te he
            split at hl
            · rename_i hz
              split at hl
              · rename_i cs hc
                cases hl
                refine ⟨_, rfl, fun g hg => ?_⟩
                simp only [if_true, hz, hg]
              · cases hl
            · cases hl
          · cases hl
        · cases hl
      · cases hl
    · cases hl
  · rename_i t x y
    simp only [aop, amakeSlice, arow] at hl ⊢
    split at hl
    · rename_i v0 u0 h1 h2
      split at hl
      · rename_i ti n m ht
        split at hl
        · rename_i e hd
          split at hl
          · rename_i te he
            split at hl
            · rename_i hz
              cases hl
              refine ⟨_, rfl, fun g hg => ?_⟩
              rw [hg, if_pos hz]
            · cases hl
          · cases hl
        · cases hl
      · cases hl
    · cases hl
  · cases hm
theorem alloc_set {h : Heap} {b : Nat} {x : Option Blk} {z : Blk} (hb : b < h.next) : (h.set b x).alloc z = (h.alloc z).set b x := by
  show Heap.mk (h.next + 1) (fun i => if i = h.next then some z else if i = b then x else h.get i) = Heap.mk (h.next + 1) (fun i => if i = b then x else if i = h.next then some z else h.get i)
  congr 1
  funext i
  by_cases h1 : i = h.next
  · rw [if_pos h1, if_neg (by omega), if_pos h1]
  · rw [if_neg h1, if_neg h1]
section
variable {E : Env} {cf cg : CallF} {s : Slots} {h h1 h2 : Heap} {x y : Op} {v u : Value}
theorem swap_R (hw : ∀ x u, ev s x = some u → within h.next u) (hd : dynR E s x y = true) (hx : aop E cf x s h = some (v, h1)) (hy : aop E cg y s h1 = some (u, h2)) : ∃ g, aop E cg y s h = some (u, g) ∧ aop E cf x s g = some (v, h2) := by
  unfold dynR at hd
  simp only [Bool.and_eq_true, beq_iff_eq] at hd
  obtain ⟨rfl, _⟩ := aop_read (N := h.next) hd.1 hx hw
  exact ⟨h2, hy, (read_agree (write_agree hw hd.2 hy).1 hx).2⟩
theorem swap_R' (hw : ∀ x u, ev s x = some u → within h.next u) (hd : dynR E s y x = true) (hx : aop E cf x s h = some (v, h1)) (hy : aop E cg y s h1 = some (u, h2)) : ∃ g, aop E cg y s h = some (u, g) ∧ aop E cf x s g = some (v, h2) := by
  unfold dynR at hd
  simp only [Bool.and_eq_true, beq_iff_eq] at hd
  obtain ⟨rfl, _⟩ := aop_read (N := h.next) hd.1 hy hw
  exact ⟨h, (read_agree (write_agree hw hd.2 hx).2 hy).2, hx⟩
theorem swap_S (hd : dynS E s x y = true) (hx : aop E cf x s h = some (v, h1)) (hy : aop E cg y s h1 = some (u, h2)) : ∃ g, aop E cg y s h = some (u, g) ∧ aop E cf x s g = some (v, h2) := by
  unfold dynS at hd
  simp only [Bool.and_eq_true] at hd
  obtain ⟨⟨h3, h4⟩, h5⟩ := hd
  obtain ⟨t, a, z, rfl⟩ := isSt_spec h3
  obtain ⟨t', a', z', rfl⟩ := isSt_spec h4
  obtain ⟨ti, b, off, w, xs, blk, ht, ha, hz, hc, hn, hb, ho, hle, rfl, rfl⟩ := store_spec hx
  obtain ⟨ti', b', off', w', xs', blk', ht', ha', hz', hc', hn', hb', ho', hle', rfl, rfl⟩ := store_spec hy
  simp only [writes, footA, ht, ha, ht', ha', Bool.false_and, Bool.false_eq_true, if_false, apartF, Bool.or_eq_true, bne_iff_ne, ne_eq, decide_eq_true_eq] at h5
  by_cases he : b = b'
  · subst he
    have h6 := h5.resolve_left (fun h => h rfl)
    simp only [Heap.get_set, if_true] at hb'
    obtain rfl := Option.some.inj hb'
    simp only [setAll_len] at hle'
    refine ⟨_, store_of ht' ha' hz' hc' hn' hb ho hle', ?_⟩
    have := store_of (cf := cf) (h := h.set b (some { blk with cells := setAll blk.cells off' xs' })) (blk := { blk with cells := setAll blk.cells off' xs' }) ht ha hz hc hn (by simp only [Heap.get_set, if_true]) ho (by simp only [setAll_len]; exact hle)
    rw [this, set_set, set_set]
    simp only
    rw [setAll_comm xs xs' blk.cells off off' hle hle' (by omega)]
  · rw [get_set_ne (fun e => he e.symm)] at hb'
    refine ⟨_, store_of ht' ha' hz' hc' hn' hb' ho' hle', ?_⟩
    have := store_of (cf := cf) (h := h.set b' (some { blk' with cells := setAll blk'.cells off' xs' })) (blk := blk) ht ha hz hc hn (by rw [get_set_ne he]; exact hb) ho hle
    rw [this, set_comm he]
theorem store_in {a : Tmp} {b off N : Nat} (hw : ∀ x u, ev s x = some u → within N u) (ha : s a = .pointer (some ⟨b, off, none⟩)) : b < N := by
  have := hw (.tmp a) (s a) rfl
  rw [ha] at this
  exact this
theorem swap_SM (hw : ∀ x u, ev s x = some u → within h.next u) (hs : isSt x = true) (hm : isMk y = true) (hx : aop E cf x s h = some (v, h1)) (hy : aop E cg y s h1 = some (u, h2)) : ∃ g, aop E cg y s h = some (u, g) ∧ aop E cf x s g = some (v, h2) := by
  obtain ⟨t, a, z, rfl⟩ := isSt_spec hs
  obtain ⟨ti, b, off, w, xs, blk, ht, ha, hz, hc, hn, hb, ho, hle, rfl, rfl⟩ := store_spec hx
  obtain ⟨nb, rfl, hall⟩ := mk_spec hm hy
  have hlt : b < h.next := store_in hw ha
  refine ⟨h.alloc nb, hall h rfl, ?_⟩
  rw [store_of (h := h.alloc nb) ht ha hz hc hn (by simp only [Heap.get_alloc]; rw [if_neg (by omega)]; exact hb) ho hle, alloc_set hlt]
theorem swap_MS (hw : ∀ x u, ev s x = some u → within h.next u) (hm : isMk x = true) (hs : isSt y = true) (hx : aop E cf x s h = some (v, h1)) (hy : aop E cg y s h1 = some (u, h2)) : ∃ g, aop E cg y s h = some (u, g) ∧ aop E cf x s g = some (v, h2) := by
  obtain ⟨nb, rfl, hall⟩ := mk_spec hm hx
  obtain ⟨t, a, z, rfl⟩ := isSt_spec hs
  obtain ⟨ti, b, off, w, xs, blk, ht, ha, hz, hc, hn, hb, ho, hle, rfl, rfl⟩ := store_spec hy
  have hlt : b < h.next := store_in hw ha
  simp only [Heap.get_alloc] at hb
  rw [if_neg (by omega)] at hb
  refine ⟨_, store_of ht ha hz hc hn hb ho hle, ?_⟩
  rw [hall (h.set b _) rfl, alloc_set hlt]
theorem dyn_swap (hw : ∀ x u, ev s x = some u → within h.next u) (hd : dynOk E s x y = true) (hx : aop E cf x s h = some (v, h1)) (hy : aop E cg y s h1 = some (u, h2)) : ∃ g, aop E cg y s h = some (u, g) ∧ aop E cf x s g = some (v, h2) := by
  unfold dynOk dynM at hd
  simp only [Bool.or_eq_true, Bool.and_eq_true] at hd
  rcases hd with (((hd | hd) | hd) | hd) | hd
  · exact swap_R hw hd hx hy
  · exact swap_R' hw hd hx hy
  · exact swap_S hd hx hy
  · exact swap_SM hw hd.1 hd.2 hx hy
  · exact swap_MS hw hd.2 hd.1 hx hy
end
theorem reads_congr {E : Env} {s s' : Slots} {x : Op} (h : ∀ a, adrSlot x = some a → s' a = s a) : reads E s' x = reads E s x := by
  unfold reads
  split
  · rw [h _ rfl]
  · rw [h _ rfl]
  · rfl
theorem writes_congr {E : Env} {s s' : Slots} {x : Op} (h : ∀ a, adrSlot x = some a → s' a = s a) : writes E s' x = writes E s x := by
  unfold writes
  split
  · rw [h _ rfl]
  · rw [h _ rfl]
  · rfl
theorem dyn_congr {E : Env} {s s' : Slots} {x y : Op} (h1 : ∀ a, adrSlot x = some a → s' a = s a) (h2 : ∀ a, adrSlot y = some a → s' a = s a) : dynOk E s' x y = dynOk E s x y := by
  unfold dynOk dynR dynS
  rw [reads_congr h1, reads_congr h2, writes_congr h1, writes_congr h2]
theorem isCall_noGo' {E : Env} {op : Op} (hn : (match op with | .call { callee := .builtin _, .. } => true | .call _ => false | _ => true) = true) : isCall E op = false := by
  cases op <;> try rfl
  case call c =>
    obtain ⟨callee, args, tys⟩ := c
    cases callee with
    | builtin b => rfl
    | _ => cases hn
end Go.Fw
