/- A region whose order is drawn. -/
import Derived.Test.YtlejgfeoffhjoaaFwReg
namespace Go.Fw
open Go.RowKit
theorem ev_congr {s s' : Slots} {x : Operand} (hx : ∀ t, x = .tmp t → s t = s' t) : ev s x = ev s' x := by
  cases x with
  | tmp t => simp only [ev, hx t rfl]
  | _ => rfl
theorem evs_congr {s s' : Slots} : ∀ {l : List Operand}, (∀ x ∈ l, ∀ t, x = .tmp t → s t = s' t) → evs s l = evs s' l
  | [], _ => rfl
  | x :: r, hx => by
    simp only [evs, ev_congr (hx x (by simp)), evs_congr (l := r) fun y hy => hx y (by simp [hy])]
theorem evp_congr {s s' : Slots} : ∀ {l : List (Nat × Operand)}, (∀ x ∈ l, ∀ t, x.2 = .tmp t → s t = s' t) → evp s l = evp s' l
  | [], _ => rfl
  | (i, x) :: r, hx => by
    simp only [evp, ev_congr (hx (i, x) (by simp)), evp_congr (l := r) fun y hy => hx y (by simp [hy])]
theorem evo_congr {s s' : Slots} {x : Option Operand} (hx : ∀ y, x = some y → ∀ t, y = .tmp t → s t = s' t) : evo s x = evo s' x := by
  cases x with
  | none => rfl
  | some x => simp only [evo, ev_congr (hx x rfl)]
theorem aop_congr (E : Env) (cf : CallF) {op : Op} {s s' : Slots} {h : Heap} (hx : ∀ x ∈ op.operands, ∀ t, x = .tmp t → s t = s' t) : aop E cf op s h = aop E cf op s' h := by
  cases op <;> simp only [aop] <;> simp only [Op.operands] at hx
  case move x => rw [ev_congr (hx x (by simp))]
  case assign x => rw [ev_congr (hx x (by simp))]
  case pick c x y => rw [ev_congr (hx c (by simp)), ev_congr (hx x (by simp)), ev_congr (hx y (by simp))]
  case box t x => rw [ev_congr (hx x (by simp))]
  case build t ps => rw [evp_congr fun x hm => hx x.2 (by simp; exact ⟨x.1, by simpa using hm⟩)]
  case buildSlice t n ps => rw [evp_congr fun x hm => hx x.2 (by simp; exact ⟨x.1, by simpa using hm⟩)]
  case load t x => rw [ev_congr (hx x (by simp))]
  case store t x y => rw [ev_congr (hx x (by simp)), ev_congr (hx y (by simp))]
  case nilCheck x => rw [ev_congr (hx x (by simp))]
  case binOp op t x y p => rw [ev_congr (hx x (by simp)), ev_congr (hx y (by simp))]
  case unOp op t x => rw [ev_congr (hx x (by simp))]
  case convert src dst x => rw [ev_congr (hx x (by simp))]
  case makeFunc fn first captured => rw [evs_congr fun x hm => hx x (by simp; exact .inl (by simpa using hm)), evs_congr fun x hm => hx x (by simp; exact .inr (by simpa using hm))]
  case makeSlice t x y => rw [ev_congr (hx x (by simp)), ev_congr (hx y (by simp))]
  case slice t x lo hi mx => rw [ev_congr (hx x (by simp)), evo_congr fun y hy => hx y (by simp [hy]), evo_congr fun y hy => hx y (by simp [hy]), evo_congr fun y hy => hx y (by simp [hy])]
  case fieldAddr t x f => rw [ev_congr (hx x (by simp))]
  case field t x f => rw [ev_congr (hx x (by simp))]
  case indexAddr t x i => rw [ev_congr (hx x (by simp)), ev_congr (hx i (by simp))]
  case index t x i => rw [ev_congr (hx x (by simp)), ev_congr (hx i (by simp))]
  case extract x i => rw [ev_congr (hx x (by simp))]
  case call c =>
    rw [evs_congr fun x hm => hx x (by simp [Call.operands]; exact .inr (by simpa using hm))]
    have hf : ∀ f, c.callee = .value f → ev s f = ev s' f := fun f hc => ev_congr (hx f (by simp [Call.operands, hc]))
    cases hc : c.callee with
    | value f => cases evs s' c.args.toList with
      | none => rfl
      | some l => simp only [hf f hc]
    | builtin b => cases evs s' c.args.toList <;> rfl
    | invoke r m => cases evs s' c.args.toList <;> rfl
theorem put_other (o : Oper) (v : Value) (s : Slots) (t : Nat) (ht : ∀ d, o.dst = some d → t ≠ d) : put o v s t = s t := by
  unfold put
  cases hd : o.dst with
  | none => rfl
  | some d => simp [upd, ht d hd]
theorem aop_put (E : Env) (cf : CallF) {ops : Array Oper} {x y : Oper} {v : Value} {s : Slots} {h : Heap} (hx : ∀ d, x.dst = some d → d ∉ looks ops.toList y) : aop E cf y.op (put x v s) h = aop E cf y.op s h := by
  refine aop_congr E cf fun z hz t ht => put_other x v s t fun d hd e => hx d hd ?_
  subst e
  subst ht
  exact List.mem_append_left _ (List.mem_filterMap.2 ⟨.tmp t, by simpa using hz, rfl⟩)
theorem wants_put {ops : Array Oper} {x y : Oper} {v : Value} {s : Slots} (hx : ∀ d, x.dst = some d → d ∉ looks ops.toList y) : wants ops y (put x v s) = wants ops y s := by
  unfold wants
  cases hg : y.guard with
  | none => rfl
  | some g =>
    obtain ⟨j, want⟩ := g
    simp only
    cases hd : (ops[j]?).bind (·.dst) with
    | none => rfl
    | some t =>
      simp only
      rw [put_other x v s t fun d hd2 e => hx d hd2 (by
        subst e
        refine List.mem_append_right _ ?_
        simp only [hg, Array.getElem?_toList, hd]
        simp)]
theorem okAt_put {n : Nat} {ops : Array Oper} {x y : Oper} {v : Value} {s : Slots} (hx : ∀ d, x.dst = some d → d ∉ looks ops.toList y) : okAt n ops y (put x v s) = okAt n ops y s := by
  have : clear ops y (put x v s) = clear ops y s := by
    unfold clear
    cases hg : y.guard with
    | none => rfl
    | some g =>
      obtain ⟨j, w⟩ := g
      simp only
      cases hd : (ops[j]?).bind (·.dst) with
      | none => rfl
      | some t =>
        simp only
        rw [put_other x v s t (fun d hxd e => hx d hxd (by
          subst e
          unfold looks
          simp [hg, hd]))]
  unfold okAt
  rw [this]
theorem put_comm {x y : Oper} {v u : Value} {s : Slots} (hx : ∀ d, x.dst = some d → y.dst ≠ some d) : put y u (put x v s) = put x v (put y u s) := by
  unfold put
  cases hd : x.dst with
  | none => rfl
  | some d =>
    cases he : y.dst with
    | none => rfl
    | some e =>
      have hne : d ≠ e := fun h => hx d hd (h ▸ he)
      simp only []
      funext i
      simp only [upd]
      split
      · rename_i h1
        subst h1
        simp [Ne.symm hne]
      · rfl
theorem keep_some {h h' : Heap} {x : Option Value} {v : Value} (hx : keep h x = some (v, h')) : x = some v ∧ h' = h := by
  unfold keep at hx
  split at hx
  · simp only [Option.some.injEq, Prod.mk.injEq] at hx
    exact ⟨by rw [hx.1], hx.2.symm⟩
  · cases hx
theorem aslice_pure {E : Env} {t : TypeId} {ti : TI} (ht : E.types t = some ti) (hd : ti.desc = .string) (x : Value) (lo hi mx : Option Value) (h h2 : Heap) : aslice E t x lo hi mx h = aslice E t x lo hi mx h2 := by
  unfold aslice
  rw [ht]
  split <;> first | rfl | (rename_i h1; cases h1; simp only [hd])
theorem abuiltin_pure {E : Env} {b : Builtin} (hb : b = .len ∨ b = .min ∨ b = .max) {tys : List TypeId} {l : List Value} {h h' : Heap} {v : Value} (hl : abuiltin E b tys l h = some (v, h')) : h' = h ∧ ∀ h2, abuiltin E b tys l h2 = some (v, h2) := by
  rcases hb with rfl | rfl | rfl
  · unfold abuiltin at hl ⊢
    split at hl <;> first | (cases hl; done) | skip
    all_goals (rename_i hb; first | (cases hb; done) | skip)
    split at hl
    · split at hl
      · simp only [Option.some.injEq, Prod.mk.injEq] at hl
        obtain ⟨rfl, rfl⟩ := hl
        simp_all
      · cases hl
    · split at hl
      · simp only [Option.some.injEq, Prod.mk.injEq] at hl
        obtain ⟨rfl, rfl⟩ := hl
        simp_all
      · cases hl
    · split at hl
      · simp only [Option.some.injEq, Prod.mk.injEq] at hl
        obtain ⟨rfl, rfl⟩ := hl
        simp_all
      · cases hl
    · cases hl
  · have e : ∀ h, abuiltin E .min tys l h = (amin l).map fun v => (v, h) := fun h => by unfold abuiltin; rfl
    rw [e] at hl
    obtain ⟨u, hu, he⟩ := Option.map_eq_some_iff.1 hl
    simp only [Prod.mk.injEq] at he
    obtain ⟨rfl, rfl⟩ := he
    exact ⟨rfl, fun h2 => by rw [e, hu]; rfl⟩
  · have e : ∀ h, abuiltin E .max tys l h = (amax l).map fun v => (v, h) := fun h => by unfold abuiltin; rfl
    rw [e] at hl
    obtain ⟨u, hu, he⟩ := Option.map_eq_some_iff.1 hl
    simp only [Prod.mk.injEq] at he
    obtain ⟨rfl, rfl⟩ := he
    exact ⟨rfl, fun h2 => by rw [e, hu]; rfl⟩
theorem aop_pure {E : Env} {cf : CallF} {op : Op} {s : Slots} {h h' : Heap} {v : Value} (hc : clsOf E op = .pure) (hl : aop E cf op s h = some (v, h')) : h' = h ∧ ∀ h2, aop E cf op s h2 = some (v, h2) := by
  have kk : ∀ {x : Option Value}, keep h x = some (v, h') → h' = h ∧ ∀ h2, keep h2 x = some (v, h2) := fun hx => by
    obtain ⟨rfl, rfl⟩ := keep_some hx
    exact ⟨rfl, fun _ => rfl⟩
  cases op <;> simp only [clsOf] at hc <;> simp only [aop] at hl ⊢ <;> try (cases hc; done)
  case move x => exact kk hl
  case assign x => exact kk hl
  case pick c x y =>
    split at hl
    · exact kk hl
    · cases hl
  case build t ps =>
    split at hl
    · exact kk hl
    · cases hl
  case nilCheck x =>
    split at hl
    · simp only [Option.some.injEq, Prod.mk.injEq] at hl
      obtain ⟨rfl, rfl⟩ := hl
      exact ⟨rfl, fun _ => rfl⟩
    · simp only [Option.some.injEq, Prod.mk.injEq] at hl
      obtain ⟨rfl, rfl⟩ := hl
      exact ⟨rfl, fun _ => rfl⟩
    · cases hl
  case binOp op t x y p =>
    split at hl
    · exact kk hl
    · cases hl
  case unOp op t x =>
    split at hl
    · exact kk hl
    · cases hl
  case convert src dst x =>
    split at hc
    · rename_i ts td h1 h2
      split at hl
      · rename_i u hu
        simp only [aconvert, h1, h2] at hl ⊢
        split at hl <;> first
          | (simp only [Option.some.injEq, Prod.mk.injEq] at hl; obtain ⟨rfl, rfl⟩ := hl; simp_all; done)
          | (simp_all; done)
      · cases hl
    · cases hc
  case makeMap t r =>
    split at hl
    · simp only [Option.some.injEq, Prod.mk.injEq] at hl
      obtain ⟨rfl, rfl⟩ := hl
      exact ⟨rfl, fun _ => rfl⟩
    · cases hl
  case makeFunc fn first captured =>
    split at hl
    · split at hl
      · simp only [Option.some.injEq, Prod.mk.injEq] at hl
        obtain ⟨rfl, rfl⟩ := hl
        exact ⟨rfl, fun _ => by rw [if_pos ‹_›]⟩
      · cases hl
    · cases hl
  case slice t x lo hi mx =>
    split at hc
    · rename_i ti ht
      split at hc
      · rename_i hd
        split at hl
        · obtain ⟨h1, rfl⟩ := keep_some hl
          refine ⟨rfl, fun h2 => ?_⟩
          rw [aslice_pure ht hd _ _ _ _ h2 h', h1]
          rfl
        · cases hl
      · cases hc
    · cases hc
  case fieldAddr t x f =>
    split at hl
    · exact kk hl
    · cases hl
  case field t x f =>
    split at hl
    · exact kk hl
    · cases hl
  case indexAddr t x i =>
    split at hl
    · exact kk hl
    · cases hl
  case index t x i =>
    split at hl
    · exact kk hl
    · cases hl
  case extract x i =>
    split at hl
    · exact kk hl
    · cases hl
  case call c =>
    obtain ⟨callee, args, tys⟩ := c
    cases callee with
    | builtin b =>
      cases b <;> simp only at hc <;> try (cases hc; done)
      all_goals
        simp only at hl ⊢
        cases hv : evs s args.toList with
        | none => rw [hv] at hl; cases hl
        | some l =>
          rw [hv] at hl
          exact abuiltin_pure (by simp) hl
    | invoke r m => simp only at hc; cases hc
    | value f =>
      cases f <;> simp only at hc <;> try (cases hc; done)
      rename_i g
      split at hc
      · rename_i hg
        simp only [ev] at hl ⊢
        cases hv : evs s args.toList with
        | none => rw [hv] at hl; cases hl
        | some l =>
          rw [hv] at hl
          simp only [targetOf, callOf, if_pos hg, frameCall] at hl ⊢
          by_cases h1 : (([] : List Value) ++ l ++ []).all noPtr = true
          · rw [if_pos (by simpa using h1)] at hl
            cases h2 : cf g (([] : List Value) ++ l ++ []) Heap.none with
            | none => simp only [List.nil_append, List.append_nil] at h2 hl; rw [h2] at hl; cases hl
            | some p =>
              simp only [List.nil_append, List.append_nil] at h1 h2 hl ⊢
              rw [h2] at hl
              simp only at hl
              cases h3 : iceV E p.2 p.1 with
              | some u =>
                rw [h3] at hl
                cases hl
                refine ⟨rfl, fun h2' => ?_⟩
                first | (rw [if_pos h1]; simp only [h2, h3]; done) | rw [if_pos h1, h2, h3] | (rw [if_pos h1]; simp only [h2]; rw [h3]) | rw [if_pos h1]
              | none => rw [h3] at hl; cases hl
          · rw [if_neg (by simpa using h1)] at hl; cases hl
      · cases hc
def within (n : Nat) : Value → Prop
  | .pointer (some a) => a.block < n
  | .slice (some a) _ _ => a.block < n
  | _ => True
theorem VRel.within {E : Env} {h : Heap} {μ : Place} {H : Mem} {v v' : Value} (r : VRel E h μ H v v') : within h.next v := by
  cases r with
  | any => trivial
  | tuple => trivial
  | w r => cases r with
    | agg => trivial
    | c r => cases r with
      | func => trivial
      | s r => cases r with
        | ptr b off hb => exact hb
        | slice b off n c a' c' hb => exact hb
        | _ => trivial
theorem ev_within {E : Env} {h : Heap} {μ : Place} {H : Mem} {s : Slots} {a : Act} (hs : SlotsRel E h μ H s a.tmps) {x : Operand} {v : Value} (hv : ev s x = some v) : within h.next v := (ev_rel hs hv).within
theorem aslice_row {E : Env} {t : TypeId} {x : Value} {lo hi mx : Option Value} {h h2 : Heap} (hr : ∀ e a n c, x = .slice a n c → rowOf h2 e a = rowOf h e a) : aslice E t x lo hi mx h2 = aslice E t x lo hi mx h := by
  unfold aslice
  cases E.types t with
  | none => rfl
  | some ti => cases x with
    | slice a n c =>
      simp only
      cases ti.desc with
      | slice e => simp only [hr e a n c rfl]
      | _ => rfl
    | iface e y => split <;> first | rfl | (rename_i h1; cases h1; done) | (rename_i h1 _; cases h1; done)
    | _ => rfl
theorem aop_read {E : Env} {cf : CallF} {op : Op} {s : Slots} {h h' : Heap} {N : Nat} {v : Value} (hc : clsOf E op = .read) (hl : aop E cf op s h = some (v, h')) (hw : ∀ x u, ev s x = some u → within N u) :
    h' = h ∧ ∀ h2, (∀ b, b < N → h2.get b = h.get b) → aop E cf op s h2 = some (v, h2) := by
  cases op <;> simp only [clsOf] at hc <;> simp only [aop] at hl ⊢ <;> try (cases hc; done)
  case load t x =>
    cases hx : ev s x with
    | none => rw [hx] at hl; cases hl
    | some u =>
      rw [hx] at hl
      have := hw x u hx
      obtain ⟨h1, rfl⟩ := keep_some hl
      refine ⟨rfl, fun h2 hh => ?_⟩
      simp only
      have : aload E t u h2 = aload E t u h' := by
        unfold aload
        split
        · rename_i ti b off ht
          rw [hh b this]
        · rfl
        · rfl
      rw [this, h1]
      rfl
  case slice t x lo hi mx =>
    split at hl
    · rename_i u l r m hu h1 h2 h3
      have := hw x u hu
      obtain ⟨h4, rfl⟩ := keep_some hl
      refine ⟨rfl, fun h2 hh => ?_⟩
      have : aslice E t u l r m h2 = aslice E t u l r m h' := aslice_row fun e a n c he => by
        subst he
        cases a with
        | none => rfl
        | some a =>
          obtain ⟨b, off, sp⟩ := a
          cases sp with
          | none => simp only [rowOf, hh b this]
          | some _ => rfl
      rw [this, h4]
      rfl
    · cases hl
  case convert src dst x =>
    cases hx : ev s x with
    | none => rw [hx] at hl; cases hl
    | some u =>
      rw [hx] at hl
      have hwu := hw x u hx
      simp only at hl ⊢
      split at hc
      · rename_i ts td h1 h2
        simp only [aconvert, h1, h2] at hl ⊢
        split at hl
        · cases hl; simp_all
        · cases hl; simp_all
        · cases hl; simp_all
        · simp_all
        · split at hl
          · split at hl
            · cases hl; simp_all
            · cases hl
          · cases hl
        · rename_i e b off n c d1 d2
          have hwb : b < N := hwu
          split at hl
          · rename_i te blk h3 hblk
            split at hl
            · rename_i d3
              split at hl
              · rename_i cs hcs
                obtain ⟨l, hl1, hl2⟩ := Option.map_eq_some_iff.1 hl
                simp only [Prod.mk.injEq] at hl2
                obtain ⟨rfl, rfl⟩ := hl2
                refine ⟨rfl, fun h2 hh => ?_⟩
                simp only [h3, hh b hwb, hblk, d3, hcs, hl1, Option.map_some]
              · cases hl
            · cases hl
          · cases hl
        · rename_i e e' n x cells d1 d2
          split at hl
          · rename_i he
            split at hl
            · rename_i te h3
              split at hl
              · rename_i d3
                split at hl
                · rename_i hsz
                  obtain ⟨l, hl1, hl2⟩ := Option.map_eq_some_iff.1 hl
                  simp only [Prod.mk.injEq] at hl2
                  obtain ⟨rfl, rfl⟩ := hl2
                  refine ⟨rfl, fun h2 hh => ?_⟩
                  rw [if_pos he]
                  simp only [if_pos hsz, hl1, Option.map_some]
                · cases hl
              · cases hl
            · cases hl
          · cases hl
        · cases hl
      · cases hc
  case call c =>
    obtain ⟨callee, args, tys⟩ := c
    cases callee with
    | builtin b => cases b <;> simp only at hc <;> cases hc
    | invoke r m => simp only at hc; cases hc
    | value f =>
      cases f <;> simp only at hc <;> try (cases hc; done)
      split at hc <;> cases hc
theorem alloc_old {h : Heap} {x : Blk} : ∀ b, b < h.next → (h.alloc x).get b = h.get b := fun b hb => by
  simp only [Heap.get_alloc, Nat.ne_of_lt hb, if_false]
theorem aop_make {E : Env} {cf : CallF} {op : Op} {s : Slots} {h h' : Heap} {v : Value} (hc : clsOf E op = .make) (hl : aop E cf op s h = some (v, h')) : ∀ b, b < h.next → h'.get b = h.get b := by
  cases op <;> simp only [clsOf] at hc <;> simp only [aop] at hl ⊢ <;> try (cases hc; done)
  case alloc t =>
    unfold aalloc anew at hl
    split at hl
    · cases hl; exact alloc_old
    · cases hl
  case box t x =>
    split at hl
    · unfold abox anew at hl
      split at hl
      · cases hl; exact alloc_old
      · cases hl
    · cases hl
  case buildSlice t n ps =>
    split at hl
    · unfold abuildSlice arow at hl
      repeat' (split at hl <;> try (cases hl; done))
      cases hl; exact alloc_old
    · cases hl
  case makeSlice t x y =>
    split at hl
    · unfold amakeSlice arow at hl
      repeat' (split at hl <;> try (cases hl; done))
      cases hl; exact alloc_old
    · cases hl
  case convert src dst x =>
    cases hx : ev s x with
    | none => rw [hx] at hl; cases hl
    | some u =>
      rw [hx] at hl
      simp only at hl ⊢
      split at hc
      · rename_i ts td h1 h2
        simp only [aconvert, h1, h2] at hl ⊢
        split at hl
        · cases hl; exact fun _ _ => rfl
        · cases hl; exact fun _ _ => rfl
        · cases hl; exact fun _ _ => rfl
        · unfold arow at hl
          repeat' (split at hl <;> try (cases hl; done))
          cases hl; exact alloc_old
        · repeat' (split at hl <;> try (cases hl; done))
          cases hl; exact fun _ _ => rfl
        · repeat' (split at hl <;> try (cases hl; done))
          obtain ⟨l, hl1, hl2⟩ := Option.map_eq_some_iff.1 hl
          simp only [Prod.mk.injEq] at hl2
          obtain ⟨rfl, rfl⟩ := hl2
          exact fun _ _ => rfl
        · rename_i e e' n x cells d1 d2
          rw [d1, d2] at hc
          cases hc
        · cases hl
      · cases hc
  case slice t x lo hi mx =>
    repeat' (split at hc <;> try (cases hc; done))
  case call c =>
    obtain ⟨callee, args, tys⟩ := c
    cases callee with
    | builtin b => cases b <;> simp only at hc <;> cases hc
    | invoke r m => simp only at hc; cases hc
    | value f =>
      cases f <;> simp only at hc <;> try (cases hc; done)
      split at hc <;> cases hc
theorem callOf_ro {E : Env} {cf : CallF} {g : FuncId} {l : List Value} {h h' : Heap} {v : Value} (hl : callOf E (roCall cf) g l h = some (v, h')) : ∀ b, b < h.next → h'.get b = h.get b := by
  unfold callOf at hl
  split at hl
  · unfold frameCall at hl
    split at hl
    · split at hl
      · split at hl
        · cases hl; exact fun _ _ => rfl
        · cases hl
      · cases hl
    · cases hl
  · unfold roCall at hl
    split at hl
    · cases hl
      intro b hb
      simp only [Heap.merge, hb, if_true]
    · cases hl
theorem aop_ro {E : Env} {cf : CallF} {op : Op} {s : Slots} {h h' : Heap} {v : Value} (hc : isCall E op = true) (hl : aop E (roCall cf) op s h = some (v, h')) : ∀ b, b < h.next → h'.get b = h.get b := by
  have hv : ∃ f args tys, op = .call { callee := .value f, args := args, argTypes := tys } := by
    unfold isCall at hc
    split at hc
    · exact ⟨_, _, _, rfl⟩
    · exact ⟨_, _, _, rfl⟩
    · cases hc
  obtain ⟨f, args, tys, rfl⟩ := hv
  simp only [aop] at hl
  split at hl
  · cases ‹Callee.value _ = Callee.builtin _›
  · split at hl
    · split at hl
      · exact callOf_ro hl
      · cases hl
    · cases hl
  · cases hl
theorem clash_spec {E : Env} {A : List (List Nat)} {ops : List Oper} {i j : Nat} {x y : Oper} (hc : clash E A ops i j x y = false) :
    (∀ d, x.dst = some d → d ∉ looks ops y) ∧ (∀ d, x.dst = some d → y.dst ≠ some d) ∧ (∀ d, y.dst = some d → d ∉ looks ops x) ∧
    (match clsAt E A ops i x, clsAt E A ops j y with
     | .make, .make | .make, .write | .write, .make | .write, .write | .write, .read | .read, .write => true
     | _, _ => false) = false := by
  unfold clash at hc
  simp only [Bool.or_eq_false_iff] at hc
  obtain ⟨⟨h1, h2⟩, h3⟩ := hc
  refine ⟨fun d hd => ?_, fun d hd => ?_, fun d hd => ?_, h3⟩
  · rw [hd] at h1
    simp only [Bool.or_eq_false_iff] at h1
    simpa using h1.1
  · rw [hd] at h1
    simp only [Bool.or_eq_false_iff] at h1
    simpa using h1.2
  · rw [hd] at h2
    simpa using h2
section
variable {E : Env} {P : Program} {h : Heap} {μ : Place} {base n : Nat} {w : World} {s : Slots} {a : Act} {cf : Nat → CallF} {ops : Array Oper} {A : List (List Nat)}
theorem swap_vals {i j : Nat} {x y : Oper} {h1 h2 : Heap} {v u : Value} (hcl : (match clsAt E A ops.toList i x, clsAt E A ops.toList j y with
     | .make, .make | .make, .write | .write, .make | .write, .write | .write, .read | .read, .write => true
     | _, _ => false) = false) (hw : ∀ x u, ev s x = some u → within h.next u)
    (hx : aop E (if roAt E A ops.toList i x then roCall (cf i) else cf i) x.op s h = some (v, h1)) (hy : aop E (if roAt E A ops.toList j y then roCall (cf j) else cf j) y.op s h1 = some (u, h2)) :
    ∃ h1', aop E (if roAt E A ops.toList j y then roCall (cf j) else cf j) y.op s h = some (u, h1') ∧ aop E (if roAt E A ops.toList i x then roCall (cf i) else cf i) x.op s h1' = some (v, h2) := by
  have roCls : ∀ {k : Nat} {o : Oper}, roAt E A ops.toList k o = true → isCall E o.op = true := fun ho => by
    unfold roAt at ho
    simp only [Bool.and_eq_true] at ho
    exact ho.1
  have mk : ∀ {k : Nat} {o : Oper} {g g' : Heap} {z : Value}, clsAt E A ops.toList k o = .make → aop E (if roAt E A ops.toList k o then roCall (cf k) else cf k) o.op s g = some (z, g') → ∀ b, b < g.next → g'.get b = g.get b := fun {k o g g' z} hc hl => by
    unfold clsAt at hc
    by_cases hr : roAt E A ops.toList k o = true
    · rw [if_pos hr] at hl
      exact aop_ro (roCls hr) hl
    · rw [if_neg hr] at hl hc
      exact aop_make hc hl
  have notro : ∀ {k : Nat} {o : Oper}, clsAt E A ops.toList k o ≠ .make → clsOf E o.op = clsAt E A ops.toList k o := fun {k o} hc => by
    unfold clsAt at hc ⊢
    by_cases hr : roAt E A ops.toList k o = true
    · rw [if_pos hr] at hc; exact absurd rfl hc
    · rw [if_neg hr]
  cases hcx : clsAt E A ops.toList i x with
  | pure =>
    have := notro (o := x) (k := i) (by rw [hcx]; simp)
    rw [hcx] at this
    obtain ⟨rfl, hall⟩ := aop_pure this hx
    exact ⟨h2, hy, hall h2⟩
  | read =>
    have := notro (o := x) (k := i) (by rw [hcx]; simp)
    rw [hcx] at this
    obtain ⟨rfl, hall⟩ := aop_read this hx hw
    cases hcy : clsAt E A ops.toList j y with
    | pure =>
      have hp := notro (o := y) (k := j) (by rw [hcy]; simp)
      rw [hcy] at hp
      obtain ⟨rfl, _⟩ := aop_pure hp hy
      exact ⟨h2, hy, hx⟩
    | read =>
      have hp := notro (o := y) (k := j) (by rw [hcy]; simp)
      rw [hcy] at hp
      obtain ⟨rfl, _⟩ := aop_read hp hy hw
      exact ⟨h2, hy, hx⟩
    | make => exact ⟨h2, hy, hall h2 (mk hcy hy)⟩
    | write => rw [hcx, hcy] at hcl; cases hcl
  | make =>
    cases hcy : clsAt E A ops.toList j y with
    | pure =>
      have hp := notro (o := y) (k := j) (by rw [hcy]; simp)
      rw [hcy] at hp
      obtain ⟨rfl, hall⟩ := aop_pure hp hy
      exact ⟨h, hall h, hx⟩
    | read =>
      have hp := notro (o := y) (k := j) (by rw [hcy]; simp)
      rw [hcy] at hp
      obtain ⟨rfl, hall⟩ := aop_read hp hy hw
      exact ⟨h, hall h fun b hb => (mk hcx hx b hb).symm, hx⟩
    | make => rw [hcx, hcy] at hcl; cases hcl
    | write => rw [hcx, hcy] at hcl; cases hcl
  | write =>
    cases hcy : clsAt E A ops.toList j y with
    | pure =>
      have hp := notro (o := y) (k := j) (by rw [hcy]; simp)
      rw [hcy] at hp
      obtain ⟨rfl, hall⟩ := aop_pure hp hy
      exact ⟨h, hall h, hx⟩
    | read => rw [hcx, hcy] at hcl; cases hcl
    | make => rw [hcx, hcy] at hcl; cases hcl
    | write => rw [hcx, hcy] at hcl; cases hcl
theorem swap_steps0 {i j : Nat} {x y : Oper} (hi : ops[i]? = some x) (hj : ops[j]? = some y) (c1 : ∀ d, x.dst = some d → d ∉ looks ops.toList y) (c2 : ∀ d, x.dst = some d → y.dst ≠ some d) (c3 : ∀ d, y.dst = some d → d ∉ looks ops.toList x)
    (sv : ∀ v u g1 g2, aop E (if roAt E A ops.toList i x then roCall (cf i) else cf i) x.op s h = some (v, g1) → aop E (if roAt E A ops.toList j y then roCall (cf j) else cf j) y.op s g1 = some (u, g2) →
      ∃ h1', aop E (if roAt E A ops.toList j y then roCall (cf j) else cf j) y.op s h = some (u, h1') ∧ aop E (if roAt E A ops.toList i x then roCall (cf i) else cf i) x.op s h1' = some (v, g2)) {s1 s2 : Slots} {h1 h2 : Heap}
    (h1' : astep E cf true A n ops i s h = some (s1, h1)) (h2' : astep E cf true A n ops j s1 h1 = some (s2, h2)) : ∃ s3 h3, astep E cf true A n ops j s h = some (s3, h3) ∧ astep E cf true A n ops i s3 h3 = some (s2, h2) := by
  unfold astep at h1' h2'
  simp only [hi, Bool.true_and] at h1'
  simp only [hj, Bool.true_and] at h2'
  have d1 : okAt n ops x s = true := by
    by_cases d1 : okAt n ops x s = true
    · exact d1
    · rw [if_neg d1] at h1'; cases h1'
  have d2' : okAt n ops y s1 = true := by
    by_cases d2 : okAt n ops y s1 = true
    · exact d2
    · rw [if_neg d2] at h2'; cases h2'
  have hs1 : ∃ v, s1 = put x v s := by
    rw [if_pos d1] at h1'
    split at h1'
    · split at h1'
      · cases h1'; exact ⟨_, rfl⟩
      · cases h1'
    · cases h1'; exact ⟨_, rfl⟩
  have d2 : okAt n ops y s = true := by
    obtain ⟨v, rfl⟩ := hs1
    rwa [okAt_put c1] at d2'
  have d1' : ∀ v, okAt n ops x (put y v s) = true := fun v => by rw [okAt_put c3]; exact d1
  rw [if_pos d1] at h1'
  rw [if_pos d2'] at h2'
  by_cases w1 : wants ops x s = true
  · rw [if_pos w1] at h1'
    split at h1'
    · rename_i v g1 hx
      cases h1'
      rw [wants_put c1] at h2'
      by_cases w2 : wants ops y s = true
      · rw [if_pos w2] at h2'
        split at h2'
        · rename_i u g2 hy
          cases h2'
          rw [aop_put E _ c1] at hy
          obtain ⟨h3, q1, q2⟩ := sv _ _ _ _ hx hy
          refine ⟨put y u s, h3, ?_, ?_⟩
          · unfold astep
            simp only [hj, Bool.true_and, if_pos d2, if_pos w2, q1]
          · unfold astep
            simp only [hi, Bool.true_and, if_pos (d1' _), wants_put c3, if_pos w1, aop_put E _ c3, q2, put_comm c2]
        · cases h2'
      · rw [if_neg w2] at h2'
        cases h2'
        refine ⟨put y undef s, h, ?_, ?_⟩
        · unfold astep
          simp only [hj, if_pos d2, if_neg w2]
        · unfold astep
          simp only [hi, Bool.true_and, if_pos (d1' _), wants_put c3, if_pos w1, aop_put E _ c3, hx, put_comm c2]
    · cases h1'
  · rw [if_neg w1] at h1'
    cases h1'
    rw [wants_put c1] at h2'
    by_cases w2 : wants ops y s = true
    · rw [if_pos w2] at h2'
      split at h2'
      · rename_i u g2 hy
        cases h2'
        rw [aop_put E _ c1] at hy
        refine ⟨put y u s, h2, ?_, ?_⟩
        · unfold astep
          simp only [hj, Bool.true_and, if_pos d2, if_pos w2, hy]
        · unfold astep
          simp only [hi, if_pos (d1' _), wants_put c3, if_neg w1, put_comm c2]
      · cases h2'
    · rw [if_neg w2] at h2'
      cases h2'
      refine ⟨put y undef s, h, ?_, ?_⟩
      · unfold astep
        simp only [hj, if_pos d2, if_neg w2]
      · unfold astep
        simp only [hi, if_pos (d1' _), wants_put c3, if_neg w1, put_comm c2]
theorem swap_steps {i j : Nat} {x y : Oper} (hi : ops[i]? = some x) (hj : ops[j]? = some y) (hc : clash E A ops.toList i j x y = false) (hw : ∀ x u, ev s x = some u → within h.next u) {s1 s2 : Slots} {h1 h2 : Heap}
    (h1' : astep E cf true A n ops i s h = some (s1, h1)) (h2' : astep E cf true A n ops j s1 h1 = some (s2, h2)) : ∃ s3 h3, astep E cf true A n ops j s h = some (s3, h3) ∧ astep E cf true A n ops i s3 h3 = some (s2, h2) := by
  obtain ⟨c1, c2, c3, c4⟩ := clash_spec hc
  exact swap_steps0 hi hj c1 c2 c3 (fun v u g1 g2 hx hy => swap_vals c4 hw hx hy) h1' h2'
def Valid (E : Env) (n : Nat) (s : Slots) (h : Heap) : Prop := ∃ base μ w a, St E n base h μ w s a
theorem Valid.within {n : Nat} (V : Valid E n s h) : ∀ x u, ev s x = some u → within h.next u := fun x u hx => by
  obtain ⟨_, μ, w, a, S⟩ := V
  exact ev_within S.sl hx
theorem Valid.step (ok : EnvOk E P) (hc : ∀ i, CallSim E P (cf i)) (V : Valid E n s h) {draw : Bool} {i : Nat} {s' : Slots} {h' : Heap} (hl : astep E cf draw A n ops i s h = some (s', h')) : Valid E n s' h' := by
  obtain ⟨base, μ, w, a, S⟩ := V
  have := step_sim (Q := fun _ _ _ => False) (K := fun a' w' => ∃ μ', St E n base h' μ' w' s' a') ok hc S hl fun a' w' μ' S' _ => ⟨μ', S'⟩
  unfold wpOp at this
  split at this
  · obtain ⟨μ', S'⟩ := this
    exact ⟨base, μ', _, _, S'⟩
  · split at this
    · rcases this with this | ⟨_, hq⟩
      · unfold Oper.wp Oper.upon at this
        split at this
        · obtain ⟨μ', S'⟩ := this
          exact ⟨base, μ', _, _, S'⟩
        · obtain ⟨μ', S'⟩ := this
          exact ⟨base, μ', _, _, S'⟩
        · obtain ⟨μ', S'⟩ := this
          exact ⟨base, μ', _, _, S'⟩
        · obtain ⟨e, w', fr, hR, _⟩ := this []
          split at hR
          · obtain ⟨μ', S'⟩ := hR
            exact ⟨base, μ', _, _, S'⟩
          · exact hR.elim
          · obtain ⟨_, _, hq⟩ := hR
            exact hq.elim
        · obtain ⟨v, w', hR, _⟩ := this default []
          obtain ⟨μ', S'⟩ := hR
          exact ⟨base, μ', _, _, S'⟩
        · exact this.elim
        · exact this.elim
      · obtain ⟨_, _, hq⟩ := hq
        exact hq.elim
    · obtain ⟨μ', S'⟩ := this
      exact ⟨base, μ', _, _, S'⟩
theorem move_first (ok : EnvOk E P) (hc : ∀ i, CallSim E P (cf i)) {i : Nat} {y : Oper} (hi : ops[i]? = some y) : ∀ (l : List Nat) {s : Slots} {h : Heap} {r : Slots × Heap} (rest : List Nat), Valid E n s h → (∀ k ∈ l, ∀ x, ops[k]? = some x → clash E A ops.toList k i x y = false) → (∀ k ∈ l, k < ops.size) →
    arun E cf true A n ops (l ++ i :: rest) s h = some r → arun E cf true A n ops (i :: (l ++ rest)) s h = some r
  | [], _, _, _, rest, _, _, _, hr => hr
  | k :: l, s, h, r, rest, V, hcl, hlt, hr => by
    simp only [List.cons_append, arun] at hr
    split at hr
    · rename_i s1 h1 hk
      have hr2 := move_first ok hc hi l rest (V.step ok hc hk) (fun k hk => hcl k (by simp [hk])) (fun k hk => hlt k (by simp [hk])) hr
      simp only [arun] at hr2
      split at hr2
      · rename_i s2 h2 hi2
        obtain ⟨x, hx⟩ : ∃ x, ops[k]? = some x := ⟨_, Array.getElem?_eq_getElem (hlt k (by simp))⟩
        obtain ⟨s3, h3, q1, q2⟩ := swap_steps hx hi (hcl k (by simp) x hx) V.within hk hi2
        simp only [arun, q1, List.cons_append, q2]
        exact hr2
      · cases hr2
    · cases hr
end
end Go.Fw
