/- Views of a memory with any number of blocks: rows of rows of one's own. -/
import Derived.Test.YtlejgfeoffhjoaaFwMore
import Derived.Test.YtlejgfeoffhjoaaFwMono
namespace Go.Fw
open Go.RowKit
theorem BlksOk.of {rl : List Nat} {m : Nat} {h : Heap} : ∀ {ks : List Nat} {xs : List Blk}, ks.length = xs.length → (∀ (b : Nat) (x : Blk) (k : Nat), xs[b]? = some x → ks[b]? = some k → ∃ old, h.get k = some ⟨x.elem, x.own, old⟩ ∧ CellsOk rl m old x.cells) → BlksOk rl m h ks xs
  | [], [], _, _ => trivial
  | k :: ks, x :: xs, hl, hk => ⟨hk 0 x k rfl rfl, BlksOk.of (by simpa using hl) fun b x k h1 h2 => hk (b + 1) x k (by simpa using h1) (by simpa using h2)⟩
  | [], _ :: _, hl, _ => by simp at hl
  | _ :: _, [], hl, _ => by simp at hl
theorem range_at {m b : Nat} (h : b < m) : (List.range m).getD b 0 = b := by
  rw [List.getD_eq_getElem?_getD]
  simp [h]
theorem unC_range {m : Nat} {v : Value} (h : okC m v = true) : unC (List.range m) v = v := by
  cases v with
  | pointer a => cases a with
    | none => rfl
    | some a =>
      obtain ⟨b, o, sp⟩ := a
      cases sp with
      | none =>
        simp only [okC, decide_eq_true_eq] at h
        simp [unC, unA, h]
      | some _ => rfl
  | slice a n c => cases a with
    | none => rfl
    | some a =>
      obtain ⟨b, o, sp⟩ := a
      cases sp with
      | none =>
        simp only [okC, decide_eq_true_eq] at h
        simp [unC, unA, h]
      | some _ => rfl
  | _ => rfl
theorem map_unC_range {m : Nat} : ∀ {l : List Value}, l.all (okC m) = true → l.map (unC (List.range m)) = l
  | [], _ => rfl
  | v :: l, h => by
    simp only [List.all_cons, Bool.and_eq_true] at h
    rw [List.map_cons, unC_range h.1, map_unC_range h.2]
theorem unV_range {m : Nat} {v : Value} (h : okV m v = true) : unV (List.range m) v = v := by
  cases v with
  | agg cs =>
    have h' : cs.toList.all (okC m) = true := h
    show Value.agg (cs.toList.map (unC (List.range m))).toArray = .agg cs
    rw [map_unC_range h']
  | func fn a c =>
    have h' : (a.toList.all (okC m) && c.toList.all (okC m)) = true := h
    rw [Bool.and_eq_true] at h'
    show Value.func fn (a.toList.map (unC (List.range m))).toArray (c.toList.map (unC (List.range m))).toArray = .func fn a c
    rw [map_unC_range h'.1, map_unC_range h'.2]
  | pointer a => exact unC_range (v := .pointer a) h
  | slice a n c => exact unC_range (v := .slice a n c) h
  | _ => rfl
def SlotsId (m : Nat) (s : Slots) : List (Nat × Value) → Prop
  | [] => True
  | (d, v) :: r => (s d = v ∧ okV m v = true) ∧ SlotsId m s r
theorem SlotsId.ok {m : Nat} {s : Slots} : ∀ {l : List (Nat × Value)}, SlotsId m s l → SlotsOk (List.range m) m s l
  | [], _ => trivial
  | (d, v) :: r, ⟨⟨h1, h2⟩, h3⟩ => ⟨⟨by rw [unV_range h2]; exact h1, h2⟩, SlotsId.ok h3⟩
theorem View.same {L : Nat} {E : Env} {n : Nat} {s : Slots} {h : Heap} (bs : List Blk) (l : List (Nat × Value)) (hL : L ≤ bs.length) (hb : ∀ (b : Nat) (x : Blk), bs[b]? = some x → h.get b = some x ∧ x.cells.all (okC bs.length) = true) (hs : SlotsId bs.length s l) : View L E n s h (layj l) (heapOf bs) := by
  refine View.of (List.range bs.length) bs l List.nodup_range ?_ (BlksOk.of (by simp) fun b x k h1 h2 => ?_) hs.ok
  · unfold keepsL
    rw [List.all_eq_true]
    intro b hb
    rw [List.mem_range] at hb
    simp [show b < bs.length by omega]
  · have hlt : b < bs.length := (List.getElem?_eq_some_iff.1 h1).1
    obtain rfl : b = k := by simpa [hlt] using h2
    obtain ⟨g1, g2⟩ := hb b x h1
    exact ⟨x.cells, g1, (map_unC_range g2).symm, g2⟩
def rowB (t : TypeId) (r : List Value) : Blk := ⟨t, true, r⟩
def mH (pre : List Blk) (t : TypeId) (rows : List (List Value)) : Heap := heapOf (pre ++ rows.map (rowB t))
def rowsV (b N k : Nat) : List Value := (List.range k).map fun i => .slice (some ⟨i + b, 0, none⟩) N N
theorem mH_next (pre : List Blk) (t : TypeId) (rows : List (List Value)) : (mH pre t rows).next = pre.length + rows.length := by
  show (pre ++ rows.map (rowB t)).length = _
  rw [List.length_append, List.length_map]
theorem mH_row {pre : List Blk} {t : TypeId} {rows : List (List Value)} {i : Nat} {r : List Value} (h : rows[i]? = some r) : (mH pre t rows).get (i + pre.length) = some (rowB t r) := by
  show (pre ++ rows.map (rowB t))[i + pre.length]? = _
  rw [List.getElem?_append_right (by omega), Nat.add_sub_cancel, List.getElem?_map, h]
  rfl
theorem mH_pre {pre : List Blk} {t : TypeId} {rows : List (List Value)} {b : Nat} {x : Blk} (h : pre[b]? = some x) : (mH pre t rows).get b = some x := by
  show (pre ++ rows.map (rowB t))[b]? = _
  rw [List.getElem?_append_left (List.getElem?_eq_some_iff.1 h).1, h]
theorem rowsV_at {b N k i : Nat} (h : i < k) : (rowsV b N k)[i]? = some (.slice (some ⟨i + b, 0, none⟩) N N) := by
  simp [rowsV, h]
theorem rowsV_len (b N k : Nat) : (rowsV b N k).length = k := by simp [rowsV]
theorem rowsV_succ (b N k : Nat) : rowsV b N (k + 1) = rowsV b N k ++ [.slice (some ⟨k + b, 0, none⟩) N N] := by
  simp [rowsV, List.range_succ]
theorem rowsV_ok {b N k m : Nat} (h : b + k ≤ m) : (rowsV b N k).all (okC m) = true := by
  rw [List.all_eq_true]
  intro v hv
  obtain ⟨i, hi, rfl⟩ := List.mem_map.1 hv
  rw [List.mem_range] at hi
  simp [okC]
  omega
theorem okC_mono {m m' : Nat} (hm : m ≤ m') {v : Value} (h : okC m v = true) : okC m' v = true := by
  cases v with
  | pointer a => cases a with
    | none => exact h
    | some a =>
      obtain ⟨b, o, sp⟩ := a
      cases sp with
      | none =>
        simp only [okC, decide_eq_true_eq] at h ⊢
        omega
      | some _ => exact h
  | slice a n c => cases a with
    | none => exact h
    | some a =>
      obtain ⟨b, o, sp⟩ := a
      cases sp with
      | none =>
        simp only [okC, decide_eq_true_eq] at h ⊢
        omega
      | some _ => exact h
  | _ => exact h
theorem okC_flat {m : Nat} {v : Value} (h : flat v = true) : okC m v = true := by
  have := (CellsOk.flat (rl := []) (m := m) (l := [v]) fun u hu => by rw [List.mem_singleton.1 hu]; exact h).2
  simpa using this
theorem okCs_flat {m : Nat} {l : List Value} (h : l.all flat = true) : l.all (okC m) = true := List.all_eq_true.2 fun v hv => okC_flat (List.all_eq_true.1 h v hv)
theorem okV_sl {b o n c m : Nat} (h : b < m) : okV m (.slice (some ⟨b, o, none⟩) n c) = true := decide_eq_true h
theorem okV_ptr {b o m : Nat} (h : b < m) : okV m (.pointer (some ⟨b, o, none⟩)) = true := decide_eq_true h
theorem View.mat {L : Nat} {E : Env} {n : Nat} {s : Slots} {h : Heap} (pre : List Blk) (t : TypeId) (rows : List (List Value)) (l : List (Nat × Value)) (hL : L ≤ pre.length)
    (hp : ∀ (b : Nat) (x : Blk), pre[b]? = some x → h.get b = some x ∧ x.cells.all (okC (pre.length + rows.length)) = true)
    (hr : ∀ (i : Nat) (r : List Value), rows[i]? = some r → h.get (i + pre.length) = some (rowB t r) ∧ r.all (okC (pre.length + rows.length)) = true)
    (hs : SlotsId (pre.length + rows.length) s l) : View L E n s h (layj l) (mH pre t rows) := by
  have e : (pre ++ rows.map (rowB t)).length = pre.length + rows.length := by rw [List.length_append, List.length_map]
  refine View.same (pre ++ rows.map (rowB t)) l (by omega) (fun b x hb => ?_) (by rw [e]; exact hs)
  rw [e]
  rcases Nat.lt_or_ge b pre.length with hlt | hge
  · rw [List.getElem?_append_left hlt] at hb
    exact hp b x hb
  · rw [List.getElem?_append_right hge, List.getElem?_map] at hb
    obtain ⟨r, h1, rfl⟩ := Option.map_eq_some_iff.1 hb
    obtain ⟨g1, g2⟩ := hr _ r h1
    rw [Nat.sub_add_cancel hge] at g1
    exact ⟨g1, g2⟩
theorem pre1 {P : Nat → Blk → Prop} {a : Blk} (h0 : P 0 a) : ∀ b x, [a][b]? = some x → P b x
  | 0, x, h => by cases h; exact h0
  | b + 1, x, h => by simp at h
theorem pre2 {P : Nat → Blk → Prop} {a c : Blk} (h0 : P 0 a) (h1 : P 1 c) : ∀ b x, [a, c][b]? = some x → P b x
  | 0, x, h => by cases h; exact h0
  | 1, x, h => by cases h; exact h1
  | b + 2, x, h => by simp at h
theorem pre3 {P : Nat → Blk → Prop} {a c d : Blk} (h0 : P 0 a) (h1 : P 1 c) (h2 : P 2 d) : ∀ b x, [a, c, d][b]? = some x → P b x
  | 0, x, h => by cases h; exact h0
  | 1, x, h => by cases h; exact h1
  | 2, x, h => by cases h; exact h2
  | b + 3, x, h => by simp at h
theorem BlksI.of {E : Env} {h : Heap} {rl : List Nat} {m : Nat} : ∀ {ks : List Nat} {xs : List Blk}, ks.length = xs.length → (∀ (b : Nat) (x : Blk) (k : Nat), xs[b]? = some x → ks[b]? = some k → ∃ old, h.get k = some ⟨x.elem, x.own, old⟩ ∧ All2 (ToldC E (h.less rl) rl m) old x.cells) → BlksI E h rl m ks xs
  | [], [], _, _ => trivial
  | k :: ks, x :: xs, hl, hk => ⟨hk 0 x k rfl rfl, BlksI.of (by simpa using hl) fun b x k h1 h2 => hk (b + 1) x k (by simpa using h1) (by simpa using h2)⟩
  | [], _ :: _, hl, _ => by simp at hl
  | _ :: _, [], hl, _ => by simp at hl
theorem toldC_map {E : Env} {h : Heap} {rl : List Nat} {m : Nat} : ∀ {l : List Value}, l.all (okC m) = true → All2 (ToldC E h rl m) (l.map (unC rl)) l
  | [], _ => .nil
  | v :: l, hl => by
    simp only [List.all_cons, Bool.and_eq_true] at hl
    exact .cons (.inl ⟨rfl, hl.1⟩) (toldC_map hl.2)
theorem toldC_flat {E : Env} {h : Heap} {rl : List Nat} {m : Nat} {l : List Value} (hl : l.all flat = true) : All2 (ToldC E h rl m) l l := by
  obtain ⟨h1, h2⟩ := CellsOk.flat (rl := rl) (m := m) (fun v hv => List.all_eq_true.1 hl v hv)
  have h3 := toldC_map (E := E) (h := h) (rl := rl) h2
  rwa [← h1] at h3
theorem matOk {t e : TypeId} {rows : List (List Value)} {N : Nat} (hN : rows.length = N) (hr : ∀ r ∈ rows, r.all flat = true) : ((⟨e, true, rowsV 1 N N⟩ : Blk) :: rows.map (rowB t)).all (fun x => x.cells.all (okC ((⟨e, true, rowsV 1 N N⟩ : Blk) :: rows.map (rowB t)).length)) = true := by
  rw [List.all_cons, Bool.and_eq_true]
  refine ⟨rowsV_ok (by simp; omega), List.all_eq_true.2 fun x hx => ?_⟩
  obtain ⟨r, hr1, rfl⟩ := List.mem_map.1 hx
  exact okCs_flat (hr r hr1)
theorem lentMat {E : Env} (pre : List Blk) (t e : TypeId) (rows : List (List Value)) (b0 N : Nat) (hN : rows.length = N) (h0 : pre[b0]? = some ⟨e, true, rowsV pre.length N N⟩) (hr : ∀ r ∈ rows, r.all flat = true) :
    LentEnd E 0 (.slice (some ⟨0, 0, none⟩) N N) (⟨e, true, rowsV 1 N N⟩ :: rows.map (rowB t)) (.slice (some ⟨b0, 0, none⟩) N N) (mH pre t rows) := by
  have hb : b0 < pre.length := (List.getElem?_eq_some_iff.1 h0).1
  refine ⟨b0 :: (List.range N).map (· + pre.length), ?_, rfl, BlksI.of (by simp [hN]) (fun b x k h1 h2 => ?_), .w (.un ?_ ?_)⟩
  · rw [List.nodup_cons]
    refine ⟨fun hm => ?_, ?_⟩
    · obtain ⟨i, _, hi⟩ := List.mem_map.1 hm
      omega
    · exact List.nodup_range.map _ (fun a b hab hc => hab (Nat.add_right_cancel hc))
  · cases b with
    | zero =>
      cases h1
      cases h2
      refine ⟨rowsV pre.length N N, mH_pre h0, ?_⟩
      have hok : (rowsV 1 N N).all (okC ((⟨e, true, rowsV 1 N N⟩ : Blk) :: rows.map (rowB t)).length) = true := rowsV_ok (by simp; omega)
      have := toldC_map (E := E) (h := (mH pre t rows).less (b0 :: (List.range N).map (· + pre.length))) (rl := b0 :: (List.range N).map (· + pre.length)) hok
      have he : (rowsV 1 N N).map (unC (b0 :: (List.range N).map (· + pre.length))) = rowsV pre.length N N := by
        unfold rowsV
        rw [List.map_map]
        refine List.map_congr_left fun i hi => ?_
        rw [List.mem_range] at hi
        show Value.slice (some (unA _ _)) N N = _
        simp [unA, hi]
      rwa [he] at this
    | succ b =>
      rw [List.getElem?_cons_succ, List.getElem?_map] at h1 h2
      obtain ⟨r, g1, rfl⟩ := Option.map_eq_some_iff.1 h1
      obtain ⟨i, g2, rfl⟩ := Option.map_eq_some_iff.1 h2
      have hlt : b < N := hN ▸ (List.getElem?_eq_some_iff.1 g1).1
      obtain rfl : b = i := by simpa [hlt] using g2
      exact ⟨r, mH_row g1, toldC_flat (hr r (List.mem_of_getElem? g1))⟩
  · rfl
  · exact okV_sl (by simp)
theorem matRes {x : Blk} {l : List Blk} (N : Nat) : okT (x :: l).length (.slice (some ⟨0, 0, none⟩) N N) = true := by
  show decide (0 < (x :: l).length) = true
  simp
theorem heapOf_nil : heapOf [] = Heap.none := by
  unfold heapOf Heap.none
  congr 1
theorem SCall.toFun {E : Env} {f : FuncId} {args : List Value} {v u : Value} {h1 : Heap} (c : SCall E f args Heap.none v h1) (k : iceV E h1 v = some u) (hu : iceV E Heap.none u = some u) : Fun E f args u := by
  intro ok
  obtain ⟨hf, hc⟩ := c ok
  refine ⟨hf, hu, fun base μ w args' R hbase ha => ?_⟩
  have hs : ∀ k, μ.Y k → k < w.heap.size := R.ice
  have ha2 : All2 (VRel E Heap.none (shut μ w.heap.size) w.heap) args args'.toList := ha.mono fun _ _ r => VRel.mono0 (shut_ext μ _ w.heap) r
  refine Calls.mono (hc (shut μ w.heap.size) w.heap.size w args' (Rel.none (base := w.heap.size) (shut μ w.heap.size) fun k hk => hk.elim (hs k) id) (Nat.le_refl _) ha2) fun e w' he => ?_
  obtain ⟨v', μ', rfl, R', ext, bel, hv⟩ := he
  exact Fun.finish R hbase R' (To.tom ⟨ext, bel⟩ (Nat.zero_le _)) k hv
theorem Lent.toFun {E : Env} {f : FuncId} {args : List Value} {v u : Value} {bs' : List Blk} (c : Lent E f args [] v bs') (k : iceV E (heapOf bs') v = some u) (hu : iceV E Heap.none u = some u) : Fun E f args u :=
  SCall.toFun (heapOf_nil ▸ c.call) k hu
theorem mapO_map {α : Type} {f : Value → Option Value} {g g' : α → Value} : ∀ {l : List α}, (∀ a ∈ l, f (g a) = some (g' a)) → mapO f (l.map g) = some (l.map g')
  | [], _ => rfl
  | a :: l, h => by
    have ih := mapO_map (f := f) (g := g) (g' := g') (l := l) fun a ha => h a (List.mem_cons_of_mem _ ha)
    rw [List.map_cons, List.map_cons]
    simp only [mapO, h a (by simp), ih]
theorem iceC_rows {E : Env} {hp : Heap} {b n c e size : Nat} {cells us : List Value} (m : Nat) (he : (E.types e).map TI.size = some size) (hb : hp.get b = some ⟨e, true, cells⟩) (hn : n * size = cells.length) (hc : mapO (iceC E hp m) cells = some us) : iceC E hp (m + 1) (.slice (some ⟨b, 0, none⟩) n c) = some (FS e n 0 us.toArray) := by
  obtain ⟨ti, h1, rfl⟩ := Option.map_eq_some_iff.1 he
  have h2 : cellsAt cells 0 (n * ti.size) = some cells := by
    simp only [cellsAt, Nat.zero_add, hn, Nat.le_refl, if_true, List.drop_zero]
    rw [List.take_of_length_le (Nat.le_refl _)]
  unfold iceC
  simp only [hb, h1, h2, hc]
def matF (e1 e N : Nat) (rows : List (List Value)) : Value := FS e1 N 0 (rows.map fun r => FS e N 0 r.toArray).toArray
theorem matF_ice {E : Env} {h : Heap} (e1 e N : Nat) (rows : List (List Value)) : iceV E h (matF e1 e N rows) = some (matF e1 e N rows) := rfl
theorem mat_ice {E : Env} {hp : Heap} {b0 p N e1 e size : Nat} {rows : List (List Value)} (h1 : (E.types e1).map TI.size = some 1) (h2 : (E.types e).map TI.size = some size) (hN : rows.length = N) (h0 : hp.get b0 = some ⟨e1, true, rowsV p N N⟩)
    (hr : ∀ i r, rows[i]? = some r → hp.get (i + p) = some ⟨e, true, r⟩) (hs : ∀ r ∈ rows, r.length = N * size) (hf : ∀ r ∈ rows, r.all flat = true) : iceV E hp (.slice (some ⟨b0, 0, none⟩) N N) = some (matF e1 e N rows) := by
  have key : mapO (iceC E hp 3) (rowsV p N N) = some (rows.map fun r => FS e N 0 r.toArray) := by
    have e0 : rows = (List.range N).map fun i => rows.getD i [] := by
      apply List.ext_getElem?
      intro i
      by_cases hi : i < N
      · rw [List.getElem?_map, List.getElem?_range hi, List.getElem?_eq_getElem (hN ▸ hi)]
        simp [List.getD_eq_getElem?_getD, List.getElem?_eq_getElem (hN ▸ hi : i < rows.length)]
      · rw [List.getElem?_eq_none (by omega), List.getElem?_eq_none (by simp; omega)]
    rw [e0, List.map_map]
    unfold rowsV
    refine mapO_map fun i hi => ?_
    rw [List.mem_range] at hi
    have hi2 : i < rows.length := hN ▸ hi
    have hg : rows[i]? = some (rows.getD i []) := by rw [List.getD_eq_getElem?_getD, List.getElem?_eq_getElem hi2]; rfl
    have hm : rows.getD i [] ∈ rows := List.mem_of_getElem? hg
    exact iceC_row 2 h2 (hr i _ hg) (hs _ hm).symm (hf _ hm)
  have := iceC_rows (E := E) (hp := hp) (b := b0) (n := N) (c := N) (e := e1) (size := 1) 3 h1 h0 (by rw [rowsV_len, Nat.mul_one]) key
  exact this
theorem WpCall.fresh {E : Env} {f : FuncId} {args : List Value} {h : Heap} {bs' : List Blk} {v : Value} {K : Value → Heap → Prop} (c : Lent E f args [] v bs') (k : K (unT (idsOf [] h.next bs'.length) v) (layO (idsOf [] h.next bs'.length) h [] bs')) : WpCall E f args h K := by
  have hid : ∀ {l : List Value}, l.all (okV 0) = true → l.map (unV []) = l := fun {l} => by
    induction l with
    | nil => intro _; rfl
    | cons v l ih =>
      intro hl
      simp only [List.all_cons, Bool.and_eq_true] at hl
      rw [List.map_cons, ih hl.2, show unV [] v = v from unV_range (m := 0) hl.1]
  have := SCall.lend (h := h) (args := args) [] c List.nodup_nil trivial (hid c.args).symm
  exact ⟨_, _, this, k⟩
theorem WpCall.fresh1 {E : Env} {f : FuncId} {args : List Value} {h : Heap} {n m : Nat} {e : TypeId} {cs : List Value} {K : Value → Heap → Prop} (c : Lent E f args [] (.slice (some ⟨0, 0, none⟩) n m) [⟨e, true, cs⟩]) (hf : cs.all flat = true) (k : K (.slice (some ⟨h.next, 0, none⟩) n m) (h.alloc ⟨e, true, cs⟩)) : WpCall E f args h K := by
  refine WpCall.fresh c ?_
  have h1 : layO (idsOf [] h.next 1) h [] [⟨e, true, cs⟩] = h.alloc ⟨e, true, cs⟩ := by
    simp only [layO, unB_flat hf]
  have h2 : unT (idsOf [] h.next 1) (.slice (some ⟨0, 0, none⟩) n m) = .slice (some ⟨h.next, 0, none⟩) n m := rfl
  show K (unT (idsOf [] h.next 1) _) (layO (idsOf [] h.next 1) h [] _)
  rw [h1, h2]
  exact k
theorem WpCall.freshM {E : Env} {f : FuncId} {args : List Value} {h : Heap} {N : Nat} {e1 e : TypeId} {rows : List (List Value)} {K : Value → Heap → Prop} (c : Lent E f args [] (.slice (some ⟨0, 0, none⟩) N N) (⟨e1, true, rowsV 1 N N⟩ :: rows.map (rowB e))) (hN : rows.length = N) (hf : ∀ r ∈ rows, r.all flat = true)
    (k : ∀ h2 : Heap, h2.next = h.next + (N + 1) → (∀ b, b < h.next → h2.get b = h.get b) → h2.get h.next = some ⟨e1, true, rowsV (h.next + 1) N N⟩ → (∀ i r, rows[i]? = some r → h2.get (i + (h.next + 1)) = some ⟨e, true, r⟩) → K (.slice (some ⟨h.next, 0, none⟩) N N) h2) : WpCall E f args h K := by
  refine WpCall.fresh c ?_
  have hl : (⟨e1, true, rowsV 1 N N⟩ :: rows.map (rowB e)).length = N + 1 := by rw [List.length_cons, List.length_map, hN]
  rw [hl]
  have hv : unT (idsOf [] h.next (N + 1)) (.slice (some ⟨0, 0, none⟩) N N) = .slice (some ⟨h.next, 0, none⟩) N N := by
    show Value.slice (some ⟨(idsOf [] h.next (N + 1)).getD 0 0, 0, none⟩) N N = _
    rw [idsOf_at (by omega)]
    rfl
  rw [hv]
  refine k _ ?_ (fun b hb => lay_keep _ _ _ _ hb List.not_mem_nil) ?_ (fun i r hi => ?_)
  · rw [lay_next, hl]
    rfl
  · have := lay_get (idsOf [] h.next (N + 1)) (⟨e1, true, rowsV 1 N N⟩ :: rows.map (rowB e)) h [] 0 rfl List.nodup_nil (fun k hk => absurd hk List.not_mem_nil)
    rw [idAt_new (ks := []) (Nat.zero_le _)] at this
    rw [show h.next = h.next + (0 - ([] : List Nat).length) from rfl]
    refine this.trans ?_
    have he : (rowsV 1 N N).map (unC (idsOf [] h.next (N + 1))) = rowsV (h.next + 1) N N := by
      unfold rowsV
      rw [List.map_map]
      refine List.map_congr_left fun i hi => ?_
      rw [List.mem_range] at hi
      show Value.slice (some ⟨(idsOf [] h.next (N + 1)).getD (i + 1) 0, 0, none⟩) N N = _
      rw [idsOf_at (by omega), idAt_new (ks := []) (Nat.zero_le _)]
      have : h.next + (i + 1 - ([] : List Nat).length) = i + (h.next + 1) := by simp only [List.length_nil]; omega
      rw [this]
    show some (Blk.mk e1 true ((rowsV 1 N N).map (unC (idsOf [] h.next (N + 1))))) = _
    rw [he]
    rfl
  · have hlt : i < N := hN ▸ (List.getElem?_eq_some_iff.1 hi).1
    have := lay_get (idsOf [] h.next (N + 1)) (y := rowB e r) (⟨e1, true, rowsV 1 N N⟩ :: rows.map (rowB e)) h [] (i + 1) (by rw [List.getElem?_cons_succ, List.getElem?_map, hi]; rfl) List.nodup_nil (fun k hk => absurd hk List.not_mem_nil)
    rw [idAt_new (ks := []) (Nat.zero_le _)] at this
    have e2 : h.next + (i + 1 - ([] : List Nat).length) = i + (h.next + 1) := by simp only [List.length_nil]; omega
    rw [e2] at this
    rw [this]
    show some (unB _ ⟨e, true, r⟩) = _
    rw [unB_flat (hf r (List.mem_of_getElem? hi))]
def mvC (p k : Nat) : Value → Value
  | .pointer (some ⟨b, o, none⟩) => .pointer (some ⟨if b = p then k else b, o, none⟩)
  | .slice (some ⟨b, o, none⟩) n c => .slice (some ⟨if b = p then k else b, o, none⟩) n c
  | v => v
def mvV (p k : Nat) : Value → Value
  | .agg cs => .agg (cs.toList.map (mvC p k)).toArray
  | .func fn a c => .func fn (a.toList.map (mvC p k)).toArray (c.toList.map (mvC p k)).toArray
  | v => mvC p k v
theorem unC_mv {p k m : Nat} {v : Value} (h : okC m v = true) : unC ((List.range m).set p k) v = mvC p k v := by
  have key : ∀ b, b < m → ((List.range m).set p k).getD b 0 = if b = p then k else b := fun b hb => by
    rw [List.getD_eq_getElem?_getD, List.getElem?_set]
    by_cases e : p = b
    · subst e
      simp [hb]
    · have e' : ¬ b = p := fun h => e h.symm
      simp [hb, e, e']
  cases v with
  | pointer a => cases a with
    | none => rfl
    | some a =>
      obtain ⟨b, o, sp⟩ := a
      cases sp with
      | none =>
        simp only [okC, decide_eq_true_eq] at h
        show Value.pointer (some ⟨((List.range m).set p k).getD b 0, o, none⟩) = _
        rw [key b h]
        rfl
      | some _ => rfl
  | slice a n c => cases a with
    | none => rfl
    | some a =>
      obtain ⟨b, o, sp⟩ := a
      cases sp with
      | none =>
        simp only [okC, decide_eq_true_eq] at h
        show Value.slice (some ⟨((List.range m).set p k).getD b 0, o, none⟩) n c = _
        rw [key b h]
        rfl
      | some _ => rfl
  | _ => rfl
theorem unV_mv {p k m : Nat} {v : Value} (h : okV m v = true) : unV ((List.range m).set p k) v = mvV p k v := by
  cases v with
  | agg cs =>
    have h' : cs.toList.all (okC m) = true := h
    show Value.agg (cs.toList.map (unC _)).toArray = .agg (cs.toList.map (mvC p k)).toArray
    congr 2
    exact List.map_congr_left fun v hv => unC_mv (List.all_eq_true.1 h' v hv)
  | func fn a c =>
    have h' : (a.toList.all (okC m) && c.toList.all (okC m)) = true := h
    rw [Bool.and_eq_true] at h'
    show Value.func fn (a.toList.map (unC _)).toArray (c.toList.map (unC _)).toArray = .func fn (a.toList.map (mvC p k)).toArray (c.toList.map (mvC p k)).toArray
    have e1 : a.toList.map (unC ((List.range m).set p k)) = a.toList.map (mvC p k) := List.map_congr_left fun v hv => unC_mv (List.all_eq_true.1 h'.1 v hv)
    have e2 : c.toList.map (unC ((List.range m).set p k)) = c.toList.map (mvC p k) := List.map_congr_left fun v hv => unC_mv (List.all_eq_true.1 h'.2 v hv)
    rw [e1, e2]
  | pointer a => exact unC_mv (v := .pointer a) h
  | slice a n c => exact unC_mv (v := .slice a n c) h
  | _ => rfl
def SlotsMv (p k m : Nat) (s : Slots) : List (Nat × Value) → Prop
  | [] => True
  | (d, v) :: r => (s d = mvV p k v ∧ okV m v = true) ∧ SlotsMv p k m s r
theorem SlotsMv.ok {p k m : Nat} {s : Slots} : ∀ {l : List (Nat × Value)}, SlotsMv p k m s l → SlotsOk ((List.range m).set p k) m s l
  | [], _ => trivial
  | (d, v) :: r, ⟨⟨h1, h2⟩, h3⟩ => ⟨⟨by rw [unV_mv h2]; exact h1, h2⟩, SlotsMv.ok h3⟩
theorem View.move {E : Env} {n : Nat} {s : Slots} {h : Heap} (p k : Nat) (bs : List Blk) (l : List (Nat × Value)) (hk : bs.length ≤ k) (hb : ∀ (b : Nat) (x : Blk), bs[b]? = some x → ∃ old, h.get (if b = p then k else b) = some ⟨x.elem, x.own, old⟩ ∧ old = x.cells.map (mvC p k) ∧ x.cells.all (okC bs.length) = true) (hs : SlotsMv p k bs.length s l) : View 0 E n s h (layj l) (heapOf bs) := by
  refine View.of ((List.range bs.length).set p k) bs l ?_ rfl (BlksOk.of (by simp) fun b x k2 h1 h2 => ?_) hs.ok
  · refine List.pairwise_iff_getElem.2 fun a b ha hb hab => ?_
    simp only [List.length_set, List.length_range] at ha hb
    simp only [List.getElem_set, List.getElem_range]
    split <;> split <;> omega
  · have hlt : b < bs.length := (List.getElem?_eq_some_iff.1 h1).1
    rw [List.getElem?_set] at h2
    have e : (if b = p then k else b) = k2 := by
      by_cases e : p = b
      · subst e
        rw [if_pos rfl]
        simpa [hlt] using h2
      · rw [if_neg fun h => e h.symm]
        rw [if_neg e] at h2
        simpa [hlt] using h2
    obtain ⟨old, g1, g2, g3⟩ := hb b x h1
    rw [e] at g1
    refine ⟨old, g1, ?_, g3⟩
    rw [g2]
    exact List.map_congr_left fun v hv => (unC_mv (List.all_eq_true.1 g3 v hv)).symm
theorem mvC_flat {p k : Nat} {v : Value} (h : flat v = true) : mvC p k v = v := by
  cases v with
  | pointer a => cases a with
    | none => rfl
    | some a => cases h
  | slice a n c => cases a with
    | none => rfl
    | some a => cases h
  | _ => rfl
theorem map_mvC_flat {p k : Nat} : ∀ {l : List Value}, l.all flat = true → l.map (mvC p k) = l
  | [], _ => rfl
  | v :: l, h => by
    simp only [List.all_cons, Bool.and_eq_true] at h
    rw [List.map_cons, mvC_flat h.1, map_mvC_flat h.2]
theorem map_mvC_rows {p k b N n : Nat} (h : p < b ∨ b + n ≤ p) : (rowsV b N n).map (mvC p k) = rowsV b N n := by
  unfold rowsV
  rw [List.map_map]
  refine List.map_congr_left fun i hi => ?_
  rw [List.mem_range] at hi
  show Value.slice (some ⟨if i + b = p then k else i + b, 0, none⟩) N N = _
  rw [if_neg (by omega)]
theorem View.matO {E : Env} {n : Nat} {s : Slots} {h : Heap} (x0 : Blk) (t e : TypeId) (N : Nat) (rows : List (List Value)) (q k : Nat) (l : List (Nat × Value)) (hq : rows.length = q) (hk : 2 + q ≤ k) (h0 : h.get 0 = some x0) (hf0 : x0.cells.all flat = true) (h1 : h.get k = some ⟨e, true, rowsV 2 N q⟩)
    (hr : ∀ (i : Nat) (r : List Value), rows[i]? = some r → h.get (i + 2) = some ⟨t, true, r⟩ ∧ r.all flat = true) (hs : SlotsMv 1 k (2 + q) s l) : View 0 E n s h (layj l) (mH [x0, ⟨e, true, rowsV 2 N q⟩] t rows) := by
  subst hq
  have hl : ([x0, ⟨e, true, rowsV 2 N rows.length⟩] ++ rows.map (rowB t)).length = 2 + rows.length := by rw [List.length_append, List.length_map]; rfl
  refine View.move 1 k ([x0, ⟨e, true, rowsV 2 N rows.length⟩] ++ rows.map (rowB t)) l (by rw [hl]; exact hk) (fun b x hb => ?_) (by rw [hl]; exact hs)
  rw [hl]
  match b, hb with
  | 0, hb =>
    obtain rfl : x0 = x := Option.some.inj hb
    exact ⟨x0.cells, h0, (map_mvC_flat hf0).symm, okCs_flat hf0⟩
  | 1, hb =>
    obtain rfl : (⟨e, true, rowsV 2 N rows.length⟩ : Blk) = x := Option.some.inj hb
    exact ⟨_, h1, (map_mvC_rows (.inl (by omega))).symm, rowsV_ok (Nat.le_refl _)⟩
  | b + 2, hb =>
    have hb' : (rows.map (rowB t))[b]? = some x := hb
    rw [List.getElem?_map] at hb'
    obtain ⟨r, g1, rfl⟩ := Option.map_eq_some_iff.1 hb'
    obtain ⟨g2, g3⟩ := hr b r g1
    refine ⟨r, ?_, (map_mvC_flat g3).symm, okCs_flat g3⟩
    rw [if_neg (by omega)]
    exact g2
theorem View.matL {E : Env} {n : Nat} {s : Slots} {h : Heap} (x0 : Blk) (t e : TypeId) (N : Nat) (rows : List (List Value)) (last : List Value) (q k : Nat) (l : List (Nat × Value)) (hq : rows.length = q) (hk : 3 + q ≤ k) (h0 : h.get 0 = some x0) (hf0 : x0.cells.all flat = true) (h1 : h.get 1 = some ⟨e, true, rowsV 2 N q⟩)
    (hr : ∀ (i : Nat) (r : List Value), rows[i]? = some r → h.get (i + 2) = some ⟨t, true, r⟩ ∧ r.all flat = true) (hlast : h.get k = some ⟨t, true, last⟩) (hfl : last.all flat = true) (hs : SlotsMv (q + 2) k (3 + q) s l) : View 0 E n s h (layj l) (mH [x0, ⟨e, true, rowsV 2 N q⟩] t (rows ++ [last])) := by
  subst hq
  have hl : ([x0, ⟨e, true, rowsV 2 N rows.length⟩] ++ (rows ++ [last]).map (rowB t)).length = 3 + rows.length := by rw [List.length_append, List.length_map, List.length_append]; simp; omega
  refine View.move (rows.length + 2) k ([x0, ⟨e, true, rowsV 2 N rows.length⟩] ++ (rows ++ [last]).map (rowB t)) l (by rw [hl]; exact hk) (fun b x hb => ?_) (by rw [hl]; exact hs)
  rw [hl]
  match b, hb with
  | 0, hb =>
    obtain rfl : x0 = x := Option.some.inj hb
    refine ⟨x0.cells, ?_, (map_mvC_flat hf0).symm, okCs_flat hf0⟩
    rw [if_neg (by omega)]
    exact h0
  | 1, hb =>
    obtain rfl : (⟨e, true, rowsV 2 N rows.length⟩ : Blk) = x := Option.some.inj hb
    refine ⟨_, ?_, (map_mvC_rows (.inr (by omega))).symm, rowsV_ok (by omega)⟩
    rw [if_neg (by omega)]
    exact h1
  | b + 2, hb =>
    have hb' : ((rows ++ [last]).map (rowB t))[b]? = some x := hb
    rw [List.getElem?_map] at hb'
    obtain ⟨r, g1, rfl⟩ := Option.map_eq_some_iff.1 hb'
    by_cases e1 : b = rows.length
    · subst e1
      rw [List.getElem?_append_right (Nat.le_refl _), Nat.sub_self] at g1
      obtain rfl : last = r := Option.some.inj g1
      refine ⟨last, ?_, (map_mvC_flat hfl).symm, okCs_flat hfl⟩
      rw [if_pos rfl]
      exact hlast
    · have hlt : b < rows.length := by
        have := (List.getElem?_eq_some_iff.1 g1).1
        rw [List.length_append] at this
        simp at this
        omega
      rw [List.getElem?_append_left hlt] at g1
      obtain ⟨g2, g3⟩ := hr b r g1
      refine ⟨r, ?_, (map_mvC_flat g3).symm, okCs_flat g3⟩
      rw [if_neg (by omega)]
      exact g2
theorem View.matK {E : Env} {n : Nat} {s : Slots} {h : Heap} (x0 x1 : Blk) (old1 : List Value) (t : TypeId) (rows : List (List Value)) (last : List Value) (q k : Nat) (l : List (Nat × Value)) (hq : rows.length = q) (hk : 3 + q ≤ k) (h0 : h.get 0 = some x0) (hf0 : x0.cells.all flat = true) (h1 : h.get 1 = some ⟨x1.elem, x1.own, old1⟩) (ho1 : old1 = x1.cells.map (mvC (q + 2) k)) (hf1 : x1.cells.all (okC (3 + q)) = true)
    (hr : ∀ (i : Nat) (r : List Value), rows[i]? = some r → h.get (i + 2) = some ⟨t, true, r⟩ ∧ r.all flat = true) (hlast : h.get k = some ⟨t, true, last⟩) (hfl : last.all flat = true) (hs : SlotsMv (q + 2) k (3 + q) s l) : View 0 E n s h (layj l) (mH [x0, x1] t (rows ++ [last])) := by
  subst hq
  have hl : ([x0, x1] ++ (rows ++ [last]).map (rowB t)).length = 3 + rows.length := by rw [List.length_append, List.length_map, List.length_append]; simp; omega
  refine View.move (rows.length + 2) k ([x0, x1] ++ (rows ++ [last]).map (rowB t)) l (by rw [hl]; exact hk) (fun b x hb => ?_) (by rw [hl]; exact hs)
  rw [hl]
  match b, hb with
  | 0, hb =>
    obtain rfl : x0 = x := Option.some.inj hb
    refine ⟨x0.cells, ?_, (map_mvC_flat hf0).symm, okCs_flat hf0⟩
    rw [if_neg (by omega)]
    exact h0
  | 1, hb =>
    obtain rfl : x1 = x := Option.some.inj hb
    refine ⟨old1, ?_, ho1, hf1⟩
    rw [if_neg (by omega)]
    exact h1
  | b + 2, hb =>
    have hb' : ((rows ++ [last]).map (rowB t))[b]? = some x := hb
    rw [List.getElem?_map] at hb'
    obtain ⟨r, g1, rfl⟩ := Option.map_eq_some_iff.1 hb'
    by_cases e1 : b = rows.length
    · subst e1
      rw [List.getElem?_append_right (Nat.le_refl _), Nat.sub_self] at g1
      obtain rfl : last = r := Option.some.inj g1
      refine ⟨last, ?_, (map_mvC_flat hfl).symm, okCs_flat hfl⟩
      rw [if_pos rfl]
      exact hlast
    · have hlt : b < rows.length := by
        have := (List.getElem?_eq_some_iff.1 g1).1
        rw [List.length_append] at this
        simp at this
        omega
      rw [List.getElem?_append_left hlt] at g1
      obtain ⟨g2, g3⟩ := hr b r g1
      refine ⟨r, ?_, (map_mvC_flat g3).symm, okCs_flat g3⟩
      rw [if_neg (by omega)]
      exact g2
theorem WpCall.lent11 {E : Env} {f : FuncId} {args args0 : List Value} {h : Heap} {n m k : Nat} {x y : Blk} {K : Value → Heap → Prop} (c : Lent E f args0 [x] (.slice (some ⟨1, 0, none⟩) n m) [x, y]) (hk : h.get k = some x) (hfx : x.cells.all flat = true) (hfy : y.cells.all flat = true) (ha : args = args0.map (unV [k])) (kk : K (.slice (some ⟨h.next, 0, none⟩) n m) (h.alloc y)) : WpCall E f args h K := by
  have hb : BlksOk [k] [x].length h [k] [x] := by
    obtain ⟨e, o, cs⟩ := x
    exact ⟨⟨cs, hk, CellsOk.flat fun v hv => List.all_eq_true.1 hfx v hv⟩, trivial⟩
  have := SCall.lend (h := h) (args := args) [k] c (by simp) hb ha
  refine ⟨_, _, this, ?_⟩
  have h1 : layO (idsOf [k] h.next 2) h [k] [x, y] = h.alloc y := by
    obtain ⟨e, o, cs⟩ := x
    obtain ⟨e', o', cs'⟩ := y
    simp only [layO, unB_flat hfx, unB_flat hfy]
    rw [Heap.set_self _ _ _ hk]
  have h2 : unT (idsOf [k] h.next 2) (.slice (some ⟨1, 0, none⟩) n m) = .slice (some ⟨h.next, 0, none⟩) n m := by
    show Value.slice (some ⟨(idsOf [k] h.next 2).getD 1 0, 0, none⟩) n m = _
    rw [idsOf_at (by omega)]
    rfl
  show K (unT (idsOf [k] h.next 2) _) (layO (idsOf [k] h.next 2) h [k] [x, y])
  rw [h1, h2]
  exact kk
theorem Lent.ofS {E : Env} {f : FuncId} {args : List Value} {bs bs' : List Blk} {v v1 : Value} {h1 : Heap} (c : SCall E f args (heapOf bs) v1 h1) (own : bs.all (·.own) = true) (own' : bs'.all (·.own) = true) (len : bs.length ≤ bs'.length) (hargs : args.all (okV bs.length) = true) (cells : bs'.all (fun x => x.cells.all (okC bs'.length)) = true) (res : okT bs'.length v = true)
    (he : LentEnd E bs.length v bs' v1 h1) : Lent E f args bs v bs' := by
  refine ⟨fun ok => ⟨(c ok).1, fun μ base w args' R hbase ha => ?_⟩, own, own', len, hargs, cells, res⟩
  refine Calls.mono ((c ok).2 μ base w args' R hbase ha) fun e w' he2 => ?_
  obtain ⟨rl, hnd, hk, hbk, htold⟩ := he
  obtain ⟨v', μ', rfl, R', ext, bel, hv⟩ := he2
  have t : Tom bs.length base (heapOf bs) μ w h1 μ' w' := To.tom ⟨ext, bel⟩ (Nat.le_refl _)
  have f := Fine.of hnd hbk
  have t2 := t.trans (f.tom R' hk)
  refine ⟨v', μIce h1 μ' rl, rfl, f.rel R', ⟨len, t2.mu, t2.back, fun b x hb hx ho => ?_, fun b x _ hb' hx => ?_, t2.mem, t2.ice, t2.icy, t2.iced, t2.below.size, t2.iceY, t2.icedY⟩, t2.below, VRel.told R' f htold hv⟩
  · exfalso
    have := List.all_eq_true.1 own x (List.mem_of_getElem? hx)
    rw [ho] at this
    cases this
  · exact List.all_eq_true.1 own' x (List.mem_of_getElem? hx)
theorem Lent.closed11 {E : Env} {f : FuncId} {args : List Value} {x y : Blk} {n m b : Nat} (k : Nat) (hx : x.own = true) (hy : y.own = true) (hfx : x.cells.all flat = true) (hfy : y.cells.all flat = true) (ha : args.all (okV 1) = true) (hb : ¬ b = 0)
    (hr : ((acall E k f args (heapOf [x])).map fun r => (r.1, r.2.get 0, r.2.get b)) = some (.slice (some ⟨b, 0, none⟩) n m, some x, some y)) : Lent E f args [x] (.slice (some ⟨1, 0, none⟩) n m) [x, y] := by
  obtain ⟨⟨v1, h1⟩, g1, g2⟩ := Option.map_eq_some_iff.1 hr
  simp only [Prod.mk.injEq] at g2
  obtain ⟨rfl, g3, g4⟩ := g2
  have hok : ([x, y] : List Blk).all (fun z => z.cells.all (okC 2)) = true := by
    rw [List.all_cons, List.all_cons, List.all_nil, okCs_flat hfx, okCs_flat hfy]
    rfl
  refine Lent.ofS (SCall.closed k g1) (by simp [hx]) (by simp [hx, hy]) (by simp) ha hok rfl ⟨[0, b], ?_, rfl, ?_, .w (.un rfl rfl)⟩
  · simp
    exact fun h => hb h.symm
  · obtain ⟨e, o, cs⟩ := x
    obtain ⟨e', o', cs'⟩ := y
    exact ⟨⟨cs, g3, toldC_flat hfx⟩, ⟨cs', g4, toldC_flat hfy⟩, trivial⟩
end Go.Fw
