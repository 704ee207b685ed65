/- The law VectorKeeps. -/
import Derived.Test.YtfjkanjmggbofaaFwLem
import Derived.Test.YtfjkanjmggbofaaFwCons
import Derived.Test.YtfjkanjmggbofaaV12ma
namespace Go.Proofs.Ytfjkanjmggbofaa.D
open Go.Fw Go.RowKit

theorem idsOf_self (ks : List Nat) (n : Nat) : idsOf ks n ks.length = ks := by
  unfold idsOf
  apply List.ext_getElem?
  intro i
  rw [List.getElem?_map]
  by_cases h : i < ks.length
  · rw [List.getElem?_range h, List.getElem?_eq_getElem h]
    show some (idAt ks n i) = _
    rw [idAt_old h, List.getD_eq_getElem?_getD, List.getElem?_eq_getElem h]
    rfl
  · rw [List.getElem?_eq_none (show (List.range ks.length).length ≤ i by rw [List.length_range]; omega), List.getElem?_eq_none (show ks.length ≤ i by omega)]
    rfl
theorem layO_self {rl : List Nat} {m : Nat} {h : Heap} : ∀ {ks : List Nat} {xs : List Blk}, BlksOk rl m h ks xs → layO rl h ks xs = h
  | [], [], _ => rfl
  | k :: ks, x :: xs, ⟨⟨old, h1, h2, _⟩, hr⟩ => by
    have e : h.set k (some (unB rl x)) = h := by
      refine Heap.set_self h k _ ?_
      rw [h1, h2]
      rfl
    show layO rl (h.set k (some (unB rl x))) ks xs = h
    rw [e]
    exact layO_self hr
  | [], _ :: _, hb => hb.elim
  | _ :: _, [], hb => hb.elim
/-- Blocks lent that stay as they are. -/
theorem lentS {f : FuncId} {args args0 : List Value} {h : Heap} {bs : List Blk} {v : Value} {K : Value → Heap → Prop} (rl : List Nat) (c : Lent E f args0 bs v bs) (hnd : rl.Nodup) (hl : rl.length = bs.length) (hb : BlksOk rl bs.length h rl bs) (ha : args = args0.map (unV rl)) (k : K (unT rl v) h) : WpCall E f args h K := by
  have := SCall.lend rl c hnd hb ha
  have e1 : idsOf rl h.next bs.length = rl := by rw [← hl, idsOf_self]
  rw [e1, layO_self hb] at this
  exact WpCall.by this k
theorem freshT {f : FuncId} {args : List Value} {h : Heap} {N : Nat} {n : Int} {e1 e : TypeId} {rows : List (List Value)} {K : Value → Heap → Prop} (c : Lent E f args [] (.tuple #[.slice (some ⟨0, 0, none⟩) N N, .int .i64 n]) (⟨e1, true, rowsV 1 N N⟩ :: rows.map (rowB e))) (hN : rows.length = N) (hf : ∀ r ∈ rows, r.all flat = true) (b0 : Nat) (hb0 : h.next = b0)
    (k : ∀ h2 : Heap, h2.next = b0 + (N + 1) → (∀ b, b < b0 → h2.get b = h.get b) → h2.get b0 = some ⟨e1, true, rowsV (b0 + 1) N N⟩ → (∀ i r, rows[i]? = some r → h2.get (i + (b0 + 1)) = some ⟨e, true, r⟩) → K (.tuple #[.slice (some ⟨b0, 0, none⟩) N N, .int .i64 n]) h2) : WpCall E f args h K := by
  subst hb0
  refine WpCall.fresh c ?_
  have hl : (⟨e1, true, rowsV 1 N N⟩ :: rows.map (rowB e)).length = N + 1 := by rw [List.length_cons, List.length_map, hN]
  rw [hl]
  have hv : unT (idsOf [] h.next (N + 1)) (.tuple #[.slice (some ⟨0, 0, none⟩) N N, .int .i64 n]) = .tuple #[.slice (some ⟨h.next, 0, none⟩) N N, .int .i64 n] := by
    show Value.tuple #[.slice (some ⟨(idsOf [] h.next (N + 1)).getD 0 0, 0, none⟩) N N, .int .i64 n] = _
    rw [idsOf_at (by omega)]
    rfl
  rw [hv]
  refine k _ ?_ (fun b hb => lay_keep _ _ _ _ hb List.not_mem_nil) ?_ (fun i r hi => ?_)
  · rw [lay_next, hl]
    rfl
  · have := lay_get (idsOf [] h.next (N + 1)) (⟨e1, true, rowsV 1 N N⟩ :: rows.map (rowB e)) h [] 0 rfl List.nodup_nil (fun k hk => absurd hk List.not_mem_nil)
    rw [idAt_new (ks := []) (Nat.zero_le _)] at this
    rw [show h.next = h.next + (0 - ([] : List Nat).length) from rfl]
    refine this.trans ?_
    have he : (rowsV 1 N N).map (unC (idsOf [] h.next (N + 1))) = rowsV (h.next + 1) N N := by
      unfold rowsV
      rw [List.map_map]
      refine List.map_congr_left fun i hi => ?_
      rw [List.mem_range] at hi
      show Value.slice (some ⟨(idsOf [] h.next (N + 1)).getD (i + 1) 0, 0, none⟩) N N = _
      rw [idsOf_at (by omega), idAt_new (ks := []) (Nat.zero_le _)]
      have : h.next + (i + 1 - ([] : List Nat).length) = i + (h.next + 1) := by simp only [List.length_nil]; omega
      rw [this]
    show some (Blk.mk e1 true ((rowsV 1 N N).map (unC (idsOf [] h.next (N + 1))))) = _
    rw [he]
    rfl
  · have hlt : i < N := hN ▸ (List.getElem?_eq_some_iff.1 hi).1
    have := lay_get (idsOf [] h.next (N + 1)) (y := rowB e r) (⟨e1, true, rowsV 1 N N⟩ :: rows.map (rowB e)) h [] (i + 1) (by rw [List.getElem?_cons_succ, List.getElem?_map, hi]; rfl) List.nodup_nil (fun k hk => absurd hk List.not_mem_nil)
    rw [idAt_new (ks := []) (Nat.zero_le _)] at this
    have e2 : h.next + (i + 1 - ([] : List Nat).length) = i + (h.next + 1) := by simp only [List.length_nil]; omega
    rw [e2] at this
    rw [this]
    show some (unB _ ⟨e, true, r⟩) = _
    rw [unB_flat (hf r (List.mem_of_getElem? hi))]
/-- Where a matrix lies. -/
def rlM (N b0 p : Nat) : List Nat := b0 :: (List.range N).map (· + p)
theorem rlM_len (N b0 p : Nat) : (rlM N b0 p).length = N + 1 := by simp [rlM]
theorem rlM_nodup {N b0 p : Nat} (h : b0 < p) : (rlM N b0 p).Nodup := by
  unfold rlM
  rw [List.nodup_cons]
  refine ⟨fun hm => ?_, ?_⟩
  · obtain ⟨i, _, hi⟩ := List.mem_map.1 hm
    omega
  · exact List.nodup_range.map _ (fun a b hab hc => hab (Nat.add_right_cancel hc))
theorem rlM_rows (N b0 p : Nat) : (rowsV 1 N N).map (unC (rlM N b0 p)) = rowsV p N N := by
  unfold rowsV
  rw [List.map_map]
  refine List.map_congr_left fun i hi => ?_
  rw [List.mem_range] at hi
  show Value.slice (some (unA _ _)) N N = _
  simp [unA, rlM, hi]
theorem rlM_ok {h : Heap} {N : Nat} {g : Nat → Nat → Rt} {b0 p : Nat} (h0 : h.get b0 = some ⟨45, true, rowsV p N N⟩) (hr : ∀ i r, (rowsM N g)[i]? = some r → h.get (i + p) = some ⟨47, true, r⟩) : BlksOk (rlM N b0 p) (tA N g).length h (rlM N b0 p) (tA N g) := by
  refine BlksOk.of (by rw [rlM_len, tA_len]) fun b x k h1 h2 => ?_
  have hok := tA_ok h1
  unfold tA at h1
  match b, h1, h2 with
  | 0, h1, h2 =>
    obtain rfl := Option.some.inj h1
    obtain rfl : b0 = k := Option.some.inj h2
    exact ⟨rowsV p N N, h0, (rlM_rows N b0 p).symm, hok⟩
  | b + 1, h1, h2 =>
    unfold rlM at h2
    rw [List.getElem?_cons_succ, List.getElem?_map] at h1 h2
    obtain ⟨r, g1, rfl⟩ := Option.map_eq_some_iff.1 h1
    obtain ⟨i, g2, rfl⟩ := Option.map_eq_some_iff.1 h2
    have hlt : b < N := by
      have := (List.getElem?_eq_some_iff.1 g1).1
      rwa [rowsM_len] at this
    obtain rfl : b = i := by simpa [hlt] using g2
    have hf := rowsM_flat (List.mem_of_getElem? g1)
    exact ⟨r, hr b r g1, CellsOk.eq rfl hf⟩
theorem lentMT {h : Heap} {N : Nat} {g : Nat → Nat → Rt} {b0 p : Nat} {n : Int} (hb : b0 < p) (h0 : h.get b0 = some ⟨45, true, rowsV p N N⟩) (hr : ∀ i r, (rowsM N g)[i]? = some r → h.get (i + p) = some ⟨47, true, r⟩) :
    LentEnd E 0 (.tuple #[.slice (some ⟨0, 0, none⟩) N N, .int .i64 n]) (tA N g) (.tuple #[.slice (some ⟨b0, 0, none⟩) N N, .int .i64 n]) h := by
  refine ⟨rlM N b0 p, rlM_nodup hb, rfl, BlksI.of (by rw [rlM_len, tA_len]) (fun b x k h1 h2 => ?_), .tuple _ _ rfl rfl (.cons (.un rfl (okV_sl (by rw [tA_len]; omega))) (.cons (.un rfl rfl) .nil))⟩
  have hok := tA_ok h1
  have hbk := rlM_ok h0 hr
  obtain ⟨_, hat⟩ := hbk.at
  obtain ⟨k', old, e1, e2, e3, e4⟩ := hat b x h1
  rw [h2] at e1
  obtain rfl := Option.some.inj e1
  refine ⟨old, e2, ?_⟩
  have := toldC_map (E := E) (h := h.less (rlM N b0 p)) (rl := rlM N b0 p) e4
  rwa [← e3] at this
theorem round18L (N x : Nat) (ls : List Lk) (f : Nat → Nat → Rt) (poison : Bool) (hN : 1 ≤ N ∧ N ≤ 20) (hl : ∀ l ∈ ls, okLk N l) (hz : ls.length ≤ 17592186044416) (hf : ∀ i j, i < N → j < N → 0 ≤ (f i j).1 ∧ (f i j).1 ≤ 16) (ht : Fun E 40 [netV N x ls, tabM 45 47 N f] (.bool true)) :
    Lent E 18 [netV N x ls, tabM 45 47 N f, .bool poison] [] (.tuple #[.slice (some ⟨0, 0, none⟩) N N, .int .i64 0]) (tA N (roundF N (cAt ls) poison f)) := by
  have c1 := round42 N x ls f poison hN hl hz hf
  refine Lent.of f18 rfl (of_decide_eq_true (by kernel_rfl)) rfl (by simp [tA, List.all_map, rowB, rowsM]) (Nat.zero_le _) ?_ ?_ ?_ ?_
  · rw [tabM_eq]
    rfl
  · rw [List.all_eq_true]
    intro y hy
    obtain ⟨b, hb, rfl⟩ := List.getElem_of_mem hy
    exact tA_ok (List.getElem?_eq_getElem hb)
  · show (decide (0 < (tA N (roundF N (cAt ls) poison f)).length) && (true && true)) = true
    rw [tA_len]
    simp
  generalize roundF N (cAt ls) poison f = g at c1 ⊢
  rw [tabM_eq] at *
  unfold netV at c1 ht ⊢
  unfold lks at c1 ht ⊢
  unfold matF at *
  refine Wp.seq (Wp.text ?_)
  refine md 3 (.pointer (some ⟨0, 0, none⟩)) (Blk.mk 24 true [Value.int .i64 (↑N : Int), Value.iface 48 (Value.iface (List.length ls) (Value.iface x (Value.agg (List.toArray (lcs ls)))))]) ?_
  refine kp 6 (.slice none 0 0) ?_
  refine kp 7 (.int IntKind.i64 0) ?_
  refine WpOps.nil (thenK_at (Wp.seq (Wp.seq (Wp.text ?_))))
  refine kp 8 (.agg #[Value.int .i64 (↑N : Int), Value.iface 48 (Value.iface (List.length ls) (Value.iface x (Value.agg (List.toArray (lcs ls)))))]) ?_
  refine kp 9 (.iface 45 (Value.iface N (Value.iface 0 (Value.agg (List.toArray (List.map (fun r => FS 47 N 0 (List.toArray r)) (rowsM N f))))))) ?_
  refine fr 10 40 [Value.agg #[Value.int .i64 (↑N : Int), Value.iface 48 (Value.iface (List.length ls) (Value.iface x (Value.agg (List.toArray (lcs ls)))))], Value.iface 45 (Value.iface N (Value.iface 0 (Value.agg (List.toArray (List.map (fun r => FS 47 N 0 (List.toArray r)) (rowsM N f))))))] ?_
  refine WpFun.of (ht) ?_
  refine kp 11 (.bool false) ?_
  refine WpOps.nil (thenK_at (off' (Wp.skip (thenK_at (Wp.seq (Wp.text ?_))))))
  refine kp 12 (.agg #[Value.int .i64 (↑N : Int), Value.iface 48 (Value.iface (List.length ls) (Value.iface x (Value.agg (List.toArray (lcs ls)))))]) ?_
  refine kp 13 (.iface 45 (Value.iface N (Value.iface 0 (Value.agg (List.toArray (List.map (fun r => FS 47 N 0 (List.toArray r)) (rowsM N f))))))) ?_
  refine kp 14 (.bool poison) ?_
  refine cl 15 42 [Value.agg #[Value.int .i64 (↑N : Int), Value.iface 48 (Value.iface (List.length ls) (Value.iface x (Value.agg (List.toArray (lcs ls)))))], Value.iface 45 (Value.iface N (Value.iface 0 (Value.agg (List.toArray (List.map (fun r => FS 47 N 0 (List.toArray r)) (rowsM N f)))))), Value.bool poison] ?_
  refine WpCall.freshM c1 rowsM_len (fun r hr => rowsM_flat hr) (fun h2 hn hk h0 hr => ?_)
  refine kp 6 (.slice (some ⟨1, 0, none⟩) N N) ?_
  refine kp 7 (.int IntKind.i64 0) ?_
  refine WpOps.nil (thenK_at (Wp.ret ?_))
  refine endK_retn [Value.slice (some (Addr.mk 1 0 none)) N N, Value.int IntKind.i64 0] (Value.tuple #[Value.slice (some (Addr.mk 1 0 none)) N N, Value.int IntKind.i64 0]) (by kernel_rfl) (by kernel_rfl) ?_
  exact lentMT (b0 := 1) (p := 2) (by omega) h0 hr
theorem kView {n a b0 p N : Nat} {s : Slots} {h : Heap} {X0 X1 : Blk} {g : Nat → Nat → Rt} {l : List (Nat × Value)} (h0 : h.get 0 = some X0) (hf0 : X0.cells.all flat = true) (h1 : h.get a = some X1) (hf1 : X1.cells.all flat = true) (h2 : h.get b0 = some ⟨45, true, rowsV p N N⟩)
    (hr : ∀ i r, (rowsM N g)[i]? = some r → h.get (i + p) = some ⟨47, true, r⟩) (ha : 0 < a) (hab : a < b0) (hbp : b0 < p) (hs : SlotsOk (0 :: a :: rlM N b0 p) (3 + N) s l) : View 0 E n s h (layj l) (mH [X0, X1, ⟨45, true, rowsV 3 N N⟩] 47 (rowsM N g)) := by
  have hlen : ([X0, X1, (⟨45, true, rowsV 3 N N⟩ : Blk)] ++ (rowsM N g).map (rowB 47)).length = 3 + N := by rw [List.length_append, List.length_map, rowsM_len]; rfl
  refine View.of (0 :: a :: rlM N b0 p) ([X0, X1, ⟨45, true, rowsV 3 N N⟩] ++ (rowsM N g).map (rowB 47)) l ?_ rfl (BlksOk.of (by rw [hlen]; simp [rlM_len]; omega) fun b x k g1 g2 => ?_) (by rw [hlen]; exact hs)
  · have hm : ∀ q, q ∈ rlM N b0 p → b0 ≤ q := fun q hq => by
      unfold rlM at hq
      rcases List.mem_cons.1 hq with rfl | hq
      · exact Nat.le_refl _
      · obtain ⟨i, _, rfl⟩ := List.mem_map.1 hq
        omega
    rw [List.nodup_cons, List.nodup_cons]
    refine ⟨fun hq => ?_, fun hq => ?_, rlM_nodup hbp⟩
    · rcases List.mem_cons.1 hq with e | hq
      · omega
      · have := hm _ hq
        omega
    · have := hm _ hq
      omega
  · rw [hlen]
    match b, g1, g2 with
    | 0, g1, g2 =>
      obtain rfl := Option.some.inj g1
      obtain rfl := Option.some.inj g2
      exact ⟨_, h0, CellsOk.eq rfl hf0⟩
    | 1, g1, g2 =>
      obtain rfl := Option.some.inj g1
      obtain rfl := Option.some.inj g2
      exact ⟨_, h1, CellsOk.eq rfl hf1⟩
    | 2, g1, g2 =>
      obtain rfl := Option.some.inj g1
      obtain rfl := Option.some.inj g2
      refine ⟨_, h2, ?_, rowsV_ok (by omega)⟩
      unfold rowsV
      rw [List.map_map]
      refine (List.map_congr_left fun i hi => ?_).symm
      rw [List.mem_range] at hi
      show Value.slice (some (unA _ _)) N N = _
      simp [unA, rlM, hi]
    | b + 3, g1, g2 =>
      have g1' : ((rowsM N g).map (rowB 47))[b]? = some x := g1
      have g2' : ((List.range N).map (· + p))[b]? = some k := g2
      rw [List.getElem?_map] at g1' g2'
      obtain ⟨r, e1, rfl⟩ := Option.map_eq_some_iff.1 g1'
      obtain ⟨i, e2, rfl⟩ := Option.map_eq_some_iff.1 g2'
      have hlt : b < N := by
        have := (List.getElem?_eq_some_iff.1 e1).1
        rwa [rowsM_len] at this
      obtain rfl : b = i := by simpa [hlt] using e2
      exact ⟨r, hr b r e1, CellsOk.eq rfl (rowsM_flat (List.mem_of_getElem? e1))⟩
theorem vView {n N : Nat} {s : Slots} {h : Heap} {X0 X1 : Blk} {g : Nat → Nat → Rt} {l : List (Nat × Value)} (hf0 : X0.cells.all flat = true) (hf1 : X1.cells.all flat = true) (h0 : h.get 0 = some X0) (h1 : h.get 1 = some X1) (h2 : h.get 2 = some ⟨45, true, rowsV 3 N N⟩) (hr : ∀ i, i < N → h.get (i + 3) = some ⟨47, true, rcs ((List.range N).map (g i))⟩) (hs : SlotsId (3 + N) s l) : View 0 E n s h (layj l) (mH [X0, X1, ⟨45, true, rowsV 3 N N⟩] 47 (rowsM N g)) := by
  have hl : [X0, X1, (⟨45, true, rowsV 3 N N⟩ : Blk)].length + (rowsM N g).length = 3 + N := by rw [rowsM_len]; rfl
  refine View.mat [X0, X1, ⟨45, true, rowsV 3 N N⟩] 47 (rowsM N g) l (Nat.zero_le _) (pre3 ⟨h0, okCs_flat hf0⟩ ⟨h1, okCs_flat hf1⟩ ⟨h2, rowsV_ok (by rw [hl]; exact Nat.le_refl _)⟩) (fun i r h2 => ?_) (by rw [hl]; exact hs)
  have hi : i < N := by
    have := (List.getElem?_eq_some_iff.1 h2).1
    rwa [rowsM_len] at this
  refine ⟨?_, okCs_flat (rowsM_flat (List.mem_of_getElem? h2))⟩
  rw [rowsM_at hi] at h2
  obtain rfl := Option.some.inj h2
  exact hr i hi
theorem v_row {N : Nat} {X0 X1 : Blk} {g : Nat → Nat → Rt} {i : Nat} (h : i < N) : (mH [X0, X1, ⟨45, true, rowsV 3 N N⟩] 47 (rowsM N g)).get (i + 3) = some ⟨47, true, rcs ((List.range N).map (g i))⟩ := mH_row (pre := [X0, X1, ⟨45, true, rowsV 3 N N⟩]) (rowsM_at h)
theorem sl_eq {v : Value} {n m b a : Nat} {rl : List Nat} (h : v = .slice (some ⟨b, 0, none⟩) n n) (e : n = m) (hb : rl.getD a 0 = b) : v = unV rl (.slice (some ⟨a, 0, none⟩) m m) := by
  subst e hb
  exact h
/-! ## the law -/
theorem f5 : E.funcs 5 = some Try.f5 := by kernel_rfl
set_option maxHeartbeats 8000000 in
theorem law5_ok (n x : Nat) (ls : List Lk) (f : Nat → Nat → Rt) (poison : Bool) (hl0 : 0 < ls.length) (hy : ls.length * 24 ≤ 140737488351232) (g : Good n ls) (gt : GoodT n f) (t1 : Fun E 40 [netV n x ls, tabM 45 47 n f] (.bool true)) (t3 : Fun E 15 [tabM 45 47 n f] (tabM 92 93 n f)) : Fun E 5 [netV n x ls, tabM 45 47 n f, .bool poison] (.bool true) := by
  have c0 := sane17
  have hN := g.hN
  have cL := round18L n x ls f poison g.hN g.hl (by omega) gt.range t1
  have cF2 := round18_ok n x ls f poison g.hN g.hl (by omega) gt.range t1
  clear t1
  generalize roundF n (cAt ls) poison f = R at cL cF2
  have c15 := tables15L n R g.hN
  rw [tabT_M n R hN.1] at c15
  have c16 := same16 n R R g.hN
  rw [eqT_self] at c16
  have c20 := same20 n f f g.hN
  rw [eqT_self] at c20
  have d0 : ((0 : Int) == 0) = true := rfl
  have b1 : ¬ (0 + ls.length ≤ 0) := by omega
  have b2 : 1 ≤ 24 ∧ (0 + ls.length) * 24 ≤ 140737488355328 ∧ 3 = 3 ∧ 0 + ls.length ≤ 9223372036854775807 := by omega
  have b3 : ls.length ≠ 0 := by omega
  have hfl := lcs_flat ls
  have hne : ∀ k, k < ls.length → ∀ l : Lk, (!((l.1 == l.1) && ((l.2.1 == l.2.1) && ((l.2.2 == l.2.2) && true)))) = false := fun _ _ l => by simp
  refine Fun.of f5 rfl (of_decide_eq_true (by kernel_rfl)) rfl ?_
  unfold netV lks at *
  rw [tabM_eq, tabM_eq] at *
  have hcF := And.intro cF2 trivial
  clear cF2
  unfold matF at *
  refine Wp.seq (Wp.text ?_)
  refine md 3 (.pointer (some ⟨0, 0, none⟩)) (Blk.mk 24 true [Value.int .i64 (↑n : Int), Value.iface 48 (Value.iface (List.length ls) (Value.iface x (Value.agg (List.toArray (lcs ls)))))]) ?_
  refine kp 6 (.bool false) ?_
  refine WpOps.nil (thenK_at (Wp.seq (Wp.text ?_)))
  refine md 17 (.slice (some ⟨1, 0, none⟩) 0 0) (Blk.mk 48 true []) ?_
  refine kp 18 (.pointer (some ⟨0, 1, none⟩)) ?_
  refine kp 19 (.iface 48 (Value.iface (List.length ls) (Value.iface x (Value.agg (List.toArray (lcs ls)))))) ?_
  refine ra 20 (.slice (some ⟨2, 0, none⟩) (0 + List.length ls) (0 + List.length ls)) (1) (Blk.mk 48 true ([] ++ Array.toList (List.toArray (lcs ls)))) ?_ (hop := fun _ => o_append (e := 48) (1) (0) (0) _ (0) b1 b2)
  refine kp 7 (.slice (some ⟨2, 0, none⟩) (0 + List.length ls) (0 + List.length ls)) ?_
  refine WpOps.nil (thenK_at (Wp.seq (Wp.text ?_)))
  refine kp 21 (.iface 45 (Value.iface n (Value.iface 0 (Value.agg (List.toArray (List.map (fun r => FS 47 n 0 (List.toArray r)) (rowsM n f))))))) ?_
  refine cl 22 15 [Value.iface 45 (Value.iface n (Value.iface 0 (Value.agg (List.toArray (List.map (fun r => FS 47 n 0 (List.toArray r)) (rowsM n f))))))] ?_
  refine WpCall.consume [0, 1, 2] (t3) (by kernel_rfl) (by kernel_rfl) ?_
  refine kp 8 (.iface 92 (Value.iface n (Value.iface 0 (Value.agg (List.toArray (List.map (fun r => FS 93 n 0 (List.toArray r)) (rowsM n f))))))) ?_
  refine WpOps.nil (thenK_at (Wp.seq (Wp.text ?_)))
  refine kp 24 (.agg #[Value.int .i64 (↑n : Int), Value.iface 48 (Value.iface (List.length ls) (Value.iface x (Value.agg (List.toArray (lcs ls)))))]) ?_
  refine kp 25 (.iface 45 (Value.iface n (Value.iface 0 (Value.agg (List.toArray (List.map (fun r => FS 47 n 0 (List.toArray r)) (rowsM n f))))))) ?_
  refine kp 26 (.bool poison) ?_
  refine cl 27 18 [Value.agg #[Value.int .i64 (↑n : Int), Value.iface 48 (Value.iface (List.length ls) (Value.iface x (Value.agg (List.toArray (lcs ls)))))], Value.iface 45 (Value.iface n (Value.iface 0 (Value.agg (List.toArray (List.map (fun r => FS 47 n 0 (List.toArray r)) (rowsM n f)))))), Value.bool poison] ?_
  refine freshT cL rowsM_len (fun r hr => rowsM_flat hr) 3 rfl (fun h2 hn hk h0 hr => ?_)
  have n0 : h2.get 0 = some ⟨24, true, [.int .i64 n, lks x ls]⟩ := hk 0 (by decide)
  have n1 : h2.get 2 = some ⟨48, true, lcs ls⟩ := hk 2 (by decide)
  have h0' : h2.get 3 = some ⟨45, true, rowsV 4 n n⟩ := h0
  have hr' : ∀ i r, (rowsM n R)[i]? = some r → h2.get (i + 4) = some ⟨47, true, r⟩ := hr
  clear h0 hr hk hn
  refine kp 23 (.tuple #[Value.slice (some ⟨3, 0, none⟩) n n, Value.int .i64 0]) ?_
  refine kp 28 (.slice (some ⟨3, 0, none⟩) n n) ?_
  refine kp 29 (.int IntKind.i64 0) ?_
  refine kp 9 (.slice (some ⟨3, 0, none⟩) n n) ?_
  refine kp 10 (.int IntKind.i64 0) ?_
  refine WpOps.nil (thenK_at (Wp.seq (Wp.text ?_)))
  refine kp 30 (.slice (some ⟨3, 0, none⟩) n n) ?_
  refine cl 31 15 [Value.slice (some ⟨3, 0, none⟩) n n] ?_
  refine lentS (rlM n 3 4) c15 (rlM_nodup (by omega)) (by rw [rlM_len, tA_len]) (rlM_ok h0' hr') (by simp [unV, unC, unA, rlM]) ?_
  refine kp 11 (.iface 92 (Value.iface n (Value.iface 0 (Value.agg (List.toArray (List.map (fun r => FS 93 n 0 (List.toArray r)) (rowsM n R))))))) ?_
  refine WpOps.nil (thenK_at (Wp.seq (Wp.seq (Wp.text ?_))))
  refine kp 12 (.int IntKind.i64 0) ?_
  refine WpOps.nil (thenK_at (Wp.block ?_))
  refine Wp.loop (G := Nat) (fun i => layj [(1, matF 45 47 n (rowsM n f)), (2, .bool poison), (3, .pointer (some ⟨0, 0, none⟩)), (7, .slice (some ⟨1, 0, none⟩) (ls.length) (ls.length)), (8, matF 92 93 n (rowsM n f)), (9, .slice (some ⟨2, 0, none⟩) n n), (10, .int .i64 0), (11, matF 92 93 n (rowsM n R)), (12, .int .i64 i)]) (fun i => mH [⟨24, true, [.int .i64 n, lks x ls]⟩, ⟨48, true, lcs ls⟩, ⟨45, true, rowsV 3 n n⟩] 47 (rowsM n (gM (fun _ _ => ((-1 : Int), (-7 : Int))) R i 0))) (fun i => n - i) (fun i => i ≤ n) 0 ?_ (Nat.zero_le _) ?_
  · rw [gM_zero]
    exact kView (a := 2) (b0 := 3) (p := 4) n0 rfl n1 (lcs_flat _) h0' hr' (by omega) (by omega) (by omega) ⟨⟨by kernel_rfl, rfl⟩, ⟨by kernel_rfl, rfl⟩, ⟨by kernel_rfl, okV_ptr (by omega)⟩, ⟨sl_eq (n := 0 + ls.length) (b := 2) (by kernel_rfl) (Nat.zero_add _) rfl, okV_sl (by omega)⟩, ⟨by kernel_rfl, rfl⟩, ⟨by kernel_rfl, okV_sl (by omega)⟩, ⟨by kernel_rfl, rfl⟩, ⟨by kernel_rfl, rfl⟩, ⟨by kernel_rfl, rfl⟩, trivial⟩
  clear n0 n1 h0' hr' h2
  intro i hi
  by_cases hlt : i < n
  · have d1 : decide ((i : Int) < n) = true := decide_eq_true (by omega)
    have g1 : 0 ≤ (i : Int) ∧ (i : Int) < n := by omega
    have u1 : (rowsV 3 n n)[0 + (i : Int).toNat * 1]? = some (.slice (some ⟨i + 3, 0, none⟩) n n) := by
      rw [Int.toNat_natCast, Nat.zero_add, Nat.mul_one]
      exact rowsV_at hlt
    unfold matF
    refine Wp.seq (Wp.seq (Wp.text ?_))
    refine kp 32 (.int IntKind.i64 (↑i : Int)) ?_
    refine kp 33 (.slice (some ⟨2, 0, none⟩) n n) ?_
    refine kp 34 (.int IntKind.i64 (↑n : Int)) ?_
    refine kp 35 (.bool true) ?_ (hop := fun _ => by_fact d1)
    refine WpOps.nil (thenK_at (on' (Wp.skip (thenK_at (Wp.seq (Wp.block (Wp.seq (Wp.text ?_))))))))
    refine kp 13 (.int IntKind.i64 0) ?_
    refine WpOps.nil (thenK_at (Wp.block ?_))
    refine Wp.loop (G := Nat) (fun j => layj [(1, matF 45 47 n (rowsM n f)), (2, .bool poison), (3, .pointer (some ⟨0, 0, none⟩)), (7, .slice (some ⟨1, 0, none⟩) (ls.length) (ls.length)), (8, matF 92 93 n (rowsM n f)), (9, .slice (some ⟨2, 0, none⟩) n n), (10, .int .i64 0), (11, matF 92 93 n (rowsM n R)), (12, .int .i64 i), (13, .int .i64 j)]) (fun j => mH [⟨24, true, [.int .i64 n, lks x ls]⟩, ⟨48, true, lcs ls⟩, ⟨45, true, rowsV 3 n n⟩] 47 (rowsM n (gM (fun _ _ => ((-1 : Int), (-7 : Int))) R i j))) (fun j => n - j) (fun j => j ≤ n) 0
      (vView rfl (lcs_flat _) rfl rfl rfl (fun a ha => v_row ha) ⟨⟨by kernel_rfl, rfl⟩, ⟨by kernel_rfl, rfl⟩, ⟨by kernel_rfl, okV_ptr (by omega)⟩, ⟨by kernel_rfl, okV_sl (by omega)⟩, ⟨by kernel_rfl, rfl⟩, ⟨by kernel_rfl, okV_sl (by omega)⟩, ⟨by kernel_rfl, rfl⟩, ⟨by kernel_rfl, rfl⟩, ⟨by kernel_rfl, rfl⟩, ⟨by kernel_rfl, rfl⟩, trivial⟩) (Nat.zero_le _) ?_
    intro j hj
    unfold matF
    by_cases hlt2 : j < n
    · have d2 : decide ((j : Int) < n) = true := decide_eq_true (by omega)
      have g2 : 0 ≤ (j : Int) ∧ (j : Int) < n := by omega
      have nr := v_row (X0 := ⟨24, true, [.int .i64 n, lks x ls]⟩) (X1 := ⟨48, true, lcs ls⟩) (g := gM (fun _ _ => ((-1 : Int), (-7 : Int))) R i j) hlt
      have x2 : 2 ≠ i + 3 := by omega
      have q1 : true = true ∧ 0 + (j : Int).toNat * 2 + 2 ≤ (rcs ((List.range n).map (gM (fun _ _ => ((-1 : Int), (-7 : Int))) R i j i))).length := ⟨rfl, by rw [rcs_len, List.length_map, List.length_range]; simp; omega⟩
      refine Wp.seq (Wp.seq (Wp.text ?_))
      refine kp 38 (.int IntKind.i64 (↑j : Int)) ?_
      refine kp 39 (.slice (some ⟨2, 0, none⟩) n n) ?_
      refine kp 40 (.int IntKind.i64 (↑i : Int)) ?_
      refine kp 41 (.pointer (some (Addr.mk 2 (0 + Int.toNat (↑i : Int) * 1) none))) ?_ (hop := fun _ => o_indexAddr (a := (↑i : Int)) (bl := 2) (off := 0) (size := 1) 45 (n) g1)
      refine kp 42 (.slice (some (Addr.mk (i + 3) 0 none)) n n) ?_ (hop := fun _ => o_load1 (2) (0 + Int.toNat (↑i : Int) * 1) u1)
      refine kp 43 (.int IntKind.i64 (↑n : Int)) ?_
      refine kp 44 (.bool true) ?_ (hop := fun _ => by_fact d2)
      refine WpOps.nil (thenK_at (on' (Wp.skip (thenK_at (Wp.seq (Wp.block (Wp.text ?_)))))))
      refine kp 47 (.slice (some ⟨2, 0, none⟩) n n) ?_
      refine kp 48 (.int IntKind.i64 (↑i : Int)) ?_
      refine kp 49 (.pointer (some (Addr.mk 2 (0 + Int.toNat (↑i : Int) * 1) none))) ?_ (hop := fun _ => o_indexAddr (a := (↑i : Int)) (bl := 2) (off := 0) (size := 1) 45 (n) g1)
      refine kp 50 (.slice (some (Addr.mk (i + 3) 0 none)) n n) ?_ (hop := fun _ => o_load1 (2) (0 + Int.toNat (↑i : Int) * 1) u1)
      refine kp 51 (.int IntKind.i64 (↑j : Int)) ?_
      refine kp 52 (.agg #[Value.int .i64 (-1), Value.int .i64 (-7)]) ?_
      refine kp 53 (.pointer (some (Addr.mk (i + 3) (0 + Int.toNat (↑j : Int) * 2) none))) ?_ (hop := fun _ => o_indexAddr (a := (↑j : Int)) (bl := i + 3) (off := 0) (size := 2) 47 (n) g2)
      refine ld (.tuple #[]) (i + 3) (Blk.mk 47 true (List.set (List.set (rcs (List.map (gM (fun x x_1 => (-1, -7)) R i j i) (List.range n))) (0 + Int.toNat (↑j : Int) * 2) (Value.int .i64 (-1))) (0 + Int.toNat (↑j : Int) * 2 + 1) (Value.int .i64 (-7)))) ?_ (hop := fun _ => o_storeH (v := Value.agg #[Value.int IntKind.i64 (-1), Value.int IntKind.i64 (-7)]) (xs := [Value.int IntKind.i64 (-1), Value.int IntKind.i64 (-7)]) (i + 3) (0 + Int.toNat (↑j : Int) * 2) nr q1)
      refine WpOps.nil (blockK_norm (thenK_at (Wp.text ?_)))
      refine kp 45 (.int IntKind.i64 (↑j : Int)) ?_
      refine kp 46 (.int IntKind.i64 (IntKind.wrap .i64 ((↑j : Int) + 1))) ?_
      refine kp 13 (.int IntKind.i64 (IntKind.wrap .i64 ((↑j : Int) + 1))) ?_
      refine WpOps.nil (thenK_at ?_)
      refine ⟨j + 1, by omega, by omega, ?_⟩
      refine vView rfl (lcs_flat _) ?_ ?_ ?_ (fun a ha => ?_) ⟨⟨by kernel_rfl, rfl⟩, ⟨by kernel_rfl, rfl⟩, ⟨by kernel_rfl, okV_ptr (by omega)⟩, ⟨by kernel_rfl, okV_sl (by omega)⟩, ⟨by kernel_rfl, rfl⟩, ⟨by kernel_rfl, okV_sl (by omega)⟩, ⟨by kernel_rfl, rfl⟩, ⟨by kernel_rfl, rfl⟩, ⟨by kernel_rfl, rfl⟩, ⟨congrArg (Value.int .i64) (wr _ (by omega) (by omega)), rfl⟩, trivial⟩
      · rw [Heap.get_set, if_neg (by omega)]
        rfl
      · rw [Heap.get_set, if_neg (by omega)]
        rfl
      · rw [Heap.get_set, if_neg (by omega)]
        rfl
      · rw [Heap.get_set]
        by_cases e : a = i
        · subst e
          rw [if_pos rfl, Int.toNat_natCast, Nat.zero_add, rcs_set, ← gM_set n (fun _ _ => ((-1 : Int), (-7 : Int))) R]
        · rw [if_neg (by omega), v_row ha, gM_row _ _ e]
    · obtain rfl : n = j := by omega
      have d2 : decide ((n : Int) < n) = false := decide_eq_false (by omega)
      refine Wp.seq (Wp.seq (Wp.text ?_))
      refine kp 38 (.int IntKind.i64 (↑n : Int)) ?_
      refine kp 39 (.slice (some ⟨2, 0, none⟩) n n) ?_
      refine kp 40 (.int IntKind.i64 (↑i : Int)) ?_
      refine kp 41 (.pointer (some (Addr.mk 2 (0 + Int.toNat (↑i : Int) * 1) none))) ?_ (hop := fun _ => o_indexAddr (a := (↑i : Int)) (bl := 2) (off := 0) (size := 1) 45 (n) g1)
      refine kp 42 (.slice (some (Addr.mk (i + 3) 0 none)) n n) ?_ (hop := fun _ => o_load1 (2) (0 + Int.toNat (↑i : Int) * 1) u1)
      refine kp 43 (.int IntKind.i64 (↑n : Int)) ?_
      refine kp 44 (.bool false) ?_ (hop := fun _ => by_fact d2)
      refine WpOps.nil (thenK_at (off' (Wp.exit (thenK_exit (thenK_exit (blockK_hit (blockK_norm (thenK_at (Wp.text ?_)))))))))
      refine kp 36 (.int IntKind.i64 (↑i : Int)) ?_
      refine kp 37 (.int IntKind.i64 (IntKind.wrap .i64 ((↑i : Int) + 1))) ?_
      refine kp 12 (.int IntKind.i64 (IntKind.wrap .i64 ((↑i : Int) + 1))) ?_
      refine WpOps.nil (thenK_at ?_)
      refine ⟨i + 1, by omega, by omega, ?_⟩
      unfold mH
      rw [← gM_next]
      exact vView rfl (lcs_flat _) rfl rfl rfl (fun a ha => v_row (X0 := ⟨24, true, [.int .i64 n, lks x ls]⟩) (X1 := ⟨48, true, lcs ls⟩) ha) ⟨⟨by kernel_rfl, rfl⟩, ⟨by kernel_rfl, rfl⟩, ⟨by kernel_rfl, okV_ptr (by omega)⟩, ⟨by kernel_rfl, okV_sl (by omega)⟩, ⟨by kernel_rfl, rfl⟩, ⟨by kernel_rfl, okV_sl (by omega)⟩, ⟨by kernel_rfl, rfl⟩, ⟨by kernel_rfl, rfl⟩, ⟨congrArg (Value.int .i64) (wr _ (by omega) (by omega)), rfl⟩, trivial⟩
  · obtain rfl : n = i := by omega
    have d1 : decide ((n : Int) < n) = false := decide_eq_false (by omega)
    obtain ⟨cF2, _⟩ := hcF
    unfold matF
    refine Wp.seq (Wp.seq (Wp.text ?_))
    refine kp 32 (.int IntKind.i64 (↑n : Int)) ?_
    refine kp 33 (.slice (some ⟨2, 0, none⟩) n n) ?_
    refine kp 34 (.int IntKind.i64 (↑n : Int)) ?_
    refine kp 35 (.bool false) ?_ (hop := fun _ => by_fact d1)
    refine WpOps.nil (thenK_at (off' (Wp.exit (thenK_exit (thenK_exit (blockK_hit (thenK_at (Wp.seq (Wp.text ?_)))))))))
    refine kp 55 (.agg #[Value.int .i64 (↑n : Int), Value.iface 48 (Value.iface (List.length ls) (Value.iface x (Value.agg (List.toArray (lcs ls)))))]) ?_
    refine kp 56 (.iface 45 (Value.iface n (Value.iface 0 (Value.agg (List.toArray (List.map (fun r => FS 47 n 0 (List.toArray r)) (rowsM n f))))))) ?_
    refine kp 57 (.bool poison) ?_
    refine cl 58 18 [Value.agg #[Value.int .i64 (↑n : Int), Value.iface 48 (Value.iface (List.length ls) (Value.iface x (Value.agg (List.toArray (lcs ls)))))], Value.iface 45 (Value.iface n (Value.iface 0 (Value.agg (List.toArray (List.map (fun r => FS 47 n 0 (List.toArray r)) (rowsM n f)))))), Value.bool poison] ?_
    refine WpCall.anyH cF2 (by kernel_rfl) ?_
    refine kp 54 (.tuple #[FS 45 n 0 (List.toArray (List.map (fun r => FS 47 n 0 (List.toArray r)) (rowsM n R))), Value.int .i64 0]) ?_
    refine kp 59 (.iface 45 (Value.iface n (Value.iface 0 (Value.agg (List.toArray (List.map (fun r => FS 47 n 0 (List.toArray r)) (rowsM n R))))))) ?_
    refine kp 60 (.int IntKind.i64 0) ?_
    refine kp 14 (.iface 45 (Value.iface n (Value.iface 0 (Value.agg (List.toArray (List.map (fun r => FS 47 n 0 (List.toArray r)) (rowsM n R))))))) ?_
    refine kp 15 (.int IntKind.i64 0) ?_
    refine WpOps.nil (thenK_at (Wp.seq (Wp.seq (Wp.text ?_))))
    refine kp 16 (.int IntKind.i64 0) ?_
    refine WpOps.nil (thenK_at (Wp.block ?_))
    refine Wp.loop (G := Nat) (fun k => layj [(1, matF 45 47 n (rowsM n f)), (3, .pointer (some ⟨0, 0, none⟩)), (7, .slice (some ⟨1, 0, none⟩) (ls.length) (ls.length)), (8, matF 92 93 n (rowsM n f)), (10, .int .i64 0), (11, matF 92 93 n (rowsM n R)), (14, matF 45 47 n (rowsM n R)), (15, .int .i64 0), (16, .int .i64 k)]) (fun _ => heapOf [⟨24, true, [.int .i64 n, lks x ls]⟩, ⟨48, true, lcs ls⟩]) (fun k => ls.length - k) (fun k => k ≤ ls.length) 0
      (View.same [⟨24, true, [.int .i64 n, lks x ls]⟩, ⟨48, true, lcs ls⟩] _ (Nat.zero_le _) (pre2 ⟨rfl, okCs_flat rfl⟩ ⟨rfl, okCs_flat (lcs_flat _)⟩) ⟨⟨by kernel_rfl, rfl⟩, ⟨by kernel_rfl, okV_ptr (show 0 < 2 by decide)⟩, ⟨by kernel_rfl, okV_sl (show 1 < 2 by decide)⟩, ⟨by kernel_rfl, rfl⟩, ⟨by kernel_rfl, rfl⟩, ⟨by kernel_rfl, rfl⟩, ⟨by kernel_rfl, rfl⟩, ⟨by kernel_rfl, rfl⟩, ⟨by kernel_rfl, rfl⟩, trivial⟩) (Nat.zero_le _) ?_
    intro k hk
    unfold matF lks
    by_cases hlt : k < ls.length
    · have d2 : decide ((k : Int) < ls.length) = true := decide_eq_true (by omega)
      have g2 : 0 ≤ (k : Int) ∧ (k : Int) < ls.length := by omega
      have v1 := lcs_cells ls k (0, 0, 0) hlt
      have v2 : cellsAt (lcs ls) (0 + (k : Int).toNat * 3) 3 = some (lc (ls.getD k (0, 0, 0))) := by
        rw [Nat.zero_add]
        exact v1
      have hk2 := hne k hlt (ls.getD k (0, 0, 0))
      generalize ls.getD k (0, 0, 0) = l at v1 v2 hk2
      unfold lc at v1 v2
      refine Wp.seq (Wp.seq (Wp.text ?_))
      refine kp 61 (.int IntKind.i64 (↑k : Int)) ?_
      refine kp 62 (.slice (some ⟨1, 0, none⟩) (List.length ls) (List.length ls)) ?_
      refine kp 63 (.int IntKind.i64 (↑(List.length ls) : Int)) ?_
      refine kp 64 (.bool true) ?_ (hop := fun _ => by_fact d2)
      refine WpOps.nil (thenK_at (on' (Wp.skip (thenK_at (Wp.seq (Wp.block (Wp.seq ?_)))))))
      refine Wp.region (by kernel_rfl) ?_
      refine kp 67 (.pointer (some ⟨0, 1, none⟩)) ?_
      refine kp 68 (.iface 48 (Value.iface (List.length ls) (Value.iface x (Value.agg (List.toArray (lcs ls)))))) ?_
      refine kp 69 (.int IntKind.i64 (↑k : Int)) ?_
      refine kp 70 (.iface 48 (Value.iface (Int.toNat (↑k : Int) * 3) (Value.agg (List.toArray (lcs ls))))) ?_ (hop := fun _ => o_indexI (e := 48) (size := 3) (a := (↑k : Int)) g2)
      refine kp 71 (.agg #[Value.int .i64 (Prod.fst l), Value.int .i64 (Prod.fst (Prod.snd l)), Value.int .i64 (Prod.snd (Prod.snd l))]) ?_ (hop := fun _ => o_loadIA (Int.toNat (↑k : Int) * 3) v1)
      refine kp 72 (.slice (some ⟨1, 0, none⟩) (List.length ls) (List.length ls)) ?_
      refine kp 73 (.int IntKind.i64 (↑k : Int)) ?_
      refine kp 74 (.pointer (some (Addr.mk 1 (0 + Int.toNat (↑k : Int) * 3) none))) ?_ (hop := fun _ => o_indexAddr (a := (↑k : Int)) (bl := 1) (off := 0) (size := 3) 48 (List.length ls) g2)
      refine kp 75 (.agg #[Value.int .i64 (Prod.fst l), Value.int .i64 (Prod.fst (Prod.snd l)), Value.int .i64 (Prod.snd (Prod.snd l))]) ?_ (hop := fun _ => o_loadA (1) (0 + Int.toNat (↑k : Int) * 3) v2)
      refine kp 76 (.bool false) ?_ (hop := fun _ => by_fact hk2)
      refine WpOps.nil (thenK_at (off' (Wp.skip (blockK_norm (thenK_at (Wp.text ?_))))))
      refine kp 65 (.int IntKind.i64 (↑k : Int)) ?_
      refine kp 66 (.int IntKind.i64 (IntKind.wrap .i64 ((↑k : Int) + 1))) ?_
      refine kp 16 (.int IntKind.i64 (IntKind.wrap .i64 ((↑k : Int) + 1))) ?_
      refine WpOps.nil (thenK_at ?_)
      exact ⟨k + 1, by omega, by omega, View.same [⟨24, true, [.int .i64 n, lks x ls]⟩, ⟨48, true, lcs ls⟩] _ (Nat.zero_le _) (pre2 ⟨rfl, okCs_flat rfl⟩ ⟨rfl, okCs_flat (lcs_flat _)⟩) ⟨⟨by kernel_rfl, rfl⟩, ⟨by kernel_rfl, okV_ptr (show 0 < 2 by decide)⟩, ⟨by kernel_rfl, okV_sl (show 1 < 2 by decide)⟩, ⟨by kernel_rfl, rfl⟩, ⟨by kernel_rfl, rfl⟩, ⟨by kernel_rfl, rfl⟩, ⟨by kernel_rfl, rfl⟩, ⟨by kernel_rfl, rfl⟩, ⟨congrArg (Value.int .i64) (wr _ (by omega) (by omega)), rfl⟩, trivial⟩⟩
    · obtain rfl : k = ls.length := by omega
      have d2 : decide (((ls.length : Nat) : Int) < ls.length) = false := decide_eq_false (by omega)
      refine Wp.seq (Wp.seq (Wp.text ?_))
      refine kp 61 (.int IntKind.i64 (↑(List.length ls) : Int)) ?_
      refine kp 62 (.slice (some ⟨1, 0, none⟩) (List.length ls) (List.length ls)) ?_
      refine kp 63 (.int IntKind.i64 (↑(List.length ls) : Int)) ?_
      refine kp 64 (.bool false) ?_ (hop := fun _ => by_fact d2)
      refine WpOps.nil (thenK_at (off' (Wp.exit (thenK_exit (thenK_exit (blockK_hit (thenK_at (Wp.seq (Wp.text ?_)))))))))
      refine kp 77 (.int IntKind.i64 0) ?_
      refine kp 78 (.int IntKind.i64 0) ?_
      refine kp 79 (.bool true) ?_
      refine kp 80 (.bool true) ?_
      refine kp 81 (.iface 45 (Value.iface n (Value.iface 0 (Value.agg (List.toArray (List.map (fun r => FS 47 n 0 (List.toArray r)) (rowsM n f))))))) ?_
      refine cl 82 15 [Value.iface 45 (Value.iface n (Value.iface 0 (Value.agg (List.toArray (List.map (fun r => FS 47 n 0 (List.toArray r)) (rowsM n f))))))] ?_
      refine WpCall.consume [0, 1] (t3) (by kernel_rfl) (by kernel_rfl) ?_
      refine kp 83 (.iface 92 (Value.iface n (Value.iface 0 (Value.agg (List.toArray (List.map (fun r => FS 93 n 0 (List.toArray r)) (rowsM n f))))))) ?_
      refine fr 84 20 [Value.iface 92 (Value.iface n (Value.iface 0 (Value.agg (List.toArray (List.map (fun r => FS 93 n 0 (List.toArray r)) (rowsM n f)))))), Value.iface 92 (Value.iface n (Value.iface 0 (Value.agg (List.toArray (List.map (fun r => FS 93 n 0 (List.toArray r)) (rowsM n f))))))] ?_
      refine WpFun.of (c20) ?_
      refine kp 85 (.bool true) ?_
      refine kp 86 (.bool true) ?_
      refine kp 87 (.iface 45 (Value.iface n (Value.iface 0 (Value.agg (List.toArray (List.map (fun r => FS 47 n 0 (List.toArray r)) (rowsM n R))))))) ?_
      refine kp 88 (.iface 92 (Value.iface n (Value.iface 0 (Value.agg (List.toArray (List.map (fun r => FS 93 n 0 (List.toArray r)) (rowsM n R))))))) ?_
      refine fr 89 16 [Value.iface 45 (Value.iface n (Value.iface 0 (Value.agg (List.toArray (List.map (fun r => FS 47 n 0 (List.toArray r)) (rowsM n R)))))), Value.iface 92 (Value.iface n (Value.iface 0 (Value.agg (List.toArray (List.map (fun r => FS 93 n 0 (List.toArray r)) (rowsM n R))))))] ?_
      refine WpFun.of (c16) ?_
      refine kp 90 (.bool true) ?_
      refine kp 91 (.bool true) ?_
      refine fr 92 17 [] ?_
      refine WpFun.of (c0) ?_
      refine kp 93 (.bool true) ?_
      refine kp 6 (.bool true) ?_
      refine WpOps.nil (thenK_at (Wp.ret ?_))
      refine endK_retn [Value.bool true] (Value.bool true) (by kernel_rfl) (by kernel_rfl) ?_
      rfl
set_option maxHeartbeats 8000000 in
theorem law5_nil (n x : Nat) (ls : List Lk) (f : Nat → Nat → Rt) (poison : Bool) (hl0 : ls = []) (hy : ls.length * 24 ≤ 140737488351232) (g : Good n ls) (gt : GoodT n f) (t1 : Fun E 40 [netV n x ls, tabM 45 47 n f] (.bool true)) (t3 : Fun E 15 [tabM 45 47 n f] (tabM 92 93 n f)) : Fun E 5 [netV n x ls, tabM 45 47 n f, .bool poison] (.bool true) := by
  have c0 := sane17
  have hN := g.hN
  have cL := round18L n x ls f poison g.hN g.hl (by omega) gt.range t1
  have cF2 := round18_ok n x ls f poison g.hN g.hl (by omega) gt.range t1
  clear t1
  generalize roundF n (cAt ls) poison f = R at cL cF2
  have c15 := tables15L n R g.hN
  rw [tabT_M n R hN.1] at c15
  have c16 := same16 n R R g.hN
  rw [eqT_self] at c16
  have c20 := same20 n f f g.hN
  rw [eqT_self] at c20
  have d0 : ((0 : Int) == 0) = true := rfl
  refine Fun.of f5 rfl (of_decide_eq_true (by kernel_rfl)) rfl ?_
  subst hl0
  rw [show netV n x [] = .agg #[.int .i64 n, FS 48 0 x #[]] from rfl] at *
  rw [tabM_eq, tabM_eq] at *
  have hcF := And.intro cF2 trivial
  clear cF2
  unfold matF at *
  refine Wp.seq (Wp.text ?_)
  refine md 3 (.pointer (some ⟨0, 0, none⟩)) (Blk.mk 24 true [Value.int .i64 (↑n : Int), Value.iface 48 (Value.iface 0 (Value.iface x (Value.agg #[])))]) ?_
  refine kp 6 (.bool false) ?_
  refine WpOps.nil (thenK_at (Wp.seq (Wp.text ?_)))
  refine md 17 (.slice (some ⟨1, 0, none⟩) 0 0) (Blk.mk 48 true []) ?_
  refine kp 18 (.pointer (some ⟨0, 1, none⟩)) ?_
  refine kp 19 (.iface 48 (Value.iface 0 (Value.iface x (Value.agg #[])))) ?_
  refine kp 20 (.slice (some ⟨1, 0, none⟩) 0 0) ?_
  refine kp 7 (.slice (some ⟨1, 0, none⟩) 0 0) ?_
  refine WpOps.nil (thenK_at (Wp.seq (Wp.text ?_)))
  refine kp 21 (.iface 45 (Value.iface n (Value.iface 0 (Value.agg (List.toArray (List.map (fun r => FS 47 n 0 (List.toArray r)) (rowsM n f))))))) ?_
  refine cl 22 15 [Value.iface 45 (Value.iface n (Value.iface 0 (Value.agg (List.toArray (List.map (fun r => FS 47 n 0 (List.toArray r)) (rowsM n f))))))] ?_
  refine WpCall.consume [0, 1] (t3) (by kernel_rfl) (by kernel_rfl) ?_
  refine kp 8 (.iface 92 (Value.iface n (Value.iface 0 (Value.agg (List.toArray (List.map (fun r => FS 93 n 0 (List.toArray r)) (rowsM n f))))))) ?_
  refine WpOps.nil (thenK_at (Wp.seq (Wp.text ?_)))
  refine kp 24 (.agg #[Value.int .i64 (↑n : Int), Value.iface 48 (Value.iface 0 (Value.iface x (Value.agg #[])))]) ?_
  refine kp 25 (.iface 45 (Value.iface n (Value.iface 0 (Value.agg (List.toArray (List.map (fun r => FS 47 n 0 (List.toArray r)) (rowsM n f))))))) ?_
  refine kp 26 (.bool poison) ?_
  refine cl 27 18 [Value.agg #[Value.int .i64 (↑n : Int), Value.iface 48 (Value.iface 0 (Value.iface x (Value.agg #[])))], Value.iface 45 (Value.iface n (Value.iface 0 (Value.agg (List.toArray (List.map (fun r => FS 47 n 0 (List.toArray r)) (rowsM n f)))))), Value.bool poison] ?_
  refine freshT cL rowsM_len (fun r hr => rowsM_flat hr) 2 rfl (fun h2 hn hk h0 hr => ?_)
  have n0 : h2.get 0 = some ⟨24, true, [.int .i64 n, FS 48 0 x #[]]⟩ := hk 0 (by decide)
  have n1 : h2.get 1 = some ⟨48, true, []⟩ := hk 1 (by decide)
  have h0' : h2.get 2 = some ⟨45, true, rowsV 3 n n⟩ := h0
  have hr' : ∀ i r, (rowsM n R)[i]? = some r → h2.get (i + 3) = some ⟨47, true, r⟩ := hr
  clear h0 hr hk hn
  refine kp 23 (.tuple #[Value.slice (some ⟨2, 0, none⟩) n n, Value.int .i64 0]) ?_
  refine kp 28 (.slice (some ⟨2, 0, none⟩) n n) ?_
  refine kp 29 (.int IntKind.i64 0) ?_
  refine kp 9 (.slice (some ⟨2, 0, none⟩) n n) ?_
  refine kp 10 (.int IntKind.i64 0) ?_
  refine WpOps.nil (thenK_at (Wp.seq (Wp.text ?_)))
  refine kp 30 (.slice (some ⟨2, 0, none⟩) n n) ?_
  refine cl 31 15 [Value.slice (some ⟨2, 0, none⟩) n n] ?_
  refine lentS (rlM n 2 3) c15 (rlM_nodup (by omega)) (by rw [rlM_len, tA_len]) (rlM_ok h0' hr') (by simp [unV, unC, unA, rlM]) ?_
  refine kp 11 (.iface 92 (Value.iface n (Value.iface 0 (Value.agg (List.toArray (List.map (fun r => FS 93 n 0 (List.toArray r)) (rowsM n R))))))) ?_
  refine WpOps.nil (thenK_at (Wp.seq (Wp.seq (Wp.text ?_))))
  refine kp 12 (.int IntKind.i64 0) ?_
  refine WpOps.nil (thenK_at (Wp.block ?_))
  refine Wp.loop (G := Nat) (fun i => layj [(1, matF 45 47 n (rowsM n f)), (2, .bool poison), (3, .pointer (some ⟨0, 0, none⟩)), (7, .slice (some ⟨1, 0, none⟩) (0) (0)), (8, matF 92 93 n (rowsM n f)), (9, .slice (some ⟨2, 0, none⟩) n n), (10, .int .i64 0), (11, matF 92 93 n (rowsM n R)), (12, .int .i64 i)]) (fun i => mH [⟨24, true, [.int .i64 n, FS 48 0 x #[]]⟩, ⟨48, true, []⟩, ⟨45, true, rowsV 3 n n⟩] 47 (rowsM n (gM (fun _ _ => ((-1 : Int), (-7 : Int))) R i 0))) (fun i => n - i) (fun i => i ≤ n) 0 ?_ (Nat.zero_le _) ?_
  · rw [gM_zero]
    exact kView (a := 1) (b0 := 2) (p := 3) n0 rfl n1 (rfl) h0' hr' (by omega) (by omega) (by omega) ⟨⟨by kernel_rfl, rfl⟩, ⟨by kernel_rfl, rfl⟩, ⟨by kernel_rfl, okV_ptr (by omega)⟩, ⟨by kernel_rfl, okV_sl (by omega)⟩, ⟨by kernel_rfl, rfl⟩, ⟨by kernel_rfl, okV_sl (by omega)⟩, ⟨by kernel_rfl, rfl⟩, ⟨by kernel_rfl, rfl⟩, ⟨by kernel_rfl, rfl⟩, trivial⟩
  clear n0 n1 h0' hr' h2
  intro i hi
  by_cases hlt : i < n
  · have d1 : decide ((i : Int) < n) = true := decide_eq_true (by omega)
    have g1 : 0 ≤ (i : Int) ∧ (i : Int) < n := by omega
    have u1 : (rowsV 3 n n)[0 + (i : Int).toNat * 1]? = some (.slice (some ⟨i + 3, 0, none⟩) n n) := by
      rw [Int.toNat_natCast, Nat.zero_add, Nat.mul_one]
      exact rowsV_at hlt
    unfold matF
    refine Wp.seq (Wp.seq (Wp.text ?_))
    refine kp 32 (.int IntKind.i64 (↑i : Int)) ?_
    refine kp 33 (.slice (some ⟨2, 0, none⟩) n n) ?_
    refine kp 34 (.int IntKind.i64 (↑n : Int)) ?_
    refine kp 35 (.bool true) ?_ (hop := fun _ => by_fact d1)
    refine WpOps.nil (thenK_at (on' (Wp.skip (thenK_at (Wp.seq (Wp.block (Wp.seq (Wp.text ?_))))))))
    refine kp 13 (.int IntKind.i64 0) ?_
    refine WpOps.nil (thenK_at (Wp.block ?_))
    refine Wp.loop (G := Nat) (fun j => layj [(1, matF 45 47 n (rowsM n f)), (2, .bool poison), (3, .pointer (some ⟨0, 0, none⟩)), (7, .slice (some ⟨1, 0, none⟩) (0) (0)), (8, matF 92 93 n (rowsM n f)), (9, .slice (some ⟨2, 0, none⟩) n n), (10, .int .i64 0), (11, matF 92 93 n (rowsM n R)), (12, .int .i64 i), (13, .int .i64 j)]) (fun j => mH [⟨24, true, [.int .i64 n, FS 48 0 x #[]]⟩, ⟨48, true, []⟩, ⟨45, true, rowsV 3 n n⟩] 47 (rowsM n (gM (fun _ _ => ((-1 : Int), (-7 : Int))) R i j))) (fun j => n - j) (fun j => j ≤ n) 0
      (vView rfl (rfl) rfl rfl rfl (fun a ha => v_row ha) ⟨⟨by kernel_rfl, rfl⟩, ⟨by kernel_rfl, rfl⟩, ⟨by kernel_rfl, okV_ptr (by omega)⟩, ⟨by kernel_rfl, okV_sl (by omega)⟩, ⟨by kernel_rfl, rfl⟩, ⟨by kernel_rfl, okV_sl (by omega)⟩, ⟨by kernel_rfl, rfl⟩, ⟨by kernel_rfl, rfl⟩, ⟨by kernel_rfl, rfl⟩, ⟨by kernel_rfl, rfl⟩, trivial⟩) (Nat.zero_le _) ?_
    intro j hj
    unfold matF
    by_cases hlt2 : j < n
    · have d2 : decide ((j : Int) < n) = true := decide_eq_true (by omega)
      have g2 : 0 ≤ (j : Int) ∧ (j : Int) < n := by omega
      have nr := v_row (X0 := ⟨24, true, [.int .i64 n, FS 48 0 x #[]]⟩) (X1 := ⟨48, true, []⟩) (g := gM (fun _ _ => ((-1 : Int), (-7 : Int))) R i j) hlt
      have x2 : 2 ≠ i + 3 := by omega
      have q1 : true = true ∧ 0 + (j : Int).toNat * 2 + 2 ≤ (rcs ((List.range n).map (gM (fun _ _ => ((-1 : Int), (-7 : Int))) R i j i))).length := ⟨rfl, by rw [rcs_len, List.length_map, List.length_range]; simp; omega⟩
      refine Wp.seq (Wp.seq (Wp.text ?_))
      refine kp 38 (.int IntKind.i64 (↑j : Int)) ?_
      refine kp 39 (.slice (some ⟨2, 0, none⟩) n n) ?_
      refine kp 40 (.int IntKind.i64 (↑i : Int)) ?_
      refine kp 41 (.pointer (some (Addr.mk 2 (0 + Int.toNat (↑i : Int) * 1) none))) ?_ (hop := fun _ => o_indexAddr (a := (↑i : Int)) (bl := 2) (off := 0) (size := 1) 45 (n) g1)
      refine kp 42 (.slice (some (Addr.mk (i + 3) 0 none)) n n) ?_ (hop := fun _ => o_load1 (2) (0 + Int.toNat (↑i : Int) * 1) u1)
      refine kp 43 (.int IntKind.i64 (↑n : Int)) ?_
      refine kp 44 (.bool true) ?_ (hop := fun _ => by_fact d2)
      refine WpOps.nil (thenK_at (on' (Wp.skip (thenK_at (Wp.seq (Wp.block (Wp.text ?_)))))))
      refine kp 47 (.slice (some ⟨2, 0, none⟩) n n) ?_
      refine kp 48 (.int IntKind.i64 (↑i : Int)) ?_
      refine kp 49 (.pointer (some (Addr.mk 2 (0 + Int.toNat (↑i : Int) * 1) none))) ?_ (hop := fun _ => o_indexAddr (a := (↑i : Int)) (bl := 2) (off := 0) (size := 1) 45 (n) g1)
      refine kp 50 (.slice (some (Addr.mk (i + 3) 0 none)) n n) ?_ (hop := fun _ => o_load1 (2) (0 + Int.toNat (↑i : Int) * 1) u1)
      refine kp 51 (.int IntKind.i64 (↑j : Int)) ?_
      refine kp 52 (.agg #[Value.int .i64 (-1), Value.int .i64 (-7)]) ?_
      refine kp 53 (.pointer (some (Addr.mk (i + 3) (0 + Int.toNat (↑j : Int) * 2) none))) ?_ (hop := fun _ => o_indexAddr (a := (↑j : Int)) (bl := i + 3) (off := 0) (size := 2) 47 (n) g2)
      refine ld (.tuple #[]) (i + 3) (Blk.mk 47 true (List.set (List.set (rcs (List.map (gM (fun x x_1 => (-1, -7)) R i j i) (List.range n))) (0 + Int.toNat (↑j : Int) * 2) (Value.int .i64 (-1))) (0 + Int.toNat (↑j : Int) * 2 + 1) (Value.int .i64 (-7)))) ?_ (hop := fun _ => o_storeH (v := Value.agg #[Value.int IntKind.i64 (-1), Value.int IntKind.i64 (-7)]) (xs := [Value.int IntKind.i64 (-1), Value.int IntKind.i64 (-7)]) (i + 3) (0 + Int.toNat (↑j : Int) * 2) nr q1)
      refine WpOps.nil (blockK_norm (thenK_at (Wp.text ?_)))
      refine kp 45 (.int IntKind.i64 (↑j : Int)) ?_
      refine kp 46 (.int IntKind.i64 (IntKind.wrap .i64 ((↑j : Int) + 1))) ?_
      refine kp 13 (.int IntKind.i64 (IntKind.wrap .i64 ((↑j : Int) + 1))) ?_
      refine WpOps.nil (thenK_at ?_)
      refine ⟨j + 1, by omega, by omega, ?_⟩
      refine vView rfl (rfl) ?_ ?_ ?_ (fun a ha => ?_) ⟨⟨by kernel_rfl, rfl⟩, ⟨by kernel_rfl, rfl⟩, ⟨by kernel_rfl, okV_ptr (by omega)⟩, ⟨by kernel_rfl, okV_sl (by omega)⟩, ⟨by kernel_rfl, rfl⟩, ⟨by kernel_rfl, okV_sl (by omega)⟩, ⟨by kernel_rfl, rfl⟩, ⟨by kernel_rfl, rfl⟩, ⟨by kernel_rfl, rfl⟩, ⟨congrArg (Value.int .i64) (wr _ (by omega) (by omega)), rfl⟩, trivial⟩
      · rw [Heap.get_set, if_neg (by omega)]
        rfl
      · rw [Heap.get_set, if_neg (by omega)]
        rfl
      · rw [Heap.get_set, if_neg (by omega)]
        rfl
      · rw [Heap.get_set]
        by_cases e : a = i
        · subst e
          rw [if_pos rfl, Int.toNat_natCast, Nat.zero_add, rcs_set, ← gM_set n (fun _ _ => ((-1 : Int), (-7 : Int))) R]
        · rw [if_neg (by omega), v_row ha, gM_row _ _ e]
    · obtain rfl : n = j := by omega
      have d2 : decide ((n : Int) < n) = false := decide_eq_false (by omega)
      refine Wp.seq (Wp.seq (Wp.text ?_))
      refine kp 38 (.int IntKind.i64 (↑n : Int)) ?_
      refine kp 39 (.slice (some ⟨2, 0, none⟩) n n) ?_
      refine kp 40 (.int IntKind.i64 (↑i : Int)) ?_
      refine kp 41 (.pointer (some (Addr.mk 2 (0 + Int.toNat (↑i : Int) * 1) none))) ?_ (hop := fun _ => o_indexAddr (a := (↑i : Int)) (bl := 2) (off := 0) (size := 1) 45 (n) g1)
      refine kp 42 (.slice (some (Addr.mk (i + 3) 0 none)) n n) ?_ (hop := fun _ => o_load1 (2) (0 + Int.toNat (↑i : Int) * 1) u1)
      refine kp 43 (.int IntKind.i64 (↑n : Int)) ?_
      refine kp 44 (.bool false) ?_ (hop := fun _ => by_fact d2)
      refine WpOps.nil (thenK_at (off' (Wp.exit (thenK_exit (thenK_exit (blockK_hit (blockK_norm (thenK_at (Wp.text ?_)))))))))
      refine kp 36 (.int IntKind.i64 (↑i : Int)) ?_
      refine kp 37 (.int IntKind.i64 (IntKind.wrap .i64 ((↑i : Int) + 1))) ?_
      refine kp 12 (.int IntKind.i64 (IntKind.wrap .i64 ((↑i : Int) + 1))) ?_
      refine WpOps.nil (thenK_at ?_)
      refine ⟨i + 1, by omega, by omega, ?_⟩
      unfold mH
      rw [← gM_next]
      exact vView rfl (rfl) rfl rfl rfl (fun a ha => v_row (X0 := ⟨24, true, [.int .i64 n, FS 48 0 x #[]]⟩) (X1 := ⟨48, true, []⟩) ha) ⟨⟨by kernel_rfl, rfl⟩, ⟨by kernel_rfl, rfl⟩, ⟨by kernel_rfl, okV_ptr (by omega)⟩, ⟨by kernel_rfl, okV_sl (by omega)⟩, ⟨by kernel_rfl, rfl⟩, ⟨by kernel_rfl, okV_sl (by omega)⟩, ⟨by kernel_rfl, rfl⟩, ⟨by kernel_rfl, rfl⟩, ⟨congrArg (Value.int .i64) (wr _ (by omega) (by omega)), rfl⟩, trivial⟩
  · obtain rfl : n = i := by omega
    have d1 : decide ((n : Int) < n) = false := decide_eq_false (by omega)
    obtain ⟨cF2, _⟩ := hcF
    unfold matF
    refine Wp.seq (Wp.seq (Wp.text ?_))
    refine kp 32 (.int IntKind.i64 (↑n : Int)) ?_
    refine kp 33 (.slice (some ⟨2, 0, none⟩) n n) ?_
    refine kp 34 (.int IntKind.i64 (↑n : Int)) ?_
    refine kp 35 (.bool false) ?_ (hop := fun _ => by_fact d1)
    refine WpOps.nil (thenK_at (off' (Wp.exit (thenK_exit (thenK_exit (blockK_hit (thenK_at (Wp.seq (Wp.text ?_)))))))))
    refine kp 55 (.agg #[Value.int .i64 (↑n : Int), Value.iface 48 (Value.iface 0 (Value.iface x (Value.agg #[])))]) ?_
    refine kp 56 (.iface 45 (Value.iface n (Value.iface 0 (Value.agg (List.toArray (List.map (fun r => FS 47 n 0 (List.toArray r)) (rowsM n f))))))) ?_
    refine kp 57 (.bool poison) ?_
    refine cl 58 18 [Value.agg #[Value.int .i64 (↑n : Int), Value.iface 48 (Value.iface 0 (Value.iface x (Value.agg #[])))], Value.iface 45 (Value.iface n (Value.iface 0 (Value.agg (List.toArray (List.map (fun r => FS 47 n 0 (List.toArray r)) (rowsM n f)))))), Value.bool poison] ?_
    refine WpCall.anyH cF2 (by kernel_rfl) ?_
    refine kp 54 (.tuple #[FS 45 n 0 (List.toArray (List.map (fun r => FS 47 n 0 (List.toArray r)) (rowsM n R))), Value.int .i64 0]) ?_
    refine kp 59 (.iface 45 (Value.iface n (Value.iface 0 (Value.agg (List.toArray (List.map (fun r => FS 47 n 0 (List.toArray r)) (rowsM n R))))))) ?_
    refine kp 60 (.int IntKind.i64 0) ?_
    refine kp 14 (.iface 45 (Value.iface n (Value.iface 0 (Value.agg (List.toArray (List.map (fun r => FS 47 n 0 (List.toArray r)) (rowsM n R))))))) ?_
    refine kp 15 (.int IntKind.i64 0) ?_
    refine WpOps.nil (thenK_at (Wp.seq (Wp.seq (Wp.text ?_))))
    refine kp 16 (.int IntKind.i64 0) ?_
    refine WpOps.nil (thenK_at (Wp.block ?_))
    refine Wp.loop (G := Nat) (fun k => layj [(1, matF 45 47 n (rowsM n f)), (3, .pointer (some ⟨0, 0, none⟩)), (7, .slice (some ⟨1, 0, none⟩) (0) (0)), (8, matF 92 93 n (rowsM n f)), (10, .int .i64 0), (11, matF 92 93 n (rowsM n R)), (14, matF 45 47 n (rowsM n R)), (15, .int .i64 0), (16, .int .i64 k)]) (fun _ => heapOf [⟨24, true, [.int .i64 n, FS 48 0 x #[]]⟩, ⟨48, true, []⟩]) (fun _ => 0) (fun k => k = 0) 0
      (View.same [⟨24, true, [.int .i64 n, FS 48 0 x #[]]⟩, ⟨48, true, []⟩] _ (Nat.zero_le _) (pre2 ⟨rfl, okCs_flat rfl⟩ ⟨rfl, okCs_flat (rfl)⟩) ⟨⟨by kernel_rfl, rfl⟩, ⟨by kernel_rfl, okV_ptr (show 0 < 2 by decide)⟩, ⟨by kernel_rfl, okV_sl (show 1 < 2 by decide)⟩, ⟨by kernel_rfl, rfl⟩, ⟨by kernel_rfl, rfl⟩, ⟨by kernel_rfl, rfl⟩, ⟨by kernel_rfl, rfl⟩, ⟨by kernel_rfl, rfl⟩, ⟨by kernel_rfl, rfl⟩, trivial⟩) rfl ?_
    rintro k rfl
    unfold matF
    refine Wp.seq (Wp.seq (Wp.text ?_))
    refine kp 61 (.int IntKind.i64 (↑0 : Int)) ?_
    refine kp 62 (.slice (some ⟨1, 0, none⟩) 0 0) ?_
    refine kp 63 (.int IntKind.i64 (↑0 : Int)) ?_
    refine kp 64 (.bool false) ?_
    refine WpOps.nil (thenK_at (off' (Wp.exit (thenK_exit (thenK_exit (blockK_hit (thenK_at (Wp.seq (Wp.text ?_)))))))))
    refine kp 77 (.int IntKind.i64 0) ?_
    refine kp 78 (.int IntKind.i64 0) ?_
    refine kp 79 (.bool true) ?_
    refine kp 80 (.bool true) ?_
    refine kp 81 (.iface 45 (Value.iface n (Value.iface 0 (Value.agg (List.toArray (List.map (fun r => FS 47 n 0 (List.toArray r)) (rowsM n f))))))) ?_
    refine cl 82 15 [Value.iface 45 (Value.iface n (Value.iface 0 (Value.agg (List.toArray (List.map (fun r => FS 47 n 0 (List.toArray r)) (rowsM n f))))))] ?_
    refine WpCall.consume [0, 1] (t3) (by kernel_rfl) (by kernel_rfl) ?_
    refine kp 83 (.iface 92 (Value.iface n (Value.iface 0 (Value.agg (List.toArray (List.map (fun r => FS 93 n 0 (List.toArray r)) (rowsM n f))))))) ?_
    refine fr 84 20 [Value.iface 92 (Value.iface n (Value.iface 0 (Value.agg (List.toArray (List.map (fun r => FS 93 n 0 (List.toArray r)) (rowsM n f)))))), Value.iface 92 (Value.iface n (Value.iface 0 (Value.agg (List.toArray (List.map (fun r => FS 93 n 0 (List.toArray r)) (rowsM n f))))))] ?_
    refine WpFun.of (c20) ?_
    refine kp 85 (.bool true) ?_
    refine kp 86 (.bool true) ?_
    refine kp 87 (.iface 45 (Value.iface n (Value.iface 0 (Value.agg (List.toArray (List.map (fun r => FS 47 n 0 (List.toArray r)) (rowsM n R))))))) ?_
    refine kp 88 (.iface 92 (Value.iface n (Value.iface 0 (Value.agg (List.toArray (List.map (fun r => FS 93 n 0 (List.toArray r)) (rowsM n R))))))) ?_
    refine fr 89 16 [Value.iface 45 (Value.iface n (Value.iface 0 (Value.agg (List.toArray (List.map (fun r => FS 47 n 0 (List.toArray r)) (rowsM n R)))))), Value.iface 92 (Value.iface n (Value.iface 0 (Value.agg (List.toArray (List.map (fun r => FS 93 n 0 (List.toArray r)) (rowsM n R))))))] ?_
    refine WpFun.of (c16) ?_
    refine kp 90 (.bool true) ?_
    refine kp 91 (.bool true) ?_
    refine fr 92 17 [] ?_
    refine WpFun.of (c0) ?_
    refine kp 93 (.bool true) ?_
    refine kp 6 (.bool true) ?_
    refine WpOps.nil (thenK_at (Wp.ret ?_))
    refine endK_retn [Value.bool true] (Value.bool true) (by kernel_rfl) (by kernel_rfl) ?_
    rfl
end Go.Proofs.Ytfjkanjmggbofaa.D
