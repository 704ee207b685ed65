/- A round, of the program. -/
import Derived.Test.YtfjkanjmggbofaaFwLem
import Derived.Test.YtfjkanjmggbofaaFwCons
import Derived.Test.YtfjkanjmggbofaaV12f
namespace Go.Proofs.Ytfjkanjmggbofaa.D
open Go.Fw Go.RowKit

/-! ## what a round comes to -/
def heard (poison : Bool) (i : Nat) (r : Rt) : Int := if (bif poison then r.2 == (i : Int) else false) = true then 16 else r.1
def better (c : Int) (hd : Int) (w : Nat) (acc : Rt) : Rt := if c = 0 then acc else if c + hd < acc.1 then (c + hd, (w : Int)) else acc
def bestN (c : Nat → Nat → Int) (poison : Bool) (f : Nat → Nat → Rt) (i j : Nat) : Nat → Rt
  | 0 => (16, -1)
  | w + 1 => better (c i w) (heard poison i (f w j)) w (bestN c poison f i j w)
def roundF (N : Nat) (c : Nat → Nat → Int) (poison : Bool) (f : Nat → Nat → Rt) (i j : Nat) : Rt := if j = i then f i j else bestN c poison f i j N
/-- Rows above v done, row v up to k. -/
def gM (R f : Nat → Nat → Rt) (v k : Nat) (i j : Nat) : Rt := if i < v ∨ (i = v ∧ j < k) then R i j else f i j
theorem gM_zero (R f : Nat → Nat → Rt) : gM R f 0 0 = f := by
  funext i j
  unfold gM
  rw [if_neg (by omega)]
theorem rowsM_congr {N : Nat} {f g : Nat → Nat → Rt} (h : ∀ i j, i < N → j < N → f i j = g i j) : rowsM N f = rowsM N g := by
  unfold rowsM
  refine List.map_congr_left fun i hi => ?_
  congr 1
  refine List.map_congr_left fun j hj => ?_
  exact h i j (List.mem_range.1 hi) (List.mem_range.1 hj)
theorem gM_next (N : Nat) (R f : Nat → Nat → Rt) (v : Nat) : rowsM N (gM R f v N) = rowsM N (gM R f (v + 1) 0) := rowsM_congr fun i j _ hj => by
  unfold gM
  by_cases h : i < v + 1
  · rw [if_pos (by omega), if_pos (by omega)]
  · rw [if_neg (by omega), if_neg (by omega)]
theorem gM_done (N : Nat) (R f : Nat → Nat → Rt) : rowsM N (gM R f N 0) = rowsM N R := rowsM_congr fun i j hi _ => by
  unfold gM
  rw [if_pos (by omega)]
theorem rcs_set : ∀ (l : List Rt) (k : Nat) (a b : Int), ((rcs l).set (k * 2) (.int .i64 a)).set (k * 2 + 1) (.int .i64 b) = rcs (l.set k (a, b))
  | [], k, a, b => rfl
  | r :: l, 0, a, b => rfl
  | r :: l, k + 1, a, b => by
    have ih := rcs_set l k a b
    unfold rcs at ih ⊢
    have e : (rc r).length = 2 := rfl
    rw [List.set_cons_succ, List.flatMap_cons, List.flatMap_cons, ← ih, List.set_append_right _ _ (by rw [e]; omega), List.set_append_right _ _ (by rw [e]; omega), e, show (k + 1) * 2 - 2 = k * 2 by omega, show (k + 1) * 2 + 1 - 2 = k * 2 + 1 by omega]
theorem cAt_range {N : Nat} {ls : List Lk} (hl : ∀ l ∈ ls, okLk N l) (i j : Nat) : 0 ≤ cAt ls i j ∧ cAt ls i j ≤ 15 := by
  unfold cAt
  have key : ∀ (ls : List Lk) (a : Int), (∀ l ∈ ls, okLk N l) → 0 ≤ a ∧ a ≤ 15 → 0 ≤ ls.foldl (fun c l => if l.1 = ((min i j : Nat) : Int) ∧ l.2.1 = ((max i j : Nat) : Int) then l.2.2 else c) a ∧ ls.foldl (fun c l => if l.1 = ((min i j : Nat) : Int) ∧ l.2.1 = ((max i j : Nat) : Int) then l.2.2 else c) a ≤ 15 := fun ls => by
    induction ls with
    | nil => exact fun a _ h => h
    | cons l ls ih =>
      intro a hl ha
      rw [List.foldl_cons]
      refine ih _ (fun m hm => hl m (List.mem_cons_of_mem _ hm)) ?_
      obtain ⟨_, _, _, h4, h5⟩ := hl l (by simp)
      split
      · omega
      · exact ha
  exact key ls 0 hl (by omega)
theorem bestN_range {N : Nat} {c : Nat → Nat → Int} {poison : Bool} {f : Nat → Nat → Rt} {i j : Nat} (hc : ∀ i j, 0 ≤ c i j ∧ c i j ≤ 15) (hf : ∀ w, w < N → 0 ≤ (f w j).1 ∧ (f w j).1 ≤ 16) : ∀ w, w ≤ N → 0 ≤ (bestN c poison f i j w).1 ∧ (bestN c poison f i j w).1 ≤ 16
  | 0, _ => by show (0 : Int) ≤ 16 ∧ (16 : Int) ≤ 16; omega
  | w + 1, h => by
    have ih := bestN_range (poison := poison) (i := i) hc hf w (by omega)
    have h1 := hc i w
    have h2 := hf w (by omega)
    show 0 ≤ (better _ _ _ _).1 ∧ (better _ _ _ _).1 ≤ 16
    unfold better
    have h3 : 0 ≤ heard poison i (f w j) := by unfold heard; split <;> omega
    split
    · exact ih
    · split
      · dsimp only; omega
      · exact ih

theorem gM_same (N : Nat) (c : Nat → Nat → Int) (poison : Bool) (f : Nat → Nat → Rt) {v k : Nat} (h : k = v) : gM (roundF N c poison f) f v (k + 1) = gM (roundF N c poison f) f v k := by
  funext i j
  unfold gM
  by_cases e : i = v ∧ j = k
  · obtain ⟨rfl, rfl⟩ := e
    rw [if_pos (by omega), if_neg (by omega)]
    unfold roundF
    rw [if_pos h]
  · by_cases e2 : i < v ∨ (i = v ∧ j < k)
    · rw [if_pos (by omega), if_pos e2]
    · rw [if_neg (by omega), if_neg e2]
theorem gM_row (R f : Nat → Nat → Rt) {v k i : Nat} (h : ¬ i = v) : gM R f v (k + 1) i = gM R f v k i := by
  funext j
  unfold gM
  by_cases e2 : i < v ∨ (i = v ∧ j < k)
  · rw [if_pos (by omega), if_pos e2]
  · rw [if_neg (by omega), if_neg e2]
theorem gM_set (N : Nat) (R f : Nat → Nat → Rt) {v k : Nat} : ((List.range N).map (gM R f v k v)).set k (R v k) = (List.range N).map (gM R f v (k + 1) v) := by
  apply List.ext_getElem?
  intro j
  rw [List.getElem?_set]
  by_cases hj : j < N
  · by_cases e : k = j
    · subst e
      simp [hj, gM]
    · have e' : (v = v ∧ j < k + 1) ↔ (v = v ∧ j < k) := by omega
      simp [hj, e, gM]
      by_cases h1 : j < k
      · rw [if_pos h1, if_pos (by omega)]
      · rw [if_neg h1, if_neg (by omega)]
  · by_cases e : k = j
    · subst e
      simp [hj]
    · simp [hj, e]

/-! ## the walk -/
theorem rowM_at {N : Nat} (f : Nat → Nat → Rt) (i : Nat) {j : Nat} (hj : j < N) : (rcs ((List.range N).map (f i))).toArray.toList[(j : Int).toNat * 2 + 0]? = some (.int .i64 (f i j).1) ∧ (rcs ((List.range N).map (f i))).toArray.toList[(j : Int).toNat * 2 + 1]? = some (.int .i64 (f i j).2) := by
  have hl : ((List.range N).map (f i)).length = N := by simp
  have h1 := rcs_at ((List.range N).map (f i)) j (0, 0) (by rw [hl]; exact hj)
  have e : ((List.range N).map (f i)).getD j (0, 0) = f i j := by simp [hj]
  rwa [e] at h1
def rH (N x : Nat) (ls : List Lk) (g : Nat → Nat → Rt) : Heap := mH [nv N x ls, ⟨45, true, rowsV 2 N N⟩] 47 (rowsM N g)
/-- .. and a route behind. -/
def sH (N x : Nat) (ls : List Lk) (g : Nat → Nat → Rt) (r : Rt) : Heap := mH [nv N x ls, ⟨45, true, rowsV 2 N N⟩] 47 (rowsM N g ++ [rc r])
theorem rH_row {N x : Nat} {ls : List Lk} {g : Nat → Nat → Rt} {i : Nat} (h : i < N) : (rH N x ls g).get (i + 2) = some ⟨47, true, rcs ((List.range N).map (g i))⟩ := mH_row (pre := [nv N x ls, ⟨45, true, rowsV 2 N N⟩]) (rowsM_at h)
theorem sH_row {N x : Nat} {ls : List Lk} {g : Nat → Nat → Rt} {r : Rt} {i : Nat} (h : i < N) : (sH N x ls g r).get (i + 2) = some ⟨47, true, rcs ((List.range N).map (g i))⟩ := mH_row (pre := [nv N x ls, ⟨45, true, rowsV 2 N N⟩]) (by rw [List.getElem?_append_left (by rw [rowsM_len]; exact h)]; exact rowsM_at h)
theorem sH_best {N x : Nat} {ls : List Lk} {g : Nat → Nat → Rt} {r : Rt} : (sH N x ls g r).get (N + 2) = some ⟨47, true, rc r⟩ := mH_row (pre := [nv N x ls, ⟨45, true, rowsV 2 N N⟩]) (by rw [List.getElem?_append_right (by rw [rowsM_len]; exact Nat.le_refl _), rowsM_len, Nat.sub_self]; rfl)
theorem rView {n : Nat} {s : Slots} {h : Heap} {N x : Nat} {ls : List Lk} {g : Nat → Nat → Rt} {l : List (Nat × Value)} (h0 : h.get 0 = some (nv N x ls)) (h1 : h.get 1 = some ⟨45, true, rowsV 2 N N⟩) (hr : ∀ i, i < N → h.get (i + 2) = some ⟨47, true, rcs ((List.range N).map (g i))⟩) (hs : SlotsId (2 + N) s l) : View 0 E n s h (layj l) (rH N x ls g) := by
  have hl : [nv N x ls, (⟨45, true, rowsV 2 N N⟩ : Blk)].length + (rowsM N g).length = 2 + N := by rw [rowsM_len]; rfl
  refine View.mat [nv N x ls, ⟨45, true, rowsV 2 N N⟩] 47 (rowsM N g) l (Nat.zero_le _) (pre2 ⟨h0, rfl⟩ ⟨h1, rowsV_ok (by rw [hl]; exact Nat.le_refl _)⟩) (fun i r h2 => ?_) (by rw [hl]; exact hs)
  have hi : i < N := by
    have := (List.getElem?_eq_some_iff.1 h2).1
    rwa [rowsM_len] at this
  refine ⟨?_, okCs_flat (rowsM_flat (List.mem_of_getElem? h2))⟩
  rw [rowsM_at hi] at h2
  obtain rfl := Option.some.inj h2
  exact hr i hi
theorem sView {n : Nat} {s : Slots} {h : Heap} {N x : Nat} {ls : List Lk} {g : Nat → Nat → Rt} {b : Rt} {l : List (Nat × Value)} (h0 : h.get 0 = some (nv N x ls)) (h1 : h.get 1 = some ⟨45, true, rowsV 2 N N⟩) (hr : ∀ i, i < N → h.get (i + 2) = some ⟨47, true, rcs ((List.range N).map (g i))⟩) (hb : h.get (N + 2) = some ⟨47, true, rc b⟩) (hs : SlotsId (3 + N) s l) : View 0 E n s h (layj l) (sH N x ls g b) := by
  have hl : [nv N x ls, (⟨45, true, rowsV 2 N N⟩ : Blk)].length + (rowsM N g ++ [rc b]).length = 3 + N := by rw [List.length_append, rowsM_len]; simp; omega
  refine View.mat [nv N x ls, ⟨45, true, rowsV 2 N N⟩] 47 (rowsM N g ++ [rc b]) l (Nat.zero_le _) (pre2 ⟨h0, rfl⟩ ⟨h1, rowsV_ok (by rw [hl]; omega)⟩) (fun i r h2 => ?_) (by rw [hl]; exact hs)
  have hi : i < N + 1 := by
    have := (List.getElem?_eq_some_iff.1 h2).1
    rwa [List.length_append, rowsM_len] at this
  by_cases e : i = N
  · subst e
    rw [List.getElem?_append_right (by rw [rowsM_len]; exact Nat.le_refl _), rowsM_len, Nat.sub_self] at h2
    obtain rfl : rc b = r := Option.some.inj h2
    exact ⟨hb, rfl⟩
  · rw [List.getElem?_append_left (by rw [rowsM_len]; omega)] at h2
    refine ⟨?_, okCs_flat (rowsM_flat (List.mem_of_getElem? h2))⟩
    rw [rowsM_at (by omega)] at h2
    obtain rfl := Option.some.inj h2
    exact hr i (by omega)
theorem matF_at (e N : Nat) (rows : List (List Value)) {i : Nat} {r : List Value} (h : rows[i]? = some r) : (rows.map fun r => FS e N 0 r.toArray).toArray.toList[(i : Int).toNat * 1]? = some (FS e N 0 r.toArray) := by
  rw [Int.toNat_natCast, Nat.mul_one, List.toList_toArray, List.getElem?_map, h]
  rfl
theorem f42 : E.funcs 42 = some Try.f42 := by kernel_rfl
set_option maxHeartbeats 4000000 in
theorem round42 (N x : Nat) (ls : List Lk) (f : Nat → Nat → Rt) (poison : Bool) (hN : 1 ≤ N ∧ N ≤ 20) (hl : ∀ l ∈ ls, okLk N l) (hz : ls.length ≤ 17592186044416) (hf : ∀ i j, i < N → j < N → 0 ≤ (f i j).1 ∧ (f i j).1 ≤ 16) :
    Lent E 42 [netV N x ls, tabM 45 47 N f, .bool poison] [] (.slice (some ⟨0, 0, none⟩) N N) (⟨45, true, rowsV 1 N N⟩ :: (rowsM N (roundF N (cAt ls) poison f)).map (rowB 47)) := by
  refine Lent.of f42 rfl (of_decide_eq_true (by kernel_rfl)) rfl (by simp [List.all_map, rowB, rowsM]) (Nat.zero_le _) rfl (matOk rowsM_len (fun r hr => rowsM_flat hr)) (matRes N) ?_
  have c1 := own41 N f hN
  have c2 := costsF51 N x ls hN hl hz
  have hcr := cAt_range (N := N) hl
  generalize cAt ls = c at c2 hcr
  unfold netV at c2 ⊢
  unfold lks at c2 ⊢
  rw [tabM_eq] at c1 ⊢
  unfold matF at c1 c2 ⊢
  refine Wp.seq (Wp.text ?_)
  refine md 3 (.pointer (some ⟨0, 0, none⟩)) (Blk.mk 24 true [Value.int .i64 (↑N : Int), Value.iface 48 (Value.iface (List.length ls) (Value.iface x (Value.agg (List.toArray (lcs ls)))))]) ?_
  refine kp 6 (.slice none 0 0) ?_
  refine WpOps.nil (thenK_at (Wp.seq (Wp.text ?_)))
  refine kp 15 (.iface 45 (Value.iface N (Value.iface 0 (Value.agg (List.toArray (List.map (fun r => FS 47 N 0 (List.toArray r)) (rowsM N f))))))) ?_
  refine cl 16 41 [Value.iface 45 (Value.iface N (Value.iface 0 (Value.agg (List.toArray (List.map (fun r => FS 47 N 0 (List.toArray r)) (rowsM N f))))))] ?_
  refine WpCall.freshM c1 rowsM_len (fun r hr => rowsM_flat hr) (fun h2 hn hk h0 hr => ?_)
  have n0 : h2.get 0 = some ⟨24, true, [.int .i64 N, FS 48 ls.length x (lcs ls).toArray]⟩ := hk 0 Nat.one_pos
  refine kp 7 (.slice (some ⟨1, 0, none⟩) N N) ?_
  refine WpOps.nil (thenK_at (Wp.seq (Wp.text ?_)))
  refine kp 17 (.agg #[Value.int .i64 (↑N : Int), Value.iface 48 (Value.iface (List.length ls) (Value.iface x (Value.agg (List.toArray (lcs ls)))))]) ?_ (hop := fun _ => o_loadAH (size := 2) (0) (0) n0)
  refine cl 18 51 [Value.agg #[Value.int .i64 (↑N : Int), Value.iface 48 (Value.iface (List.length ls) (Value.iface x (Value.agg (List.toArray (lcs ls)))))]] ?_
  refine WpCall.anyH c2 (by kernel_rfl) ?_
  refine kp 8 (.iface 61 (Value.iface N (Value.iface 0 (Value.agg (List.toArray (List.map (fun r => FS 3 N 0 (List.toArray r)) (matC N c))))))) ?_
  refine WpOps.nil (thenK_at (Wp.seq (Wp.seq (Wp.text ?_))))
  refine kp 19 (.slice (some ⟨1, 0, none⟩) N N) ?_
  refine kp 20 (.int IntKind.i64 (↑N : Int)) ?_
  refine kp 21 (.int IntKind.i64 0) ?_
  refine WpOps.nil (thenK_at (Wp.block ?_))
  refine Wp.loop (G := Nat) (fun v => layj [(1, matF 45 47 N (rowsM N f)), (2, .bool poison), (7, .slice (some ⟨1, 0, none⟩) N N), (8, matF 61 3 N (matC N c)), (20, .int .i64 N), (21, .int .i64 v)]) (fun v => rH N x ls (gM (roundF N c poison f) f v 0)) (fun v => N - v) (fun v => v ≤ N) 0
    ?_ (Nat.zero_le _) ?_
  · rw [gM_zero]
    refine View.mat [nv N x ls, ⟨45, true, rowsV 2 N N⟩] 47 (rowsM N f) _ (Nat.zero_le _) (pre2 ⟨n0, rfl⟩ ⟨h0, rowsV_ok (by rw [rowsM_len]; exact Nat.le_refl _)⟩) (fun i r h => ⟨hr i r h, okCs_flat (rowsM_flat (List.mem_of_getElem? h))⟩) ⟨⟨by kernel_rfl, rfl⟩, ⟨by kernel_rfl, rfl⟩, ⟨by kernel_rfl, okV_sl (by simp; omega)⟩, ⟨by kernel_rfl, rfl⟩, ⟨by kernel_rfl, rfl⟩, ⟨by kernel_rfl, rfl⟩, trivial⟩
  clear hr h0 hk hn n0 h2
  intro v hv
  by_cases hlt : v < N
  · have d1 : decide ((v : Int) < N) = true := decide_eq_true (by omega)
    have g1 : 0 ≤ (v : Int) ∧ (v : Int) < N := by omega
    have u1 : (rowsV 2 N N)[0 + (v : Int).toNat * 1]? = some (.slice (some ⟨v + 2, 0, none⟩) N N) := by
      rw [Int.toNat_natCast, Nat.zero_add, Nat.mul_one]
      exact rowsV_at hlt
    refine Wp.seq (Wp.text ?_)
    refine kp 22 (.bool true) ?_ (hop := fun _ => by_fact d1)
    refine WpOps.nil (thenK_at (Wp.seq (on' (Wp.skip (thenK_at (Wp.seq (Wp.block (Wp.seq (Wp.text ?_)))))))))
    refine kp 23 (.int IntKind.i64 (↑v : Int)) ?_
    refine kp 9 (.int IntKind.i64 (↑v : Int)) ?_
    refine WpOps.nil (thenK_at (Wp.seq (Wp.text ?_)))
    refine kp 24 (.slice (some ⟨1, 0, none⟩) N N) ?_
    refine kp 25 (.int IntKind.i64 (↑v : Int)) ?_
    refine kp 26 (.pointer (some (Addr.mk 1 (0 + Int.toNat (↑v : Int) * 1) none))) ?_ (hop := fun _ => o_indexAddr (a := (↑v : Int)) (bl := 1) (off := 0) (size := 1) 45 (N) g1)
    refine kp 27 (.slice (some (Addr.mk (v + 2) 0 none)) N N) ?_ (hop := fun _ => o_load1 (1) (0 + Int.toNat (↑v : Int) * 1) u1)
    refine kp 28 (.int IntKind.i64 (↑N : Int)) ?_
    refine kp 29 (.int IntKind.i64 0) ?_
    refine WpOps.nil (thenK_at (Wp.block ?_))
    refine Wp.loop (G := Nat) (fun to => layj [(1, matF 45 47 N (rowsM N f)), (2, .bool poison), (7, .slice (some ⟨1, 0, none⟩) N N), (8, matF 61 3 N (matC N c)), (20, .int .i64 N), (21, .int .i64 v), (9, .int .i64 v), (28, .int .i64 N), (29, .int .i64 to)]) (fun to => rH N x ls (gM (roundF N c poison f) f v to)) (fun to => N - to) (fun to => to ≤ N) 0
      ?_ (Nat.zero_le _) ?_
    · refine View.mat [nv N x ls, ⟨45, true, rowsV 2 N N⟩] 47 (rowsM N (gM (roundF N c poison f) f v 0)) _ (Nat.zero_le _) (pre2 ⟨rfl, rfl⟩ ⟨rfl, rowsV_ok (by simp [rowsM_len])⟩) (fun i r h => ⟨mH_row (pre := [nv N x ls, ⟨45, true, rowsV 2 N N⟩]) h, okCs_flat (rowsM_flat (List.mem_of_getElem? h))⟩) ⟨⟨by kernel_rfl, rfl⟩, ⟨by kernel_rfl, rfl⟩, ⟨by kernel_rfl, okV_sl (by simp; omega)⟩, ⟨by kernel_rfl, rfl⟩, ⟨by kernel_rfl, rfl⟩, ⟨by kernel_rfl, rfl⟩, ⟨by kernel_rfl, rfl⟩, ⟨by kernel_rfl, rfl⟩, ⟨by kernel_rfl, rfl⟩, trivial⟩
    intro to hto
    by_cases hlt2 : to < N
    · have d2 : decide ((to : Int) < N) = true := decide_eq_true (by omega)
      by_cases hd : to = v
      · have e1 : ((to : Int) == (v : Int)) = true := beq_iff_eq.2 (by omega)
        refine Wp.seq (Wp.text ?_)
        refine kp 30 (.bool true) ?_ (hop := fun _ => by_fact d2)
        refine WpOps.nil (thenK_at (Wp.seq (on' (Wp.skip (thenK_at (Wp.seq (Wp.block (Wp.seq (Wp.text ?_)))))))))
        refine kp 31 (.int IntKind.i64 (↑to : Int)) ?_
        refine kp 10 (.int IntKind.i64 (↑to : Int)) ?_
        refine WpOps.nil (thenK_at (Wp.seq (Wp.seq (Wp.text ?_))))
        refine kp 32 (.int IntKind.i64 (↑to : Int)) ?_
        refine kp 33 (.int IntKind.i64 (↑v : Int)) ?_
        refine kp 34 (.bool true) ?_ (hop := fun _ => by_fact e1)
        refine WpOps.nil (thenK_at (on' (Wp.exit (thenK_exit (blockK_hit (thenK_at (Wp.text ?_)))))))
        refine kp 94 (.int IntKind.i64 (IntKind.wrap .i64 ((↑to : Int) + 1))) ?_
        refine kp 29 (.int IntKind.i64 (IntKind.wrap .i64 ((↑to : Int) + 1))) ?_
        refine WpOps.nil (thenK_at ?_)
        refine ⟨to + 1, by omega, by omega, ?_⟩
        rw [gM_same N c poison f hd]
        exact View.mat [nv N x ls, ⟨45, true, rowsV 2 N N⟩] 47 (rowsM N (gM (roundF N c poison f) f v to)) _ (Nat.zero_le _) (pre2 ⟨rfl, rfl⟩ ⟨rfl, rowsV_ok (by simp [rowsM_len])⟩) (fun i r h => ⟨mH_row (pre := [nv N x ls, ⟨45, true, rowsV 2 N N⟩]) h, okCs_flat (rowsM_flat (List.mem_of_getElem? h))⟩) ⟨⟨by kernel_rfl, rfl⟩, ⟨by kernel_rfl, rfl⟩, ⟨by kernel_rfl, okV_sl (by simp; omega)⟩, ⟨by kernel_rfl, rfl⟩, ⟨by kernel_rfl, rfl⟩, ⟨by kernel_rfl, rfl⟩, ⟨by kernel_rfl, rfl⟩, ⟨by kernel_rfl, rfl⟩, ⟨congrArg (Value.int .i64) (wr _ (by omega) (by omega)), rfl⟩, trivial⟩
      · have e1 : ((to : Int) == (v : Int)) = false := beq_eq_false_iff_ne.2 (by omega)
        have hnx : (rH N x ls (gM (roundF N c poison f) f v to)).next = N + 2 := by unfold rH; rw [mH_next, rowsM_len]; simp; omega
        have n1 : ((rH N x ls (gM (roundF N c poison f) f v to)).alloc ⟨47, true, [.int .i64 0, .int .i64 0]⟩).get (rH N x ls (gM (roundF N c poison f) f v to)).next = some ⟨47, true, [.int .i64 0, .int .i64 0]⟩ := by simp
        have u2 := matF_at 3 N (matC N c) (matC_at hlt)
        refine Wp.seq (Wp.text ?_)
        refine kp 30 (.bool true) ?_ (hop := fun _ => by_fact d2)
        refine WpOps.nil (thenK_at (Wp.seq (on' (Wp.skip (thenK_at (Wp.seq (Wp.block (Wp.seq (Wp.text ?_)))))))))
        refine kp 31 (.int IntKind.i64 (↑to : Int)) ?_
        refine kp 10 (.int IntKind.i64 (↑to : Int)) ?_
        refine WpOps.nil (thenK_at (Wp.seq (Wp.seq (Wp.text ?_))))
        refine kp 32 (.int IntKind.i64 (↑to : Int)) ?_
        refine kp 33 (.int IntKind.i64 (↑v : Int)) ?_
        refine kp 34 (.bool false) ?_ (hop := fun _ => by_fact e1)
        refine WpOps.nil (thenK_at (off' (Wp.skip (thenK_at (Wp.seq (Wp.text ?_))))))
        refine kp 35 (.agg #[Value.int .i64 16, Value.int .i64 (-1)]) ?_
        refine md 11 (.pointer (some (Addr.mk (Heap.next (rH N x ls (gM (roundF N c poison f) f v to))) 0 none))) (Blk.mk 47 true [Value.int .i64 0, Value.int .i64 0]) ?_
        refine ld (.tuple #[]) (Heap.next (rH N x ls (gM (roundF N c poison f) f v to))) (Blk.mk 47 true [Value.int .i64 16, Value.int .i64 (-1)]) ?_ (hop := fun _ => o_storeH (v := Value.agg #[Value.int IntKind.i64 16, Value.int IntKind.i64 (-1)]) (xs := [Value.int IntKind.i64 16, Value.int IntKind.i64 (-1)]) (Heap.next (rH N x ls (gM (roundF N c poison f) f v to))) (0) n1 (of_decide_eq_true (by kernel_rfl)))
        refine WpOps.nil (thenK_at (Wp.seq (Wp.seq (Wp.text ?_))))
        refine kp 36 (.iface 61 (Value.iface N (Value.iface 0 (Value.agg (List.toArray (List.map (fun r => FS 3 N 0 (List.toArray r)) (matC N c))))))) ?_
        refine kp 37 (.int IntKind.i64 (↑N : Int)) ?_
        refine kp 38 (.int IntKind.i64 0) ?_
        refine WpOps.nil (thenK_at (Wp.block ?_))
        refine Wp.loop (G := Nat) (fun w => layj [(1, matF 45 47 N (rowsM N f)), (2, .bool poison), (7, .slice (some ⟨1, 0, none⟩) N N), (8, matF 61 3 N (matC N c)), (20, .int .i64 N), (21, .int .i64 v), (9, .int .i64 v), (28, .int .i64 N), (29, .int .i64 to), (10, .int .i64 to), (11, .pointer (some ⟨N + 2, 0, none⟩)), (37, .int .i64 N), (38, .int .i64 w)]) (fun w => sH N x ls (gM (roundF N c poison f) f v to) (bestN c poison f v to w)) (fun w => N - w) (fun w => w ≤ N) 0
          ?_ (Nat.zero_le _) ?_
        · refine sView ?_ ?_ (fun i hi => ?_) ?_ ⟨⟨by kernel_rfl, rfl⟩, ⟨by kernel_rfl, rfl⟩, ⟨by kernel_rfl, okV_sl (by omega)⟩, ⟨by kernel_rfl, rfl⟩, ⟨by kernel_rfl, rfl⟩, ⟨by kernel_rfl, rfl⟩, ⟨by kernel_rfl, rfl⟩, ⟨by kernel_rfl, rfl⟩, ⟨by kernel_rfl, rfl⟩, ⟨by kernel_rfl, rfl⟩, ⟨congrArg (fun b => Value.pointer (some ⟨b, 0, none⟩)) hnx, okV_ptr (by omega)⟩, ⟨by kernel_rfl, rfl⟩, ⟨by kernel_rfl, rfl⟩, trivial⟩
          · rw [Heap.get_set, if_neg (by omega), Heap.get_alloc, if_neg (by omega)]
            rfl
          · rw [Heap.get_set, if_neg (by omega), Heap.get_alloc, if_neg (by omega)]
            rfl
          · rw [Heap.get_set, if_neg (by omega), Heap.get_alloc, if_neg (by omega)]
            exact rH_row hi
          · rw [hnx, Heap.get_set, if_pos rfl]
            rfl
        intro w hw
        by_cases hlt3 : w < N
        · have d3 : decide ((w : Int) < N) = true := decide_eq_true (by omega)
          have g3 : 0 ≤ (w : Int) ∧ (w : Int) < N := by omega
          have g2 : 0 ≤ (to : Int) ∧ (to : Int) < N := by omega
          have u3 : ((List.range N).map fun j => Value.int .i64 (c v j)).toArray.toList[(w : Int).toNat * 1]? = some (.int .i64 (c v w)) := by
            rw [Int.toNat_natCast, Nat.mul_one, List.toList_toArray]
            exact row_at hlt3
          have hb := sH_best (N := N) (x := x) (ls := ls) (g := gM (roundF N c poison f) f v to) (r := bestN c poison f v to w)
          by_cases h0 : c v w = 0
          · have e2 : (c v w == 0) = true := by simpa using h0
            refine Wp.seq (Wp.text ?_)
            refine kp 39 (.bool true) ?_ (hop := fun _ => by_fact d3)
            refine WpOps.nil (thenK_at (Wp.seq (on' (Wp.skip (thenK_at (Wp.seq (Wp.block (Wp.seq (Wp.text ?_)))))))))
            refine kp 40 (.int IntKind.i64 (↑w : Int)) ?_
            refine kp 12 (.int IntKind.i64 (↑w : Int)) ?_
            refine WpOps.nil (thenK_at (Wp.seq (Wp.seq (Wp.text ?_))))
            refine kp 41 (.iface 61 (Value.iface N (Value.iface 0 (Value.agg (List.toArray (List.map (fun r => FS 3 N 0 (List.toArray r)) (matC N c))))))) ?_
            refine kp 42 (.int IntKind.i64 (↑v : Int)) ?_
            refine kp 43 (.iface 61 (Value.iface (Int.toNat (↑v : Int) * 1) (Value.agg (List.toArray (List.map (fun r => FS 3 N 0 (List.toArray r)) (matC N c)))))) ?_ (hop := fun _ => o_indexI (e := 61) (size := 1) (a := (↑v : Int)) g1)
            refine kp 44 (.iface 3 (Value.iface N (Value.iface 0 (Value.agg (List.toArray (List.map (fun j => Value.int .i64 (c v j)) (List.range N))))))) ?_ (hop := fun _ => o_loadI1 (Int.toNat (↑v : Int) * 1) u2)
            refine kp 45 (.int IntKind.i64 (↑w : Int)) ?_
            refine kp 46 (.iface 3 (Value.iface (Int.toNat (↑w : Int) * 1) (Value.agg (List.toArray (List.map (fun j => Value.int .i64 (c v j)) (List.range N)))))) ?_ (hop := fun _ => o_indexI (e := 3) (size := 1) (a := (↑w : Int)) g3)
            refine kp 47 (.int IntKind.i64 (c v w)) ?_ (hop := fun _ => o_loadI1 (Int.toNat (↑w : Int) * 1) u3)
            refine kp 48 (.bool true) ?_ (hop := fun _ => by_fact e2)
            refine WpOps.nil (thenK_at (on' (Wp.exit (thenK_exit (blockK_hit (thenK_at (Wp.text ?_)))))))
            refine kp 86 (.int IntKind.i64 (IntKind.wrap .i64 ((↑w : Int) + 1))) ?_
            refine kp 38 (.int IntKind.i64 (IntKind.wrap .i64 ((↑w : Int) + 1))) ?_
            refine WpOps.nil (thenK_at ?_)
            refine ⟨w + 1, by omega, by omega, ?_⟩
            have eb : bestN c poison f v to (w + 1) = bestN c poison f v to w := if_pos h0
            rw [eb]
            exact sView rfl rfl (fun i hi => sH_row hi) sH_best ⟨⟨by kernel_rfl, rfl⟩, ⟨by kernel_rfl, rfl⟩, ⟨by kernel_rfl, okV_sl (by omega)⟩, ⟨by kernel_rfl, rfl⟩, ⟨by kernel_rfl, rfl⟩, ⟨by kernel_rfl, rfl⟩, ⟨by kernel_rfl, rfl⟩, ⟨by kernel_rfl, rfl⟩, ⟨by kernel_rfl, rfl⟩, ⟨by kernel_rfl, rfl⟩, ⟨by kernel_rfl, okV_ptr (by omega)⟩, ⟨by kernel_rfl, rfl⟩, ⟨congrArg (Value.int .i64) (wr _ (by omega) (by omega)), rfl⟩, trivial⟩
          · have e2 : (c v w == 0) = false := by simpa using h0
            have u4 := matF_at 47 N (rowsM N f) (rowsM_at (f := f) hlt3)
            obtain ⟨u5, u6⟩ := rowM_at f w hlt2
            have hcw := hcr v w
            have hfw := hf w to hlt3 hlt2
            refine Wp.seq (Wp.text ?_)
            refine kp 39 (.bool true) ?_ (hop := fun _ => by_fact d3)
            refine WpOps.nil (thenK_at (Wp.seq (on' (Wp.skip (thenK_at (Wp.seq (Wp.block (Wp.seq (Wp.text ?_)))))))))
            refine kp 40 (.int IntKind.i64 (↑w : Int)) ?_
            refine kp 12 (.int IntKind.i64 (↑w : Int)) ?_
            refine WpOps.nil (thenK_at (Wp.seq (Wp.seq (Wp.text ?_))))
            refine kp 41 (.iface 61 (Value.iface N (Value.iface 0 (Value.agg (List.toArray (List.map (fun r => FS 3 N 0 (List.toArray r)) (matC N c))))))) ?_
            refine kp 42 (.int IntKind.i64 (↑v : Int)) ?_
            refine kp 43 (.iface 61 (Value.iface (Int.toNat (↑v : Int) * 1) (Value.agg (List.toArray (List.map (fun r => FS 3 N 0 (List.toArray r)) (matC N c)))))) ?_ (hop := fun _ => o_indexI (e := 61) (size := 1) (a := (↑v : Int)) g1)
            refine kp 44 (.iface 3 (Value.iface N (Value.iface 0 (Value.agg (List.toArray (List.map (fun j => Value.int .i64 (c v j)) (List.range N))))))) ?_ (hop := fun _ => o_loadI1 (Int.toNat (↑v : Int) * 1) u2)
            refine kp 45 (.int IntKind.i64 (↑w : Int)) ?_
            refine kp 46 (.iface 3 (Value.iface (Int.toNat (↑w : Int) * 1) (Value.agg (List.toArray (List.map (fun j => Value.int .i64 (c v j)) (List.range N)))))) ?_ (hop := fun _ => o_indexI (e := 3) (size := 1) (a := (↑w : Int)) g3)
            refine kp 47 (.int IntKind.i64 (c v w)) ?_ (hop := fun _ => o_loadI1 (Int.toNat (↑w : Int) * 1) u3)
            refine kp 48 (.bool false) ?_ (hop := fun _ => by_fact e2)
            refine WpOps.nil (thenK_at (off' (Wp.skip (thenK_at (Wp.seq (Wp.text ?_))))))
            refine kp 49 (.iface 45 (Value.iface N (Value.iface 0 (Value.agg (List.toArray (List.map (fun r => FS 47 N 0 (List.toArray r)) (rowsM N f))))))) ?_
            refine kp 50 (.int IntKind.i64 (↑w : Int)) ?_
            refine kp 51 (.iface 45 (Value.iface (Int.toNat (↑w : Int) * 1) (Value.agg (List.toArray (List.map (fun r => FS 47 N 0 (List.toArray r)) (rowsM N f)))))) ?_ (hop := fun _ => o_indexI (e := 45) (size := 1) (a := (↑w : Int)) g3)
            refine kp 52 (.iface 47 (Value.iface N (Value.iface 0 (Value.agg (List.toArray (rcs (List.map (f w) (List.range N)))))))) ?_ (hop := fun _ => o_loadI1 (Int.toNat (↑w : Int) * 1) u4)
            refine kp 53 (.int IntKind.i64 (↑to : Int)) ?_
            refine kp 54 (.iface 47 (Value.iface (Int.toNat (↑to : Int) * 2) (Value.agg (List.toArray (rcs (List.map (f w) (List.range N))))))) ?_ (hop := fun _ => o_indexI (e := 47) (size := 2) (a := (↑to : Int)) g2)
            refine kp 55 (.iface 47 (Value.iface (Int.toNat (↑to : Int) * 2 + 0) (Value.agg (List.toArray (rcs (List.map (f w) (List.range N))))))) ?_
            refine kp 56 (.int IntKind.i64 (Prod.fst (f w to))) ?_ (hop := fun _ => o_loadI1 (Int.toNat (↑to : Int) * 2 + 0) u5)
            refine kp 13 (.int IntKind.i64 (Prod.fst (f w to))) ?_
            refine WpOps.nil (thenK_at (Wp.seq (Wp.seq (Wp.text ?_))))
            refine kp 57 (.bool poison) ?_
            refine kp 58 (.bool poison) ?_
            refine WpOps.fork 11 (poison) [59, 60, 61, 62, 63, 64, 65, 66, 67, 68, 69] 69 (Prod.snd (f w to) == (↑v : Int)) (false) (by kernel_rfl) (fun g69 => ?_) (fun g69 => ?_) (fun f_69 b69 hb69 => ?_)
            · refine kp 59 (.iface 45 (Value.iface N (Value.iface 0 (Value.agg (List.toArray (List.map (fun r => FS 47 N 0 (List.toArray r)) (rowsM N f))))))) ?_ (hw := wants_tt g69)
              refine kp 60 (.int IntKind.i64 (↑w : Int)) ?_ (hw := wants_tt g69)
              refine kp 61 (.iface 45 (Value.iface (Int.toNat (↑w : Int) * 1) (Value.agg (List.toArray (List.map (fun r => FS 47 N 0 (List.toArray r)) (rowsM N f)))))) ?_ (hw := wants_tt g69) (hop := fun _ => o_indexI (e := 45) (size := 1) (a := (↑w : Int)) g3)
              refine kp 62 (.iface 47 (Value.iface N (Value.iface 0 (Value.agg (List.toArray (rcs (List.map (f w) (List.range N)))))))) ?_ (hw := wants_tt g69) (hop := fun _ => o_loadI1 (Int.toNat (↑w : Int) * 1) u4)
              refine kp 63 (.int IntKind.i64 (↑to : Int)) ?_ (hw := wants_tt g69)
              refine kp 64 (.iface 47 (Value.iface (Int.toNat (↑to : Int) * 2) (Value.agg (List.toArray (rcs (List.map (f w) (List.range N))))))) ?_ (hw := wants_tt g69) (hop := fun _ => o_indexI (e := 47) (size := 2) (a := (↑to : Int)) g2)
              refine kp 65 (.iface 47 (Value.iface (Int.toNat (↑to : Int) * 2 + 1) (Value.agg (List.toArray (rcs (List.map (f w) (List.range N))))))) ?_ (hw := wants_tt g69)
              refine kp 66 (.int IntKind.i64 (Prod.snd (f w to))) ?_ (hw := wants_tt g69) (hop := fun _ => o_loadI1 (Int.toNat (↑to : Int) * 2 + 1) u6)
              refine kp 67 (.int IntKind.i64 (↑v : Int)) ?_ (hw := wants_tt g69)
              refine kp 68 (.bool (Prod.snd (f w to) == (↑v : Int))) ?_ (hw := wants_tt g69)
              refine kp 69 (.bool (Prod.snd (f w to) == (↑v : Int))) ?_ (hop := fun _ => o_pickT g69)
              refine WpOps.nil ?_
              exact ⟨rfl, (.upd rfl (.upd rfl (.upd rfl (.upd rfl (.upd rfl (.upd rfl (.upd rfl (.upd rfl (.upd rfl (.upd rfl (.upd rfl .refl))))))))))), (by kernel_rfl)⟩
            · refine um 59 ?_ (hw := wants_ft g69)
              refine um 60 ?_ (hw := wants_ft g69)
              refine um 61 ?_ (hw := wants_ft g69)
              refine um 62 ?_ (hw := wants_ft g69)
              refine um 63 ?_ (hw := wants_ft g69)
              refine um 64 ?_ (hw := wants_ft g69)
              refine um 65 ?_ (hw := wants_ft g69)
              refine um 66 ?_ (hw := wants_ft g69)
              refine um 67 ?_ (hw := wants_ft g69)
              refine um 68 ?_ (hw := wants_ft g69)
              refine kp 69 (.bool false) ?_ (hop := fun _ => o_pickF g69)
              refine WpOps.nil ?_
              exact ⟨rfl, (.upd rfl (.upd rfl (.upd rfl (.upd rfl (.upd rfl (.upd rfl (.upd rfl (.upd rfl (.upd rfl (.upd rfl (.upd rfl .refl))))))))))), (by kernel_rfl)⟩
            refine WpOps.nil (thenK_at ?_)
            have hb69' := hb69
            refine Wp.split (b69) (by kernel_rfl) (fun hx => ?_) (fun hx => ?_)
            · have hh : heard poison v (f w to) = 16 := if_pos (hb69.symm.trans hx)
              have hwr := wr (c v w + 16) (by omega) (by omega)
              refine Wp.text ?_
              refine kp 13 (.int IntKind.i64 16) ?_
              refine WpOps.nil (thenK_at (Wp.seq (Wp.text ?_)))
              refine kp 70 (.iface 61 (Value.iface N (Value.iface 0 (Value.agg (List.toArray (List.map (fun r => FS 3 N 0 (List.toArray r)) (matC N c))))))) ?_
              refine kp 71 (.int IntKind.i64 (↑v : Int)) ?_
              refine kp 72 (.iface 61 (Value.iface (Int.toNat (↑v : Int) * 1) (Value.agg (List.toArray (List.map (fun r => FS 3 N 0 (List.toArray r)) (matC N c)))))) ?_ (hop := fun _ => o_indexI (e := 61) (size := 1) (a := (↑v : Int)) g1)
              refine kp 73 (.iface 3 (Value.iface N (Value.iface 0 (Value.agg (List.toArray (List.map (fun j => Value.int .i64 (c v j)) (List.range N))))))) ?_ (hop := fun _ => o_loadI1 (Int.toNat (↑v : Int) * 1) u2)
              refine kp 74 (.int IntKind.i64 (↑w : Int)) ?_
              refine kp 75 (.iface 3 (Value.iface (Int.toNat (↑w : Int) * 1) (Value.agg (List.toArray (List.map (fun j => Value.int .i64 (c v j)) (List.range N)))))) ?_ (hop := fun _ => o_indexI (e := 3) (size := 1) (a := (↑w : Int)) g3)
              refine kp 76 (.int IntKind.i64 (c v w)) ?_ (hop := fun _ => o_loadI1 (Int.toNat (↑w : Int) * 1) u3)
              refine kp 77 (.int IntKind.i64 16) ?_
              refine kp 78 (.int IntKind.i64 (IntKind.wrap .i64 (c v w + 16))) ?_
              refine kp 14 (.int IntKind.i64 (IntKind.wrap .i64 (c v w + 16))) ?_
              refine WpOps.nil (thenK_at (Wp.seq (Wp.text ?_)))
              refine kp 79 (.int IntKind.i64 (IntKind.wrap .i64 (c v w + 16))) ?_
              refine kp 80 (.pointer (some (Addr.mk (N + 2) 0 none))) ?_
              refine kp 81 (.int IntKind.i64 (Prod.fst (bestN c poison f v to w))) ?_ (hop := fun _ => o_load1H (N + 2) (0) hb)
              refine kp 82 (.bool (decide (IntKind.wrap .i64 (c v w + 16) < Prod.fst (bestN c poison f v to w)))) ?_
              refine WpOps.nil (thenK_at ?_)
              refine Wp.split (decide (IntKind.wrap IntKind.i64 (c v w + 16) < Prod.fst (bestN c poison f v to w))) (by kernel_rfl) (fun hc => ?_) (fun hc => ?_)
              · rw [hwr] at hc
                have hc' : c v w + 16 < (bestN c poison f v to w).1 := of_decide_eq_true hc
                have eb : bestN c poison f v to (w + 1) = (c v w + 16, (w : Int)) := by
                  show better _ _ _ _ = _
                  unfold better
                  rw [if_neg h0, hh, if_pos hc']
                refine Wp.text ?_
                refine kp 83 (.int IntKind.i64 (IntKind.wrap .i64 (c v w + 16))) ?_
                refine kp 84 (.int IntKind.i64 (↑w : Int)) ?_
                refine kp 85 (.agg #[Value.int .i64 (IntKind.wrap .i64 (c v w + 16)), Value.int .i64 (↑w : Int)]) ?_
                refine ld (.tuple #[]) (N + 2) (Blk.mk 47 true [Value.int .i64 (IntKind.wrap .i64 (c v w + 16)), Value.int .i64 (↑w : Int)]) ?_ (hop := fun _ => o_storeH (v := Value.agg #[Value.int IntKind.i64 (IntKind.wrap IntKind.i64 (c v w + 16)), Value.int IntKind.i64 (↑w : Int)]) (xs := [Value.int IntKind.i64 (IntKind.wrap IntKind.i64 (c v w + 16)), Value.int IntKind.i64 (↑w : Int)]) (N + 2) (0) hb (of_decide_eq_true (by kernel_rfl)))
                refine WpOps.nil (blockK_norm (thenK_at (Wp.text ?_)))
                refine kp 86 (.int IntKind.i64 (IntKind.wrap .i64 ((↑w : Int) + 1))) ?_
                refine kp 38 (.int IntKind.i64 (IntKind.wrap .i64 ((↑w : Int) + 1))) ?_
                refine WpOps.nil (thenK_at ?_)
                refine ⟨w + 1, by omega, by omega, ?_⟩
                rw [eb]
                refine sView ?_ ?_ (fun i hi => ?_) ?_ ⟨⟨by kernel_rfl, rfl⟩, ⟨by kernel_rfl, rfl⟩, ⟨by kernel_rfl, okV_sl (by omega)⟩, ⟨by kernel_rfl, rfl⟩, ⟨by kernel_rfl, rfl⟩, ⟨by kernel_rfl, rfl⟩, ⟨by kernel_rfl, rfl⟩, ⟨by kernel_rfl, rfl⟩, ⟨by kernel_rfl, rfl⟩, ⟨by kernel_rfl, rfl⟩, ⟨by kernel_rfl, okV_ptr (by omega)⟩, ⟨by kernel_rfl, rfl⟩, ⟨congrArg (Value.int .i64) (wr _ (by omega) (by omega)), rfl⟩, trivial⟩
                · rw [Heap.get_set, if_neg (by omega)]
                  rfl
                · rw [Heap.get_set, if_neg (by omega)]
                  rfl
                · rw [Heap.get_set, if_neg (by omega)]
                  exact sH_row hi
                · rw [Heap.get_set, if_pos rfl, hwr]
                  rfl
              · rw [hwr] at hc
                have hc' : ¬ c v w + 16 < (bestN c poison f v to w).1 := of_decide_eq_false hc
                have eb : bestN c poison f v to (w + 1) = bestN c poison f v to w := by
                  show better _ _ _ _ = _
                  unfold better
                  rw [if_neg h0, hh, if_neg hc']
                refine Wp.skip (blockK_norm (thenK_at (Wp.text ?_)))
                refine kp 86 (.int IntKind.i64 (IntKind.wrap .i64 ((↑w : Int) + 1))) ?_
                refine kp 38 (.int IntKind.i64 (IntKind.wrap .i64 ((↑w : Int) + 1))) ?_
                refine WpOps.nil (thenK_at ?_)
                refine ⟨w + 1, by omega, by omega, ?_⟩
                rw [eb]
                exact sView rfl rfl (fun i hi => sH_row hi) sH_best ⟨⟨by kernel_rfl, rfl⟩, ⟨by kernel_rfl, rfl⟩, ⟨by kernel_rfl, okV_sl (by omega)⟩, ⟨by kernel_rfl, rfl⟩, ⟨by kernel_rfl, rfl⟩, ⟨by kernel_rfl, rfl⟩, ⟨by kernel_rfl, rfl⟩, ⟨by kernel_rfl, rfl⟩, ⟨by kernel_rfl, rfl⟩, ⟨by kernel_rfl, rfl⟩, ⟨by kernel_rfl, okV_ptr (by omega)⟩, ⟨by kernel_rfl, rfl⟩, ⟨congrArg (Value.int .i64) (wr _ (by omega) (by omega)), rfl⟩, trivial⟩
            · have hh : heard poison v (f w to) = (f w to).1 := if_neg (by rw [← hb69, hx]; decide)
              have hwr := wr (c v w + (f w to).1) (by omega) (by omega)
              refine Wp.skip (thenK_at (Wp.seq (Wp.text ?_)))
              refine kp 70 (.iface 61 (Value.iface N (Value.iface 0 (Value.agg (List.toArray (List.map (fun r => FS 3 N 0 (List.toArray r)) (matC N c))))))) ?_
              refine kp 71 (.int IntKind.i64 (↑v : Int)) ?_
              refine kp 72 (.iface 61 (Value.iface (Int.toNat (↑v : Int) * 1) (Value.agg (List.toArray (List.map (fun r => FS 3 N 0 (List.toArray r)) (matC N c)))))) ?_ (hop := fun _ => o_indexI (e := 61) (size := 1) (a := (↑v : Int)) g1)
              refine kp 73 (.iface 3 (Value.iface N (Value.iface 0 (Value.agg (List.toArray (List.map (fun j => Value.int .i64 (c v j)) (List.range N))))))) ?_ (hop := fun _ => o_loadI1 (Int.toNat (↑v : Int) * 1) u2)
              refine kp 74 (.int IntKind.i64 (↑w : Int)) ?_
              refine kp 75 (.iface 3 (Value.iface (Int.toNat (↑w : Int) * 1) (Value.agg (List.toArray (List.map (fun j => Value.int .i64 (c v j)) (List.range N)))))) ?_ (hop := fun _ => o_indexI (e := 3) (size := 1) (a := (↑w : Int)) g3)
              refine kp 76 (.int IntKind.i64 (c v w)) ?_ (hop := fun _ => o_loadI1 (Int.toNat (↑w : Int) * 1) u3)
              refine kp 77 (.int IntKind.i64 (Prod.fst (f w to))) ?_
              refine kp 78 (.int IntKind.i64 (IntKind.wrap .i64 (c v w + Prod.fst (f w to)))) ?_
              refine kp 14 (.int IntKind.i64 (IntKind.wrap .i64 (c v w + Prod.fst (f w to)))) ?_
              refine WpOps.nil (thenK_at (Wp.seq (Wp.text ?_)))
              refine kp 79 (.int IntKind.i64 (IntKind.wrap .i64 (c v w + Prod.fst (f w to)))) ?_
              refine kp 80 (.pointer (some (Addr.mk (N + 2) 0 none))) ?_
              refine kp 81 (.int IntKind.i64 (Prod.fst (bestN c poison f v to w))) ?_ (hop := fun _ => o_load1H (N + 2) (0) hb)
              refine kp 82 (.bool (decide (IntKind.wrap .i64 (c v w + Prod.fst (f w to)) < Prod.fst (bestN c poison f v to w)))) ?_
              refine WpOps.nil (thenK_at ?_)
              refine Wp.split (decide (IntKind.wrap IntKind.i64 (c v w + Prod.fst (f w to)) < Prod.fst (bestN c poison f v to w))) (by kernel_rfl) (fun hc => ?_) (fun hc => ?_)
              · rw [hwr] at hc
                have hc' : c v w + (f w to).1 < (bestN c poison f v to w).1 := of_decide_eq_true hc
                have eb : bestN c poison f v to (w + 1) = (c v w + (f w to).1, (w : Int)) := by
                  show better _ _ _ _ = _
                  unfold better
                  rw [if_neg h0, hh, if_pos hc']
                refine Wp.text ?_
                refine kp 83 (.int IntKind.i64 (IntKind.wrap .i64 (c v w + Prod.fst (f w to)))) ?_
                refine kp 84 (.int IntKind.i64 (↑w : Int)) ?_
                refine kp 85 (.agg #[Value.int .i64 (IntKind.wrap .i64 (c v w + Prod.fst (f w to))), Value.int .i64 (↑w : Int)]) ?_
                refine ld (.tuple #[]) (N + 2) (Blk.mk 47 true [Value.int .i64 (IntKind.wrap .i64 (c v w + Prod.fst (f w to))), Value.int .i64 (↑w : Int)]) ?_ (hop := fun _ => o_storeH (v := Value.agg #[Value.int IntKind.i64 (IntKind.wrap IntKind.i64 (c v w + Prod.fst (f w to))), Value.int IntKind.i64 (↑w : Int)]) (xs := [Value.int IntKind.i64 (IntKind.wrap IntKind.i64 (c v w + Prod.fst (f w to))), Value.int IntKind.i64 (↑w : Int)]) (N + 2) (0) hb (of_decide_eq_true (by kernel_rfl)))
                refine WpOps.nil (blockK_norm (thenK_at (Wp.text ?_)))
                refine kp 86 (.int IntKind.i64 (IntKind.wrap .i64 ((↑w : Int) + 1))) ?_
                refine kp 38 (.int IntKind.i64 (IntKind.wrap .i64 ((↑w : Int) + 1))) ?_
                refine WpOps.nil (thenK_at ?_)
                refine ⟨w + 1, by omega, by omega, ?_⟩
                rw [eb]
                refine sView ?_ ?_ (fun i hi => ?_) ?_ ⟨⟨by kernel_rfl, rfl⟩, ⟨by kernel_rfl, rfl⟩, ⟨by kernel_rfl, okV_sl (by omega)⟩, ⟨by kernel_rfl, rfl⟩, ⟨by kernel_rfl, rfl⟩, ⟨by kernel_rfl, rfl⟩, ⟨by kernel_rfl, rfl⟩, ⟨by kernel_rfl, rfl⟩, ⟨by kernel_rfl, rfl⟩, ⟨by kernel_rfl, rfl⟩, ⟨by kernel_rfl, okV_ptr (by omega)⟩, ⟨by kernel_rfl, rfl⟩, ⟨congrArg (Value.int .i64) (wr _ (by omega) (by omega)), rfl⟩, trivial⟩
                · rw [Heap.get_set, if_neg (by omega)]
                  rfl
                · rw [Heap.get_set, if_neg (by omega)]
                  rfl
                · rw [Heap.get_set, if_neg (by omega)]
                  exact sH_row hi
                · rw [Heap.get_set, if_pos rfl, hwr]
                  rfl
              · rw [hwr] at hc
                have hc' : ¬ c v w + (f w to).1 < (bestN c poison f v to w).1 := of_decide_eq_false hc
                have eb : bestN c poison f v to (w + 1) = bestN c poison f v to w := by
                  show better _ _ _ _ = _
                  unfold better
                  rw [if_neg h0, hh, if_neg hc']
                refine Wp.skip (blockK_norm (thenK_at (Wp.text ?_)))
                refine kp 86 (.int IntKind.i64 (IntKind.wrap .i64 ((↑w : Int) + 1))) ?_
                refine kp 38 (.int IntKind.i64 (IntKind.wrap .i64 ((↑w : Int) + 1))) ?_
                refine WpOps.nil (thenK_at ?_)
                refine ⟨w + 1, by omega, by omega, ?_⟩
                rw [eb]
                exact sView rfl rfl (fun i hi => sH_row hi) sH_best ⟨⟨by kernel_rfl, rfl⟩, ⟨by kernel_rfl, rfl⟩, ⟨by kernel_rfl, okV_sl (by omega)⟩, ⟨by kernel_rfl, rfl⟩, ⟨by kernel_rfl, rfl⟩, ⟨by kernel_rfl, rfl⟩, ⟨by kernel_rfl, rfl⟩, ⟨by kernel_rfl, rfl⟩, ⟨by kernel_rfl, rfl⟩, ⟨by kernel_rfl, rfl⟩, ⟨by kernel_rfl, okV_ptr (by omega)⟩, ⟨by kernel_rfl, rfl⟩, ⟨congrArg (Value.int .i64) (wr _ (by omega) (by omega)), rfl⟩, trivial⟩
        · obtain rfl : w = N := by omega
          have d3 : decide ((w : Int) < w) = false := decide_eq_false (by omega)
          have hb := sH_best (N := w) (x := x) (ls := ls) (g := gM (roundF w c poison f) f v to) (r := bestN c poison f v to w)
          have hr := sH_row (x := x) (ls := ls) (g := gM (roundF w c poison f) f v to) (r := bestN c poison f v to w) hlt
          have g2 : 0 ≤ (to : Int) ∧ (to : Int) < w := by omega
          have x1 : w + 2 ≠ v + 2 := by omega
          have x2 : 1 ≠ v + 2 := by omega
          have q1 : true = true ∧ 0 + (to : Int).toNat * 2 + [Value.int .i64 (bestN c poison f v to w).1, .int .i64 (bestN c poison f v to w).2].length ≤ (rcs ((List.range w).map (gM (roundF w c poison f) f v to v))).length := ⟨rfl, by rw [rcs_len, List.length_map, List.length_range]; simp; omega⟩
          refine Wp.seq (Wp.text ?_)
          refine kp 39 (.bool false) ?_ (hop := fun _ => by_fact d3)
          refine WpOps.nil (thenK_at (Wp.seq (off' (Wp.exit (thenK_exit (thenK_exit (blockK_hit (thenK_at ?_))))))))
          refine Wp.region (by kernel_rfl) ?_
          refine kp 87 (.slice (some ⟨1, 0, none⟩) w w) ?_
          refine kp 88 (.int IntKind.i64 (↑v : Int)) ?_
          refine kp 89 (.pointer (some (Addr.mk 1 (0 + Int.toNat (↑v : Int) * 1) none))) ?_ (hop := fun _ => o_indexAddr (a := (↑v : Int)) (bl := 1) (off := 0) (size := 1) 45 (w) g1)
          refine kp 90 (.slice (some (Addr.mk (v + 2) 0 none)) w w) ?_ (hop := fun _ => o_load1 (1) (0 + Int.toNat (↑v : Int) * 1) u1)
          refine kp 91 (.int IntKind.i64 (↑to : Int)) ?_
          refine kp 92 (.agg #[Value.int .i64 (Prod.fst (bestN c poison f v to w)), Value.int .i64 (Prod.snd (bestN c poison f v to w))]) ?_ (hop := fun _ => o_loadAH (size := 2) (w + 2) (0) hb)
          refine kp 93 (.pointer (some (Addr.mk (v + 2) (0 + Int.toNat (↑to : Int) * 2) none))) ?_ (hop := fun _ => o_indexAddr (a := (↑to : Int)) (bl := v + 2) (off := 0) (size := 2) 47 (w) g2)
          refine ld (.tuple #[]) (v + 2) (Blk.mk 47 true (List.set (List.set (rcs (List.map (gM (roundF w c poison f) f v to v) (List.range w))) (0 + Int.toNat (↑to : Int) * 2) (Value.int .i64 (Prod.fst (bestN c poison f v to w)))) (0 + Int.toNat (↑to : Int) * 2 + 1) (Value.int .i64 (Prod.snd (bestN c poison f v to w))))) ?_ (hop := fun _ => o_storeH (v := Value.agg #[Value.int IntKind.i64 (Prod.fst (bestN c poison f v to w)), Value.int IntKind.i64 (Prod.snd (bestN c poison f v to w))]) (xs := [Value.int IntKind.i64 (Prod.fst (bestN c poison f v to w)), Value.int IntKind.i64 (Prod.snd (bestN c poison f v to w))]) (v + 2) (0 + Int.toNat (↑to : Int) * 2) hr q1)
          refine WpOps.nil (blockK_norm (thenK_at (Wp.text ?_)))
          refine kp 94 (.int IntKind.i64 (IntKind.wrap .i64 ((↑to : Int) + 1))) ?_
          refine kp 29 (.int IntKind.i64 (IntKind.wrap .i64 ((↑to : Int) + 1))) ?_
          refine WpOps.nil (thenK_at ?_)
          refine ⟨to + 1, by omega, by omega, ?_⟩
          have hR : roundF w c poison f v to = bestN c poison f v to w := if_neg hd
          refine rView ?_ ?_ (fun i hi => ?_) ⟨⟨by kernel_rfl, rfl⟩, ⟨by kernel_rfl, rfl⟩, ⟨by kernel_rfl, okV_sl (by omega)⟩, ⟨by kernel_rfl, rfl⟩, ⟨by kernel_rfl, rfl⟩, ⟨by kernel_rfl, rfl⟩, ⟨by kernel_rfl, rfl⟩, ⟨by kernel_rfl, rfl⟩, ⟨congrArg (Value.int .i64) (wr _ (by omega) (by omega)), rfl⟩, trivial⟩
          · rw [Heap.get_set, if_neg (by omega)]
            rfl
          · rw [Heap.get_set, if_neg (by omega)]
            rfl
          · rw [Heap.get_set]
            by_cases e : i = v
            · subst e
              rw [if_pos rfl, Int.toNat_natCast, Nat.zero_add, rcs_set, ← gM_set w (roundF w c poison f) f, hR]
            · rw [if_neg (by omega), sH_row hi, gM_row _ _ e]
    · obtain rfl : to = N := by omega
      have d2 : decide ((to : Int) < to) = false := decide_eq_false (by omega)
      refine Wp.seq (Wp.text ?_)
      refine kp 30 (.bool false) ?_ (hop := fun _ => by_fact d2)
      refine WpOps.nil (thenK_at (Wp.seq (off' (Wp.exit (thenK_exit (thenK_exit (blockK_hit (blockK_norm (thenK_at (Wp.text ?_))))))))))
      refine kp 95 (.int IntKind.i64 (IntKind.wrap .i64 ((↑v : Int) + 1))) ?_
      refine kp 21 (.int IntKind.i64 (IntKind.wrap .i64 ((↑v : Int) + 1))) ?_
      refine WpOps.nil (thenK_at ?_)
      refine ⟨v + 1, by omega, by omega, ?_⟩
      unfold rH
      rw [← gM_next]
      exact rView rfl rfl (fun i hi => rH_row (x := x) (ls := ls) hi) ⟨⟨by kernel_rfl, rfl⟩, ⟨by kernel_rfl, rfl⟩, ⟨by kernel_rfl, okV_sl (by omega)⟩, ⟨by kernel_rfl, rfl⟩, ⟨by kernel_rfl, rfl⟩, ⟨congrArg (Value.int .i64) (wr _ (by omega) (by omega)), rfl⟩, trivial⟩
  · obtain rfl : v = N := by omega
    have d1 : decide ((v : Int) < v) = false := decide_eq_false (by omega)
    refine Wp.seq (Wp.text ?_)
    refine kp 22 (.bool false) ?_ (hop := fun _ => by_fact d1)
    refine WpOps.nil (thenK_at (Wp.seq (off' (Wp.exit (thenK_exit (thenK_exit (blockK_hit (thenK_at (Wp.seq (Wp.text ?_))))))))))
    refine kp 96 (.slice (some ⟨1, 0, none⟩) v v) ?_
    refine kp 6 (.slice (some ⟨1, 0, none⟩) v v) ?_
    refine WpOps.nil (thenK_at (Wp.ret ?_))
    refine endK_retn [Value.slice (some (Addr.mk 1 0 none)) v v] (Value.slice (some (Addr.mk 1 0 none)) v v) (by kernel_rfl) (by kernel_rfl) ?_
    have e := lentMat (E := E) [nv v x ls, ⟨45, true, rowsV 2 v v⟩] 47 45 (rowsM v (roundF v c poison f)) 1 v rowsM_len rfl (fun r hr => rowsM_flat hr)
    unfold rH
    rw [gM_done]
    exact e
end Go.Proofs.Ytfjkanjmggbofaa.D
