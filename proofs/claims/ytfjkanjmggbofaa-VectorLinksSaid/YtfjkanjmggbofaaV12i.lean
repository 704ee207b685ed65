/- A round, of the document. -/
import Derived.Test.YtfjkanjmggbofaaFwLem
import Derived.Test.YtfjkanjmggbofaaFwCons
import Derived.Test.YtfjkanjmggbofaaV12h
namespace Go.Proofs.Ytfjkanjmggbofaa.D
open Go.Fw Go.RowKit

def cF (ls : List Lk) (i j : Nat) : Int := costF ls i j
/-- One route of a table changed. -/
def putM (g : Nat → Nat → Rt) (i j : Nat) (r : Rt) (a b : Nat) : Rt := if a = i ∧ b = j then r else g a b
theorem putM_row (g : Nat → Nat → Rt) {i j a : Nat} (r : Rt) (h : ¬ a = i) : putM g i j r a = g a := by
  funext b
  unfold putM
  rw [if_neg fun e => h e.1]
theorem putM_set {N : Nat} (g : Nat → Nat → Rt) {i j : Nat} {r : Rt} (hj : j < N) : ((List.range N).map (g i)).set j r = (List.range N).map (putM g i j r i) := by
  apply List.ext_getElem?
  intro b
  rw [List.getElem?_set]
  by_cases hb : b < N
  · by_cases e : j = b
    · subst e
      simp [hb, putM]
    · have e' : ¬ b = j := fun h => e h.symm
      simp [hb, e, e', putM]
  · by_cases e : j = b
    · subst e
      omega
    · simp [hb, e]
theorem putM_put (g : Nat → Nat → Rt) (i j : Nat) (r r' : Rt) : putM (putM g i j r) i j r' = putM g i j r' := by
  funext a b
  unfold putM
  by_cases e : a = i ∧ b = j
  · rw [if_pos e, if_pos e]
  · rw [if_neg e, if_neg e, if_neg e]
theorem putM_self (g : Nat → Nat → Rt) (i j : Nat) : putM g i j (g i j) = g := by
  funext a b
  unfold putM
  by_cases e : a = i ∧ b = j
  · rw [if_pos e, e.1, e.2]
  · rw [if_neg e]
theorem putM_gM (R f : Nat → Nat → Rt) (i j : Nat) : putM (gM R f i j) i j (R i j) = gM R f i (j + 1) := by
  funext a b
  unfold putM gM
  by_cases e : a = i ∧ b = j
  · rw [if_pos e, if_pos (by omega), e.1, e.2]
  · rw [if_neg e]
    by_cases h : a < i ∨ (a = i ∧ b < j)
    · rw [if_pos h, if_pos (by omega)]
    · rw [if_neg h, if_neg (by omega)]
theorem gM_at (R f : Nat → Nat → Rt) (i j : Nat) : gM R f i j i j = f i j := by
  unfold gM
  rw [if_neg (by omega)]

def rHR (N x : Nat) (ls : List Lk) (g : Nat → Nat → Rt) : Heap := mH [nrf N x ls, ⟨92, true, rowsV 2 N N⟩] 93 (rowsM N g)
theorem rHR_row {N x : Nat} {ls : List Lk} {g : Nat → Nat → Rt} {i : Nat} (h : i < N) : (rHR N x ls g).get (i + 2) = some ⟨93, true, rcs ((List.range N).map (g i))⟩ := mH_row (pre := [nrf N x ls, ⟨92, true, rowsV 2 N N⟩]) (rowsM_at h)
theorem rViewR {n : Nat} {s : Slots} {h : Heap} {N x : Nat} {ls : List Lk} {g : Nat → Nat → Rt} {l : List (Nat × Value)} (h0 : h.get 0 = some (nrf N x ls)) (h1 : h.get 1 = some ⟨92, true, rowsV 2 N N⟩) (hr : ∀ i, i < N → h.get (i + 2) = some ⟨93, true, rcs ((List.range N).map (g i))⟩) (hs : SlotsId (2 + N) s l) : View 0 E n s h (layj l) (rHR N x ls g) := by
  have hl : [nrf N x ls, (⟨92, true, rowsV 2 N N⟩ : Blk)].length + (rowsM N g).length = 2 + N := by rw [rowsM_len]; rfl
  refine View.mat [nrf N x ls, ⟨92, true, rowsV 2 N N⟩] 93 (rowsM N g) l (Nat.zero_le _) (pre2 ⟨h0, rfl⟩ ⟨h1, rowsV_ok (by rw [hl]; exact Nat.le_refl _)⟩) (fun i r h2 => ?_) (by rw [hl]; exact hs)
  have hi : i < N := by
    have := (List.getElem?_eq_some_iff.1 h2).1
    rwa [rowsM_len] at this
  refine ⟨?_, okCs_flat (rowsM_flat (List.mem_of_getElem? h2))⟩
  rw [rowsM_at hi] at h2
  obtain rfl := Option.some.inj h2
  exact hr i hi
theorem f47 : E.funcs 47 = some Try.f47 := by kernel_rfl
set_option maxHeartbeats 4000000 in
theorem round47 (N x : Nat) (ls : List Lk) (f : Nat → Nat → Rt) (poison : Bool) (hN : 1 ≤ N ∧ N ≤ 20) (hz : ls.length ≤ 17592186044416) (hf : ∀ i j, i < N → j < N → 0 ≤ (f i j).1 ∧ (f i j).1 ≤ 16) (hd : ∀ i, i < N → f i i = (0, (i : Int))) (hcr : ∀ i j, 0 ≤ cF ls i j ∧ cF ls i j ≤ 15) (hc0 : ∀ i, cF ls i i = 0) :
    Fun E 47 [netV N x ls, tabM 92 93 N f, .bool poison] (tabM 92 93 N (roundF N (cF ls) poison f)) := by
  refine Fun.of f47 rfl (of_decide_eq_true (by kernel_rfl)) (tabM_ice _ _ _ _) ?_
  have c1 := first50 N x ls hN
  have c2 : ∀ i v : Nat, Fun E 52 [netV N x ls, .int .i64 i, .int .i64 v] (.int .i64 (cF ls i v)) := fun i v => cost52 N x ls i v hz
  unfold netV at c1 c2 ⊢
  unfold lks at c1 c2 ⊢
  rw [tabM_eq]
  rw [show matF 92 93 N (rowsM N f) = FS 92 N 0 ((rowsM N f).map fun r => FS 93 N 0 r.toArray).toArray from rfl]
  refine Wp.seq (Wp.text ?_)
  refine md 3 (.pointer (some ⟨0, 0, none⟩)) (Blk.mk 34 true [Value.int .i64 (↑N : Int), Value.iface 48 (Value.iface (List.length ls) (Value.iface x (Value.agg (List.toArray (lcs ls)))))]) ?_
  refine kp 6 (.slice none 0 0) ?_
  refine WpOps.nil (thenK_at (Wp.seq (Wp.text ?_)))
  refine kp 13 (.agg #[Value.int .i64 (↑N : Int), Value.iface 48 (Value.iface (List.length ls) (Value.iface x (Value.agg (List.toArray (lcs ls)))))]) ?_
  refine cl 14 50 [Value.agg #[Value.int .i64 (↑N : Int), Value.iface 48 (Value.iface (List.length ls) (Value.iface x (Value.agg (List.toArray (lcs ls)))))]] ?_
  refine WpCall.freshM c1 rowsM_len (fun r hr => rowsM_flat hr) (fun h2 hn hk h0 hr => ?_)
  have n0 : h2.get 0 = some ⟨34, true, [.int .i64 N, FS 48 ls.length x (lcs ls).toArray]⟩ := hk 0 Nat.one_pos
  refine kp 7 (.slice (some ⟨1, 0, none⟩) N N) ?_
  refine WpOps.nil (thenK_at (Wp.seq (Wp.seq (Wp.text ?_))))
  refine kp 8 (.int IntKind.i64 0) ?_
  refine WpOps.nil (thenK_at (Wp.block ?_))
  refine Wp.loop (G := Nat) (fun i => layj [(1, matF 92 93 N (rowsM N f)), (2, .bool poison), (3, .pointer (some ⟨0, 0, none⟩)), (7, .slice (some ⟨1, 0, none⟩) N N), (8, .int .i64 i)]) (fun i => rHR N x ls (gM (roundF N (cF ls) poison f) firstF i 0)) (fun i => N - i) (fun i => i ≤ N) 0
    ?_ (Nat.zero_le _) ?_
  · rw [gM_zero]
    exact rViewR n0 h0 (fun i hi => hr i _ (rowsM_at hi)) ⟨⟨by kernel_rfl, rfl⟩, ⟨by kernel_rfl, rfl⟩, ⟨by kernel_rfl, okV_ptr (by omega)⟩, ⟨by kernel_rfl, okV_sl (by omega)⟩, ⟨by kernel_rfl, rfl⟩, trivial⟩
  clear hr h0 hk hn n0 h2
  intro i hi
  have n0 : (rHR N x ls (gM (roundF N (cF ls) poison f) firstF i 0)).get 0 = some ⟨34, true, [.int .i64 N, FS 48 ls.length x (lcs ls).toArray]⟩ := rfl
  by_cases hlt : i < N
  · have d1 : decide ((i : Int) < N) = true := decide_eq_true (by omega)
    refine Wp.seq (Wp.seq (Wp.text ?_))
    refine kp 15 (.int IntKind.i64 (↑i : Int)) ?_
    refine kp 16 (.pointer (some ⟨0, 0, none⟩)) ?_
    refine kp 17 (.int IntKind.i64 (↑N : Int)) ?_
    refine kp 18 (.bool true) ?_ (hop := fun _ => by_fact d1)
    refine WpOps.nil (thenK_at (on' (Wp.skip (thenK_at (Wp.seq (Wp.block (Wp.seq (Wp.text ?_))))))))
    refine kp 9 (.int IntKind.i64 0) ?_
    refine WpOps.nil (thenK_at (Wp.block ?_))
    refine Wp.loop (G := Nat) (fun j => layj [(1, matF 92 93 N (rowsM N f)), (2, .bool poison), (3, .pointer (some ⟨0, 0, none⟩)), (7, .slice (some ⟨1, 0, none⟩) N N), (8, .int .i64 i), (9, .int .i64 j)]) (fun j => rHR N x ls (gM (roundF N (cF ls) poison f) firstF i j)) (fun j => N - j) (fun j => j ≤ N) 0
      ?_ (Nat.zero_le _) ?_
    · exact rViewR rfl rfl (fun a ha => rHR_row ha) ⟨⟨by kernel_rfl, rfl⟩, ⟨by kernel_rfl, rfl⟩, ⟨by kernel_rfl, okV_ptr (by omega)⟩, ⟨by kernel_rfl, okV_sl (by omega)⟩, ⟨by kernel_rfl, rfl⟩, ⟨by kernel_rfl, rfl⟩, trivial⟩
    clear n0
    intro j hj
    have n0 : (rHR N x ls (gM (roundF N (cF ls) poison f) firstF i j)).get 0 = some ⟨34, true, [.int .i64 N, FS 48 ls.length x (lcs ls).toArray]⟩ := rfl
    by_cases hlt2 : j < N
    · have d2 : decide ((j : Int) < N) = true := decide_eq_true (by omega)
      by_cases hij : i = j
      · have e1 : ((i : Int) == (j : Int)) = true := beq_iff_eq.2 (by omega)
        refine Wp.seq (Wp.seq (Wp.text ?_))
        refine kp 21 (.int IntKind.i64 (↑j : Int)) ?_
        refine kp 22 (.pointer (some ⟨0, 0, none⟩)) ?_
        refine kp 23 (.int IntKind.i64 (↑N : Int)) ?_
        refine kp 24 (.bool true) ?_ (hop := fun _ => by_fact d2)
        refine WpOps.nil (thenK_at (on' (Wp.skip (thenK_at (Wp.seq (Wp.block (Wp.seq (Wp.seq (Wp.text ?_)))))))))
        refine kp 27 (.int IntKind.i64 (↑i : Int)) ?_
        refine kp 28 (.int IntKind.i64 (↑j : Int)) ?_
        refine kp 29 (.bool true) ?_ (hop := fun _ => by_fact e1)
        refine WpOps.nil (thenK_at (on' (Wp.exit (thenK_exit (blockK_hit (thenK_at (Wp.text ?_)))))))
        refine kp 25 (.int IntKind.i64 (↑j : Int)) ?_
        refine kp 26 (.int IntKind.i64 (IntKind.wrap .i64 ((↑j : Int) + 1))) ?_
        refine kp 9 (.int IntKind.i64 (IntKind.wrap .i64 ((↑j : Int) + 1))) ?_
        refine WpOps.nil (thenK_at ?_)
        refine ⟨j + 1, by omega, by omega, ?_⟩
        have hR : roundF N (cF ls) poison f i j = gM (roundF N (cF ls) poison f) firstF i j i j := by
          rw [gM_at]
          subst hij
          unfold roundF firstF
          rw [if_pos rfl, if_pos rfl]
          exact hd i hlt
        rw [← putM_gM, hR, putM_self]
        exact rViewR rfl rfl (fun a ha => rHR_row ha) ⟨⟨by kernel_rfl, rfl⟩, ⟨by kernel_rfl, rfl⟩, ⟨by kernel_rfl, okV_ptr (by omega)⟩, ⟨by kernel_rfl, okV_sl (by omega)⟩, ⟨by kernel_rfl, rfl⟩, ⟨congrArg (Value.int .i64) (wr _ (by omega) (by omega)), rfl⟩, trivial⟩
      · have e1 : ((i : Int) == (j : Int)) = false := beq_eq_false_iff_ne.2 (by omega)
        refine Wp.seq (Wp.seq (Wp.text ?_))
        refine kp 21 (.int IntKind.i64 (↑j : Int)) ?_
        refine kp 22 (.pointer (some ⟨0, 0, none⟩)) ?_
        refine kp 23 (.int IntKind.i64 (↑N : Int)) ?_
        refine kp 24 (.bool true) ?_ (hop := fun _ => by_fact d2)
        refine WpOps.nil (thenK_at (on' (Wp.skip (thenK_at (Wp.seq (Wp.block (Wp.seq (Wp.seq (Wp.text ?_)))))))))
        refine kp 27 (.int IntKind.i64 (↑i : Int)) ?_
        refine kp 28 (.int IntKind.i64 (↑j : Int)) ?_
        refine kp 29 (.bool false) ?_ (hop := fun _ => by_fact e1)
        refine WpOps.nil (thenK_at (off' (Wp.skip (thenK_at (Wp.seq (Wp.text ?_))))))
        refine kp 10 (.int IntKind.i64 0) ?_
        refine WpOps.nil (thenK_at (Wp.block ?_))
        refine Wp.loop (G := Nat) (fun v => layj [(1, matF 92 93 N (rowsM N f)), (2, .bool poison), (3, .pointer (some ⟨0, 0, none⟩)), (7, .slice (some ⟨1, 0, none⟩) N N), (8, .int .i64 i), (9, .int .i64 j), (10, .int .i64 v)]) (fun v => rHR N x ls (putM (gM (roundF N (cF ls) poison f) firstF i j) i j (bestN (cF ls) poison f i j v))) (fun v => N - v) (fun v => v ≤ N) 0
          ?_ (Nat.zero_le _) ?_
        · have hR : bestN (cF ls) poison f i j 0 = gM (roundF N (cF ls) poison f) firstF i j i j := by
            rw [gM_at]
            exact (if_neg hij).symm
          rw [hR, putM_self]
          exact rViewR rfl rfl (fun a ha => rHR_row ha) ⟨⟨by kernel_rfl, rfl⟩, ⟨by kernel_rfl, rfl⟩, ⟨by kernel_rfl, okV_ptr (by omega)⟩, ⟨by kernel_rfl, okV_sl (by omega)⟩, ⟨by kernel_rfl, rfl⟩, ⟨by kernel_rfl, rfl⟩, ⟨by kernel_rfl, rfl⟩, trivial⟩
        clear n0
        intro v hv
        have n0 : (rHR N x ls (putM (gM (roundF N (cF ls) poison f) firstF i j) i j (bestN (cF ls) poison f i j v))).get 0 = some ⟨34, true, [.int .i64 N, FS 48 ls.length x (lcs ls).toArray]⟩ := rfl
        by_cases hlt3 : v < N
        · have d3 : decide ((v : Int) < N) = true := decide_eq_true (by omega)
          have c3 := c2 i v
          refine Wp.seq (Wp.seq (Wp.text ?_))
          refine kp 30 (.int IntKind.i64 (↑v : Int)) ?_
          refine kp 31 (.pointer (some ⟨0, 0, none⟩)) ?_
          refine kp 32 (.int IntKind.i64 (↑N : Int)) ?_
          refine kp 33 (.bool true) ?_ (hop := fun _ => by_fact d3)
          refine WpOps.nil (thenK_at (on' (Wp.skip (thenK_at (Wp.seq (Wp.block (Wp.seq (Wp.text ?_))))))))
          refine kp 36 (.agg #[Value.int .i64 (↑N : Int), Value.iface 48 (Value.iface (List.length ls) (Value.iface x (Value.agg (List.toArray (lcs ls)))))]) ?_
          refine kp 37 (.int IntKind.i64 (↑i : Int)) ?_
          refine kp 38 (.int IntKind.i64 (↑v : Int)) ?_
          refine fr 39 52 [Value.agg #[Value.int .i64 (↑N : Int), Value.iface 48 (Value.iface (List.length ls) (Value.iface x (Value.agg (List.toArray (lcs ls)))))], Value.int .i64 (↑i : Int), Value.int .i64 (↑v : Int)] ?_
          refine WpFun.of (c2 _ _) ?_
          refine kp 11 (.int IntKind.i64 (cF ls i v)) ?_
          refine WpOps.nil (thenK_at (Wp.seq (Wp.seq (Wp.text ?_))))
          refine kp 40 (.int IntKind.i64 (↑v : Int)) ?_
          refine kp 41 (.int IntKind.i64 (↑i : Int)) ?_
          refine kp 42 (.bool ((↑v : Int) == (↑i : Int))) ?_
          refine kp 43 (.bool ((↑v : Int) == (↑i : Int))) ?_
          refine WpOps.fork 3 ((↑v : Int) == (↑i : Int)) [44, 45, 46] 46 (true) (cF ls i v == 0) (by kernel_rfl) (fun g46 => ?_) (fun g46 => ?_) (fun f_46 b46 hb46 => ?_)
          · refine um 44 ?_ (hw := wants_tf g46)
            refine um 45 ?_ (hw := wants_tf g46)
            refine kp 46 (.bool true) ?_ (hop := fun _ => o_pickT g46)
            refine WpOps.nil ?_
            exact ⟨rfl, (.upd rfl (.upd rfl (.upd rfl .refl))), (by kernel_rfl)⟩
          · refine kp 44 (.int IntKind.i64 (cF ls i v)) ?_ (hw := wants_ff g46)
            refine kp 45 (.bool (cF ls i v == 0)) ?_ (hw := wants_ff g46)
            refine kp 46 (.bool (cF ls i v == 0)) ?_ (hop := fun _ => o_pickF g46)
            refine WpOps.nil ?_
            exact ⟨rfl, (.upd rfl (.upd rfl (.upd rfl .refl))), (by kernel_rfl)⟩
          refine WpOps.nil (thenK_at ?_)
          have hb46' := hb46
          refine Wp.split (b46) (by kernel_rfl) (fun hx => ?_) (fun hx => ?_)
          · have h0 : cF ls i v = 0 := by
              have hb := hb46.symm.trans hx
              by_cases e : v = i
              · rw [e]
                exact hc0 i
              · have e' : ((v : Int) == (i : Int)) = false := beq_eq_false_iff_ne.2 (by omega)
                rw [e'] at hb
                simpa using hb
            refine Wp.exit (thenK_exit (blockK_hit (thenK_at (Wp.text ?_))))
            refine kp 34 (.int IntKind.i64 (↑v : Int)) ?_
            refine kp 35 (.int IntKind.i64 (IntKind.wrap .i64 ((↑v : Int) + 1))) ?_
            refine kp 10 (.int IntKind.i64 (IntKind.wrap .i64 ((↑v : Int) + 1))) ?_
            refine WpOps.nil (thenK_at ?_)
            refine ⟨v + 1, by omega, by omega, ?_⟩
            have eb : bestN (cF ls) poison f i j (v + 1) = bestN (cF ls) poison f i j v := if_pos h0
            rw [eb]
            exact rViewR rfl rfl (fun a ha => rHR_row ha) ⟨⟨by kernel_rfl, rfl⟩, ⟨by kernel_rfl, rfl⟩, ⟨by kernel_rfl, okV_ptr (by omega)⟩, ⟨by kernel_rfl, okV_sl (by omega)⟩, ⟨by kernel_rfl, rfl⟩, ⟨by kernel_rfl, rfl⟩, ⟨congrArg (Value.int .i64) (wr _ (by omega) (by omega)), rfl⟩, trivial⟩
          · have h0 : ¬ cF ls i v = 0 := fun e => by
              have hb := hb46.symm.trans hx
              rw [e] at hb
              cases h : ((v : Int) == (i : Int)) <;> rw [h] at hb <;> cases hb
            have g1 : 0 ≤ (v : Int) ∧ (v : Int) < N := by omega
            have g2 : 0 ≤ (j : Int) ∧ (j : Int) < N := by omega
            have g3 : 0 ≤ (i : Int) ∧ (i : Int) < N := by omega
            have u4 := matF_at 93 N (rowsM N f) (rowsM_at (f := f) hlt3)
            obtain ⟨u5, u6⟩ := rowM_at f v hlt2
            have hcw := hcr i v
            have hfw := hf v j hlt3 hlt2
            have u1 : (rowsV 2 N N)[0 + (i : Int).toNat * 1]? = some (.slice (some ⟨i + 2, 0, none⟩) N N) := by
              rw [Int.toNat_natCast, Nat.zero_add, Nat.mul_one]
              exact rowsV_at hlt
            have hrow := rHR_row (x := x) (ls := ls) (g := putM (gM (roundF N (cF ls) poison f) firstF i j) i j (bestN (cF ls) poison f i j v)) hlt
            have hput : putM (gM (roundF N (cF ls) poison f) firstF i j) i j (bestN (cF ls) poison f i j v) i j = bestN (cF ls) poison f i j v := if_pos ⟨rfl, rfl⟩
            obtain ⟨u7, u8⟩ := rowM_at (putM (gM (roundF N (cF ls) poison f) firstF i j) i j (bestN (cF ls) poison f i j v)) i hlt2
            rw [hput] at u7 u8
            rw [List.toList_toArray] at u7 u8
            rw [show ((j : Int).toNat * 2 + 0) = 0 + (j : Int).toNat * 2 + 0 by omega] at u7
            have q1 : ∀ a b : Int, true = true ∧ 0 + (j : Int).toNat * 2 + [Value.int .i64 a, .int .i64 b].length ≤ (rcs ((List.range N).map (putM (gM (roundF N (cF ls) poison f) firstF i j) i j (bestN (cF ls) poison f i j v) i))).length := fun a b => ⟨rfl, by rw [rcs_len, List.length_map, List.length_range]; simp; omega⟩
            refine Wp.skip (thenK_at (Wp.seq (Wp.text ?_)))
            refine kp 47 (.iface 92 (Value.iface N (Value.iface 0 (Value.agg (List.toArray (List.map (fun r => FS 93 N 0 (List.toArray r)) (rowsM N f))))))) ?_
            refine kp 48 (.int IntKind.i64 (↑v : Int)) ?_
            refine kp 49 (.iface 92 (Value.iface (Int.toNat (↑v : Int) * 1) (Value.agg (List.toArray (List.map (fun r => FS 93 N 0 (List.toArray r)) (rowsM N f)))))) ?_ (hop := fun _ => o_indexI (e := 92) (size := 1) (a := (↑v : Int)) g1)
            refine kp 50 (.iface 93 (Value.iface N (Value.iface 0 (Value.agg (List.toArray (rcs (List.map (f v) (List.range N)))))))) ?_ (hop := fun _ => o_loadI1 (Int.toNat (↑v : Int) * 1) u4)
            refine kp 51 (.int IntKind.i64 (↑j : Int)) ?_
            refine kp 52 (.iface 93 (Value.iface (Int.toNat (↑j : Int) * 2) (Value.agg (List.toArray (rcs (List.map (f v) (List.range N))))))) ?_ (hop := fun _ => o_indexI (e := 93) (size := 2) (a := (↑j : Int)) g2)
            refine kp 53 (.iface 93 (Value.iface (Int.toNat (↑j : Int) * 2 + 0) (Value.agg (List.toArray (rcs (List.map (f v) (List.range N))))))) ?_
            refine kp 54 (.int IntKind.i64 (Prod.fst (f v j))) ?_ (hop := fun _ => o_loadI1 (Int.toNat (↑j : Int) * 2 + 0) u5)
            refine kp 12 (.int IntKind.i64 (Prod.fst (f v j))) ?_
            refine WpOps.nil (thenK_at (Wp.seq (Wp.seq (Wp.text ?_))))
            refine kp 55 (.bool poison) ?_
            refine kp 56 (.bool poison) ?_
            refine WpOps.fork 11 (poison) [57, 58, 59, 60, 61, 62, 63, 64, 65, 66, 67] 67 (Prod.snd (f v j) == (↑i : Int)) (false) (by kernel_rfl) (fun g67 => ?_) (fun g67 => ?_) (fun f_67 b67 hb67 => ?_)
            · refine kp 57 (.iface 92 (Value.iface N (Value.iface 0 (Value.agg (List.toArray (List.map (fun r => FS 93 N 0 (List.toArray r)) (rowsM N f))))))) ?_ (hw := wants_tt g67)
              refine kp 58 (.int IntKind.i64 (↑v : Int)) ?_ (hw := wants_tt g67)
              refine kp 59 (.iface 92 (Value.iface (Int.toNat (↑v : Int) * 1) (Value.agg (List.toArray (List.map (fun r => FS 93 N 0 (List.toArray r)) (rowsM N f)))))) ?_ (hw := wants_tt g67) (hop := fun _ => o_indexI (e := 92) (size := 1) (a := (↑v : Int)) g1)
              refine kp 60 (.iface 93 (Value.iface N (Value.iface 0 (Value.agg (List.toArray (rcs (List.map (f v) (List.range N)))))))) ?_ (hw := wants_tt g67) (hop := fun _ => o_loadI1 (Int.toNat (↑v : Int) * 1) u4)
              refine kp 61 (.int IntKind.i64 (↑j : Int)) ?_ (hw := wants_tt g67)
              refine kp 62 (.iface 93 (Value.iface (Int.toNat (↑j : Int) * 2) (Value.agg (List.toArray (rcs (List.map (f v) (List.range N))))))) ?_ (hw := wants_tt g67) (hop := fun _ => o_indexI (e := 93) (size := 2) (a := (↑j : Int)) g2)
              refine kp 63 (.iface 93 (Value.iface (Int.toNat (↑j : Int) * 2 + 1) (Value.agg (List.toArray (rcs (List.map (f v) (List.range N))))))) ?_ (hw := wants_tt g67)
              refine kp 64 (.int IntKind.i64 (Prod.snd (f v j))) ?_ (hw := wants_tt g67) (hop := fun _ => o_loadI1 (Int.toNat (↑j : Int) * 2 + 1) u6)
              refine kp 65 (.int IntKind.i64 (↑i : Int)) ?_ (hw := wants_tt g67)
              refine kp 66 (.bool (Prod.snd (f v j) == (↑i : Int))) ?_ (hw := wants_tt g67)
              refine kp 67 (.bool (Prod.snd (f v j) == (↑i : Int))) ?_ (hop := fun _ => o_pickT g67)
              refine WpOps.nil ?_
              exact ⟨rfl, (.upd rfl (.upd rfl (.upd rfl (.upd rfl (.upd rfl (.upd rfl (.upd rfl (.upd rfl (.upd rfl (.upd rfl (.upd rfl .refl))))))))))), (by kernel_rfl)⟩
            · refine um 57 ?_ (hw := wants_ft g67)
              refine um 58 ?_ (hw := wants_ft g67)
              refine um 59 ?_ (hw := wants_ft g67)
              refine um 60 ?_ (hw := wants_ft g67)
              refine um 61 ?_ (hw := wants_ft g67)
              refine um 62 ?_ (hw := wants_ft g67)
              refine um 63 ?_ (hw := wants_ft g67)
              refine um 64 ?_ (hw := wants_ft g67)
              refine um 65 ?_ (hw := wants_ft g67)
              refine um 66 ?_ (hw := wants_ft g67)
              refine kp 67 (.bool false) ?_ (hop := fun _ => o_pickF g67)
              refine WpOps.nil ?_
              exact ⟨rfl, (.upd rfl (.upd rfl (.upd rfl (.upd rfl (.upd rfl (.upd rfl (.upd rfl (.upd rfl (.upd rfl (.upd rfl (.upd rfl .refl))))))))))), (by kernel_rfl)⟩
            refine WpOps.nil (thenK_at ?_)
            have hb67' := hb67
            refine Wp.split (b67) (by kernel_rfl) (fun hx2 => ?_) (fun hx2 => ?_)
            · have hh : heard poison i (f v j) = 16 := if_pos (hb67.symm.trans hx2)
              have hwr := wr (cF ls i v + 16) (by omega) (by omega)
              have q2 := q1 (IntKind.i64.wrap (cF ls i v + 16)) v
              refine Wp.text ?_
              refine kp 12 (.int IntKind.i64 16) ?_
              refine WpOps.nil (thenK_at (Wp.seq (Wp.text ?_)))
              refine kp 68 (.int IntKind.i64 (cF ls i v)) ?_
              refine kp 69 (.int IntKind.i64 16) ?_
              refine kp 70 (.int IntKind.i64 (IntKind.wrap .i64 (cF ls i v + 16))) ?_
              refine kp 71 (.slice (some ⟨1, 0, none⟩) N N) ?_
              refine kp 72 (.int IntKind.i64 (↑i : Int)) ?_
              refine kp 73 (.pointer (some (Addr.mk 1 (0 + Int.toNat (↑i : Int) * 1) none))) ?_ (hop := fun _ => o_indexAddr (a := (↑i : Int)) (bl := 1) (off := 0) (size := 1) 92 (N) g3)
              refine kp 74 (.slice (some (Addr.mk (i + 2) 0 none)) N N) ?_ (hop := fun _ => o_load1 (1) (0 + Int.toNat (↑i : Int) * 1) u1)
              refine kp 75 (.int IntKind.i64 (↑j : Int)) ?_
              refine kp 76 (.pointer (some (Addr.mk (i + 2) (0 + Int.toNat (↑j : Int) * 2) none))) ?_ (hop := fun _ => o_indexAddr (a := (↑j : Int)) (bl := i + 2) (off := 0) (size := 2) 93 (N) g2)
              refine kp 77 (.pointer (some (Addr.mk (i + 2) (0 + Int.toNat (↑j : Int) * 2 + 0) none))) ?_
              refine kp 78 (.int IntKind.i64 (Prod.fst (bestN (cF ls) poison f i j v))) ?_ (hop := fun _ => o_load1H (i + 2) (0 + Int.toNat (↑j : Int) * 2 + 0) hrow u7)
              refine kp 79 (.bool (decide (IntKind.wrap .i64 (cF ls i v + 16) < Prod.fst (bestN (cF ls) poison f i j v)))) ?_
              refine WpOps.nil (thenK_at ?_)
              refine Wp.split (decide (IntKind.wrap IntKind.i64 (cF ls i v + 16) < Prod.fst (bestN (cF ls) poison f i j v))) (by kernel_rfl) (fun hc => ?_) (fun hc => ?_)
              · rw [hwr] at hc
                have hc' : cF ls i v + 16 < (bestN (cF ls) poison f i j v).1 := of_decide_eq_true hc
                have eb : bestN (cF ls) poison f i j (v + 1) = (cF ls i v + 16, (v : Int)) := by
                  show better _ _ _ _ = _
                  unfold better
                  rw [if_neg h0, hh, if_pos hc']
                refine Wp.text ?_
                refine kp 80 (.slice (some ⟨1, 0, none⟩) N N) ?_
                refine kp 81 (.int IntKind.i64 (↑i : Int)) ?_
                refine kp 82 (.pointer (some (Addr.mk 1 (0 + Int.toNat (↑i : Int) * 1) none))) ?_ (hop := fun _ => o_indexAddr (a := (↑i : Int)) (bl := 1) (off := 0) (size := 1) 92 (N) g3)
                refine kp 83 (.slice (some (Addr.mk (i + 2) 0 none)) N N) ?_ (hop := fun _ => o_load1 (1) (0 + Int.toNat (↑i : Int) * 1) u1)
                refine kp 84 (.int IntKind.i64 (↑j : Int)) ?_
                refine kp 85 (.int IntKind.i64 (cF ls i v)) ?_
                refine kp 86 (.int IntKind.i64 16) ?_
                refine kp 87 (.int IntKind.i64 (IntKind.wrap .i64 (cF ls i v + 16))) ?_
                refine kp 88 (.int IntKind.i64 (↑v : Int)) ?_
                refine kp 89 (.agg #[Value.int .i64 (IntKind.wrap .i64 (cF ls i v + 16)), Value.int .i64 (↑v : Int)]) ?_
                refine kp 90 (.pointer (some (Addr.mk (i + 2) (0 + Int.toNat (↑j : Int) * 2) none))) ?_ (hop := fun _ => o_indexAddr (a := (↑j : Int)) (bl := i + 2) (off := 0) (size := 2) 93 (N) g2)
                refine ld (.tuple #[]) (i + 2) (Blk.mk 93 true (List.set (List.set (rcs (List.map (putM (gM (roundF N (cF ls) poison f) firstF i j) i j (bestN (cF ls) poison f i j v) i) (List.range N))) (0 + Int.toNat (↑j : Int) * 2) (Value.int .i64 (IntKind.wrap .i64 (cF ls i v + 16)))) (0 + Int.toNat (↑j : Int) * 2 + 1) (Value.int .i64 (↑v : Int)))) ?_ (hop := fun _ => o_storeH (v := Value.agg #[Value.int IntKind.i64 (IntKind.wrap IntKind.i64 (cF ls i v + 16)), Value.int IntKind.i64 (↑v : Int)]) (xs := [Value.int IntKind.i64 (IntKind.wrap IntKind.i64 (cF ls i v + 16)), Value.int IntKind.i64 (↑v : Int)]) (i + 2) (0 + Int.toNat (↑j : Int) * 2) hrow q2)
                refine WpOps.nil (blockK_norm (thenK_at (Wp.text ?_)))
                refine kp 34 (.int IntKind.i64 (↑v : Int)) ?_
                refine kp 35 (.int IntKind.i64 (IntKind.wrap .i64 ((↑v : Int) + 1))) ?_
                refine kp 10 (.int IntKind.i64 (IntKind.wrap .i64 ((↑v : Int) + 1))) ?_
                refine WpOps.nil (thenK_at ?_)
                refine ⟨v + 1, by omega, by omega, ?_⟩
                rw [eb]
                refine rViewR ?_ ?_ (fun a ha => ?_) ⟨⟨by kernel_rfl, rfl⟩, ⟨by kernel_rfl, rfl⟩, ⟨by kernel_rfl, okV_ptr (by omega)⟩, ⟨by kernel_rfl, okV_sl (by omega)⟩, ⟨by kernel_rfl, rfl⟩, ⟨by kernel_rfl, rfl⟩, ⟨congrArg (Value.int .i64) (wr _ (by omega) (by omega)), rfl⟩, trivial⟩
                · rw [Heap.get_set, if_neg (by omega)]
                  rfl
                · rw [Heap.get_set, if_neg (by omega)]
                  rfl
                · rw [Heap.get_set]
                  by_cases e : a = i
                  · subst e
                    rw [if_pos rfl, hwr, Int.toNat_natCast, Nat.zero_add, rcs_set, putM_set _ hlt2, putM_put]
                  · rw [if_neg (by omega), rHR_row ha, putM_row _ _ e, putM_row _ _ e]
              · rw [hwr] at hc
                have hc' : ¬ cF ls i v + 16 < (bestN (cF ls) poison f i j v).1 := of_decide_eq_false hc
                have eb : bestN (cF ls) poison f i j (v + 1) = bestN (cF ls) poison f i j v := by
                  show better _ _ _ _ = _
                  unfold better
                  rw [if_neg h0, hh, if_neg hc']
                refine Wp.skip (blockK_norm (thenK_at (Wp.text ?_)))
                refine kp 34 (.int IntKind.i64 (↑v : Int)) ?_
                refine kp 35 (.int IntKind.i64 (IntKind.wrap .i64 ((↑v : Int) + 1))) ?_
                refine kp 10 (.int IntKind.i64 (IntKind.wrap .i64 ((↑v : Int) + 1))) ?_
                refine WpOps.nil (thenK_at ?_)
                refine ⟨v + 1, by omega, by omega, ?_⟩
                rw [eb]
                exact rViewR rfl rfl (fun a ha => rHR_row ha) ⟨⟨by kernel_rfl, rfl⟩, ⟨by kernel_rfl, rfl⟩, ⟨by kernel_rfl, okV_ptr (by omega)⟩, ⟨by kernel_rfl, okV_sl (by omega)⟩, ⟨by kernel_rfl, rfl⟩, ⟨by kernel_rfl, rfl⟩, ⟨congrArg (Value.int .i64) (wr _ (by omega) (by omega)), rfl⟩, trivial⟩
            · have hh : heard poison i (f v j) = (f v j).1 := if_neg (by rw [← hb67, hx2]; decide)
              have hwr := wr (cF ls i v + (f v j).1) (by omega) (by omega)
              have q2 := q1 (IntKind.i64.wrap (cF ls i v + (f v j).1)) v
              refine Wp.skip (thenK_at (Wp.seq (Wp.text ?_)))
              refine kp 68 (.int IntKind.i64 (cF ls i v)) ?_
              refine kp 69 (.int IntKind.i64 (Prod.fst (f v j))) ?_
              refine kp 70 (.int IntKind.i64 (IntKind.wrap .i64 (cF ls i v + Prod.fst (f v j)))) ?_
              refine kp 71 (.slice (some ⟨1, 0, none⟩) N N) ?_
              refine kp 72 (.int IntKind.i64 (↑i : Int)) ?_
              refine kp 73 (.pointer (some (Addr.mk 1 (0 + Int.toNat (↑i : Int) * 1) none))) ?_ (hop := fun _ => o_indexAddr (a := (↑i : Int)) (bl := 1) (off := 0) (size := 1) 92 (N) g3)
              refine kp 74 (.slice (some (Addr.mk (i + 2) 0 none)) N N) ?_ (hop := fun _ => o_load1 (1) (0 + Int.toNat (↑i : Int) * 1) u1)
              refine kp 75 (.int IntKind.i64 (↑j : Int)) ?_
              refine kp 76 (.pointer (some (Addr.mk (i + 2) (0 + Int.toNat (↑j : Int) * 2) none))) ?_ (hop := fun _ => o_indexAddr (a := (↑j : Int)) (bl := i + 2) (off := 0) (size := 2) 93 (N) g2)
              refine kp 77 (.pointer (some (Addr.mk (i + 2) (0 + Int.toNat (↑j : Int) * 2 + 0) none))) ?_
              refine kp 78 (.int IntKind.i64 (Prod.fst (bestN (cF ls) poison f i j v))) ?_ (hop := fun _ => o_load1H (i + 2) (0 + Int.toNat (↑j : Int) * 2 + 0) hrow u7)
              refine kp 79 (.bool (decide (IntKind.wrap .i64 (cF ls i v + Prod.fst (f v j)) < Prod.fst (bestN (cF ls) poison f i j v)))) ?_
              refine WpOps.nil (thenK_at ?_)
              refine Wp.split (decide (IntKind.wrap IntKind.i64 (cF ls i v + Prod.fst (f v j)) < Prod.fst (bestN (cF ls) poison f i j v))) (by kernel_rfl) (fun hc => ?_) (fun hc => ?_)
              · rw [hwr] at hc
                have hc' : cF ls i v + (f v j).1 < (bestN (cF ls) poison f i j v).1 := of_decide_eq_true hc
                have eb : bestN (cF ls) poison f i j (v + 1) = (cF ls i v + (f v j).1, (v : Int)) := by
                  show better _ _ _ _ = _
                  unfold better
                  rw [if_neg h0, hh, if_pos hc']
                refine Wp.text ?_
                refine kp 80 (.slice (some ⟨1, 0, none⟩) N N) ?_
                refine kp 81 (.int IntKind.i64 (↑i : Int)) ?_
                refine kp 82 (.pointer (some (Addr.mk 1 (0 + Int.toNat (↑i : Int) * 1) none))) ?_ (hop := fun _ => o_indexAddr (a := (↑i : Int)) (bl := 1) (off := 0) (size := 1) 92 (N) g3)
                refine kp 83 (.slice (some (Addr.mk (i + 2) 0 none)) N N) ?_ (hop := fun _ => o_load1 (1) (0 + Int.toNat (↑i : Int) * 1) u1)
                refine kp 84 (.int IntKind.i64 (↑j : Int)) ?_
                refine kp 85 (.int IntKind.i64 (cF ls i v)) ?_
                refine kp 86 (.int IntKind.i64 (Prod.fst (f v j))) ?_
                refine kp 87 (.int IntKind.i64 (IntKind.wrap .i64 (cF ls i v + Prod.fst (f v j)))) ?_
                refine kp 88 (.int IntKind.i64 (↑v : Int)) ?_
                refine kp 89 (.agg #[Value.int .i64 (IntKind.wrap .i64 (cF ls i v + Prod.fst (f v j))), Value.int .i64 (↑v : Int)]) ?_
                refine kp 90 (.pointer (some (Addr.mk (i + 2) (0 + Int.toNat (↑j : Int) * 2) none))) ?_ (hop := fun _ => o_indexAddr (a := (↑j : Int)) (bl := i + 2) (off := 0) (size := 2) 93 (N) g2)
                refine ld (.tuple #[]) (i + 2) (Blk.mk 93 true (List.set (List.set (rcs (List.map (putM (gM (roundF N (cF ls) poison f) firstF i j) i j (bestN (cF ls) poison f i j v) i) (List.range N))) (0 + Int.toNat (↑j : Int) * 2) (Value.int .i64 (IntKind.wrap .i64 (cF ls i v + Prod.fst (f v j))))) (0 + Int.toNat (↑j : Int) * 2 + 1) (Value.int .i64 (↑v : Int)))) ?_ (hop := fun _ => o_storeH (v := Value.agg #[Value.int IntKind.i64 (IntKind.wrap IntKind.i64 (cF ls i v + Prod.fst (f v j))), Value.int IntKind.i64 (↑v : Int)]) (xs := [Value.int IntKind.i64 (IntKind.wrap IntKind.i64 (cF ls i v + Prod.fst (f v j))), Value.int IntKind.i64 (↑v : Int)]) (i + 2) (0 + Int.toNat (↑j : Int) * 2) hrow q2)
                refine WpOps.nil (blockK_norm (thenK_at (Wp.text ?_)))
                refine kp 34 (.int IntKind.i64 (↑v : Int)) ?_
                refine kp 35 (.int IntKind.i64 (IntKind.wrap .i64 ((↑v : Int) + 1))) ?_
                refine kp 10 (.int IntKind.i64 (IntKind.wrap .i64 ((↑v : Int) + 1))) ?_
                refine WpOps.nil (thenK_at ?_)
                refine ⟨v + 1, by omega, by omega, ?_⟩
                rw [eb]
                refine rViewR ?_ ?_ (fun a ha => ?_) ⟨⟨by kernel_rfl, rfl⟩, ⟨by kernel_rfl, rfl⟩, ⟨by kernel_rfl, okV_ptr (by omega)⟩, ⟨by kernel_rfl, okV_sl (by omega)⟩, ⟨by kernel_rfl, rfl⟩, ⟨by kernel_rfl, rfl⟩, ⟨congrArg (Value.int .i64) (wr _ (by omega) (by omega)), rfl⟩, trivial⟩
                · rw [Heap.get_set, if_neg (by omega)]
                  rfl
                · rw [Heap.get_set, if_neg (by omega)]
                  rfl
                · rw [Heap.get_set]
                  by_cases e : a = i
                  · subst e
                    rw [if_pos rfl, hwr, Int.toNat_natCast, Nat.zero_add, rcs_set, putM_set _ hlt2, putM_put]
                  · rw [if_neg (by omega), rHR_row ha, putM_row _ _ e, putM_row _ _ e]
              · rw [hwr] at hc
                have hc' : ¬ cF ls i v + (f v j).1 < (bestN (cF ls) poison f i j v).1 := of_decide_eq_false hc
                have eb : bestN (cF ls) poison f i j (v + 1) = bestN (cF ls) poison f i j v := by
                  show better _ _ _ _ = _
                  unfold better
                  rw [if_neg h0, hh, if_neg hc']
                refine Wp.skip (blockK_norm (thenK_at (Wp.text ?_)))
                refine kp 34 (.int IntKind.i64 (↑v : Int)) ?_
                refine kp 35 (.int IntKind.i64 (IntKind.wrap .i64 ((↑v : Int) + 1))) ?_
                refine kp 10 (.int IntKind.i64 (IntKind.wrap .i64 ((↑v : Int) + 1))) ?_
                refine WpOps.nil (thenK_at ?_)
                refine ⟨v + 1, by omega, by omega, ?_⟩
                rw [eb]
                exact rViewR rfl rfl (fun a ha => rHR_row ha) ⟨⟨by kernel_rfl, rfl⟩, ⟨by kernel_rfl, rfl⟩, ⟨by kernel_rfl, okV_ptr (by omega)⟩, ⟨by kernel_rfl, okV_sl (by omega)⟩, ⟨by kernel_rfl, rfl⟩, ⟨by kernel_rfl, rfl⟩, ⟨congrArg (Value.int .i64) (wr _ (by omega) (by omega)), rfl⟩, trivial⟩
        · obtain rfl : v = N := by omega
          have d3 : decide ((v : Int) < v) = false := decide_eq_false (by omega)
          refine Wp.seq (Wp.seq (Wp.text ?_))
          refine kp 30 (.int IntKind.i64 (↑v : Int)) ?_
          refine kp 31 (.pointer (some ⟨0, 0, none⟩)) ?_
          refine kp 32 (.int IntKind.i64 (↑v : Int)) ?_
          refine kp 33 (.bool false) ?_ (hop := fun _ => by_fact d3)
          refine WpOps.nil (thenK_at (off' (Wp.exit (thenK_exit (thenK_exit (blockK_hit (blockK_norm (thenK_at (Wp.text ?_)))))))))
          refine kp 25 (.int IntKind.i64 (↑j : Int)) ?_
          refine kp 26 (.int IntKind.i64 (IntKind.wrap .i64 ((↑j : Int) + 1))) ?_
          refine kp 9 (.int IntKind.i64 (IntKind.wrap .i64 ((↑j : Int) + 1))) ?_
          refine WpOps.nil (thenK_at ?_)
          refine ⟨j + 1, by omega, by omega, ?_⟩
          have hR : bestN (cF ls) poison f i j v = roundF v (cF ls) poison f i j := (if_neg (fun e => hij e.symm)).symm
          rw [hR, putM_gM]
          exact rViewR rfl rfl (fun a ha => rHR_row ha) ⟨⟨by kernel_rfl, rfl⟩, ⟨by kernel_rfl, rfl⟩, ⟨by kernel_rfl, okV_ptr (by omega)⟩, ⟨by kernel_rfl, okV_sl (by omega)⟩, ⟨by kernel_rfl, rfl⟩, ⟨congrArg (Value.int .i64) (wr _ (by omega) (by omega)), rfl⟩, trivial⟩
    · obtain rfl : j = N := by omega
      have d2 : decide ((j : Int) < j) = false := decide_eq_false (by omega)
      refine Wp.seq (Wp.seq (Wp.text ?_))
      refine kp 21 (.int IntKind.i64 (↑j : Int)) ?_
      refine kp 22 (.pointer (some ⟨0, 0, none⟩)) ?_
      refine kp 23 (.int IntKind.i64 (↑j : Int)) ?_
      refine kp 24 (.bool false) ?_ (hop := fun _ => by_fact d2)
      refine WpOps.nil (thenK_at (off' (Wp.exit (thenK_exit (thenK_exit (blockK_hit (blockK_norm (thenK_at (Wp.text ?_)))))))))
      refine kp 19 (.int IntKind.i64 (↑i : Int)) ?_
      refine kp 20 (.int IntKind.i64 (IntKind.wrap .i64 ((↑i : Int) + 1))) ?_
      refine kp 8 (.int IntKind.i64 (IntKind.wrap .i64 ((↑i : Int) + 1))) ?_
      refine WpOps.nil (thenK_at ?_)
      refine ⟨i + 1, by omega, by omega, ?_⟩
      unfold rHR
      rw [← gM_next]
      exact rViewR rfl rfl (fun a ha => rHR_row (x := x) (ls := ls) ha) ⟨⟨by kernel_rfl, rfl⟩, ⟨by kernel_rfl, rfl⟩, ⟨by kernel_rfl, okV_ptr (by omega)⟩, ⟨by kernel_rfl, okV_sl (by omega)⟩, ⟨congrArg (Value.int .i64) (wr _ (by omega) (by omega)), rfl⟩, trivial⟩
  · obtain rfl : i = N := by omega
    have d1 : decide ((i : Int) < i) = false := decide_eq_false (by omega)
    refine Wp.seq (Wp.seq (Wp.text ?_))
    refine kp 15 (.int IntKind.i64 (↑i : Int)) ?_
    refine kp 16 (.pointer (some ⟨0, 0, none⟩)) ?_
    refine kp 17 (.int IntKind.i64 (↑i : Int)) ?_
    refine kp 18 (.bool false) ?_ (hop := fun _ => by_fact d1)
    refine WpOps.nil (thenK_at (off' (Wp.exit (thenK_exit (thenK_exit (blockK_hit (thenK_at (Wp.seq (Wp.text ?_)))))))))
    refine kp 91 (.slice (some ⟨1, 0, none⟩) i i) ?_
    refine kp 6 (.slice (some ⟨1, 0, none⟩) i i) ?_
    refine WpOps.nil (thenK_at (Wp.ret ?_))
    refine endK_retn [Value.slice (some (Addr.mk 1 0 none)) i i] (Value.slice (some (Addr.mk 1 0 none)) i i) (by kernel_rfl) (by kernel_rfl) ?_
    unfold rHR
    rw [gM_done, tabM_eq]
    refine mat_ice (p := 2) (size := 2) (by kernel_rfl) (by kernel_rfl) rowsM_len rfl (fun a r h => ?_) (fun r h => rowsM_row h) (fun r h => rowsM_flat h)
    exact mH_row (pre := [nrf i x ls, ⟨92, true, rowsV 2 i i⟩]) h
end Go.Proofs.Ytfjkanjmggbofaa.D
