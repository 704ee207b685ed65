/- vector.Valid, by the kit's own walk. -/
import Derived.WalkKit
import Derived.BigCall
import Derived.Maps.Own
import Derived.Maps.OwnOps
import Derived.Maps.Views
import Derived.WideKeyPair
import Derived.Test.YtfjkanjmggbofaaFwLem
import Derived.Test.YtfjkanjmggbofaaFwCons
import Derived.Test.YtfjkanjmggbofaaV12b
namespace Go.Proofs.Ytfjkanjmggbofaa.D
open Go.Fw Go.RowKit Go.Maps Go.WideMaps

theorem arr100 : ArrKey Try.prog 100 3 2 := ⟨Try.underlying100, by kernel_rfl, by kernel_rfl, by kernel_rfl⟩
theorem law100 : Keyed Try.prog 100 := Keyed.of_law arr100.law
def kl (a b : Int) : Lit := .string (keyBytes [.int .i64 a, .int .i64 b])
def wf64 (a : Int) : Prop := (Lit.int .i64 a).wf = true
theorem wf64_of {a : Int} (h : 0 ≤ a ∧ a ≤ 1000) : wf64 a := by
  show (decide (IntKind.i64.min ≤ a) && decide (a ≤ IntKind.i64.max)) = true
  have h1 : (IntKind.i64.min : Int) = -9223372036854775808 := by decide
  have h2 : (IntKind.i64.max : Int) = 9223372036854775807 := by decide
  rw [h1, h2]
  simp
  omega
theorem key100 {a b : Int} (wa : wf64 a) (wb : wf64 b) : keyOf Try.prog 100 (.agg #[.int .i64 a, .int .i64 b]) = some (kl a b) := keyOf_pair arr100 Try.underlying3 ⟨140, by kernel_rfl⟩ wa wb
theorem zero4 (w : World) : (zeroValue 4).run Try.prog w = .ok (.bool false) w := by kernel_rfl
/-- The map behind k links. -/
def Ms (ls : List Lk) : Nat → DataW Unit
  | 0 => .map []
  | k + 1 => (Ms ls k).put (kl (lk ls k).1 (lk ls k).2.1) (.lit (.bool true))
theorem Ms_map (ls : List Lk) : ∀ k, IsMap (Ms ls k)
  | 0 => ⟨[], rfl⟩
  | k + 1 => by
    obtain ⟨es, h⟩ := Ms_map ls k
    refine ⟨DataW.insert (kl (lk ls k).1 (lk ls k).2.1, .lit (.bool true)) (es.filter fun p => !p.1.sameKey (kl (lk ls k).1 (lk ls k).2.1)), ?_⟩
    show (Ms ls k).put _ _ = _
    rw [h]
    rfl
theorem kl_inj {a b a' b' : Int} (wa : wf64 a) (wb : wf64 b) (wa' : wf64 a') (wb' : wf64 b') (h : kl a b = kl a' b') : a = a' ∧ b = b' := by
  have h1 := key100 wa wb
  rw [h] at h1
  have h2 := law100.inj h1 (key100 wa' wb')
  simp at h2
  exact h2
theorem Ms_at (ls : List Lk) {a b : Int} (wa : wf64 a) (wb : wf64 b) : ∀ k, (∀ j, j < k → wf64 (lk ls j).1 ∧ wf64 (lk ls j).2.1) → (Ms ls k).atKey (kl a b) (.lit (.bool false)) = .lit (.bool (!allR k fun j => !sameE (lk ls j) (a, b, 0)))
  | 0, _ => rfl
  | k + 1, hw => by
    have ih := Ms_at ls wa wb k fun j hj => hw j (by omega)
    obtain ⟨w1, w2⟩ := hw k (by omega)
    have hs : (allR (k + 1) fun j => !sameE (lk ls j) (a, b, 0)) = ((allR k fun j => !sameE (lk ls j) (a, b, 0)) && !sameE (lk ls k) (a, b, 0)) := by
      unfold allR
      rw [List.range_succ, List.all_append]
      simp
    rw [hs]
    show ((Ms ls k).put _ _).atKey _ _ = _
    by_cases e : (lk ls k).1 = a ∧ (lk ls k).2.1 = b
    · have h1 : sameE (lk ls k) (a, b, 0) = true := by simp [sameE, e]
      rw [e.1, e.2, atKey_put_same (Ms_map ls k) (law100.key (key100 wa wb)), h1]
      simp
    · have h1 : sameE (lk ls k) (a, b, 0) = false := by
        unfold sameE
        simp
        intro h
        exact fun h2 => e ⟨h, h2⟩
      rw [atKey_put_other (fun h => e ?_), ih, h1]
      · simp
      · obtain ⟨h2, h3⟩ := kl_inj wa wb w1 w2 h
        exact ⟨h2.symm, h3.symm⟩
theorem elem_bool {P : Program} {e : TypeId} (he : P.underlying e = some .bool) {v : Value} {d : DataW Unit} {ps : List MemPlace} (h : plainElem P e v = some (d, ps)) : ∃ c, v = .bool c ∧ d = .lit (.bool c) := by
  unfold plainElem at h
  rw [he] at h
  cases v with
  | bool c =>
    simp only [Option.some.injEq, Prod.mk.injEq] at h
    exact ⟨c, rfl, h.1.symm⟩
  | _ => simp at h
theorem lookup_bool {w : World} {b n : Nat} {D : DataW Unit} (h : w.ownsMap Try.prog 100 (plainElem Try.prog 4) b n D) {key : Value} {l : Lit} (hkey : keyOf Try.prog 100 key = some l) : ∃ c, (Instr.lookup 99 (.map (some b)) key false).run Try.prog w = .ok (.bool c) w ∧ D.atKey l (.lit (.bool false)) = .lit (.bool c) := by
  obtain ⟨v, ps, hrun, hv⟩ := h.lookup law100 Try.underlying99 (zero4 w) (plainElem_bool Try.underlying4 false) hkey
  obtain ⟨c, rfl, hc⟩ := elem_bool Try.underlying4 hv
  exact ⟨c, hrun, hc⟩
theorem wpList_lookup_bool (w : World) {ops : Array Oper} {rest : List Oper} {o : Oper} {a : Act} {Q : Exit → Act → World → Prop} (m x : Operand) (hop : o.op = Op.lookup 99 m x false) (hwant : Region.wanted o (yielded ops a.tmps) = true)
    (b n : Nat) (D : DataW Unit) (hm : a.eval m = .map (some b)) (hown : w.ownsMap Try.prog 100 (plainElem Try.prog 4) b n D) (key : Value) (l : Lit) (hx : a.eval x = key) (hkey : keyOf Try.prog 100 key = some l)
    (hK : ∀ c : Bool, D.atKey l (.lit (.bool false)) = .lit (.bool c) → wpList Try.prog ops Q rest (a.put o.dst (.bool c)) w) : wpList Try.prog ops Q (o :: rest) a w := by
  refine wpList_step fun K' hK' => ?_
  rw [if_pos hwant]
  obtain ⟨c, hrun, hat⟩ := lookup_bool hown hkey
  unfold Oper.wp
  simp [execOp, hop, hm, hx, hrun, Result.andThen]
  exact hK' _ _ (hK c hat)
open Go.Fw Go.RowKit Go.Maps Go.WideMaps

theorem linkB_wf {N : Int} {ls : List Lk} {j : Nat} (hN : 1 ≤ N ∧ N ≤ 20) (h : linkB N ls j = true) : wf64 (lk ls j).1 ∧ wf64 (lk ls j).2.1 := by
  unfold linkB okB at h
  simp at h
  exact ⟨wf64_of (by omega), wf64_of (by omega)⟩
set_option maxHeartbeats 4000000 in
set_option maxRecDepth 1000000 in
theorem valid_calls (N : Int) (n cap bl off : Nat) (ls : List Lk) (w : World) (hlen : ls.length = n) (hreach : n ≤ 17592186044416) (hbl : bl < w.heap.size) (hN : 1 ≤ N ∧ N ≤ 20)
    (hc : ∀ j, j < n → w.cell? ⟨bl, off + j * 3, none⟩ = some (.int .i64 (lk ls j).1) ∧ w.cell? ⟨bl, off + j * 3 + 1, none⟩ = some (.int .i64 (lk ls j).2.1) ∧ w.cell? ⟨bl, off + j * 3 + 2, none⟩ = some (.int .i64 (lk ls j).2.2)) :
    Calls Try.prog 25 #[.agg #[.int .i64 N, .slice (some ⟨bl, off, none⟩) n cap]] w fun e w' => e = .returned (.bool (valid N ls)) ∧ Below w.heap.size w w' := by
  have hmm := @run_makeMap Try.prog
  have d1 : decide (N < 1) = false := decide_eq_false (by omega)
  have d2 : decide (N > 20) = false := decide_eq_false (by omega)
  go_enter Try.func25, Try.ntmps25
  go_wp2
  go_loopw [19] (fun vi wr => ∃ k : Nat, vi = .int .i64 k ∧ k ≤ n ∧ (∀ j, j < k → linkB N ls j = true) ∧ wr.ownsMap Try.prog 100 (plainElem Try.prog 4) (w.heap.size + 1) k (Ms ls k) ∧ Below w.heap.size w wr ∧ wr.cell? ⟨w.heap.size, 0, none⟩ = some (.int .i64 N) ∧ w.heap.size + 2 ≤ wr.heap.size) (fun vi wr => n - (match vi with | .int _ m => m.toNat | _ => 0))
  case atStart =>
    refine ⟨0, rfl, Nat.zero_le _, fun j hj => absurd hj (Nat.not_lt_zero _), ?_, ?_, ?_, ?_⟩
    · have := World.ownsMap_made (w.alloc (Obj.cells #[Value.int IntKind.i64 N, Value.slice (some { block := bl, off := off }) n cap] 24)) Try.prog 100 (plainElem (H := Unit) Try.prog 4)
      have e : (w.alloc (Obj.cells #[Value.int IntKind.i64 N, Value.slice (some { block := bl, off := off }) n cap] 24)).heap.size = w.heap.size + 1 := by simp
      rw [e] at this
      exact this
    · exact ((Below.refl _ w).alloc (Nat.le_refl _) _).alloc (by simp) _
    · refine (((Below.refl (w.heap.size + 1) (w.alloc (Obj.cells #[Value.int IntKind.i64 N, Value.slice (some { block := bl, off := off }) n cap] 24))).alloc (by simp) _).cell (by simp)).trans ?_
      exact (World.cell?_alloc_at _ _ _ 0 rfl).trans rfl
    · simp
  case round =>
    obtain ⟨k, rfl, hk, hp, hown, hbw, hN0, hsz⟩ := hrel
    by_cases hkl : k < n
    · have d3 : decide ((k : Int) < n) = true := decide_eq_true (by omega)
      obtain ⟨e0, e1, e2⟩ := hc k hkl
      generalize hlk : lk ls k = l at e0 e1 e2
      obtain ⟨a, b, c⟩ := l
      dsimp only at e0 e1 e2
      have f0 : wr.cell? ⟨bl, off + k * 3, none⟩ = some (.int .i64 a) := (hbw.cell (by exact hbl)).trans e0
      have f1 : wr.cell? ⟨bl, off + k * 3 + 1, none⟩ = some (.int .i64 b) := (hbw.cell (by exact hbl)).trans e1
      have f2 : wr.cell? ⟨bl, off + k * 3 + 2, none⟩ = some (.int .i64 c) := (hbw.cell (by exact hbl)).trans e2
      clear hc e0 e1 e2
      have hlt : w.heap.size < wr.heap.size := by omega
      have hN1 : ((wr.alloc (Obj.cells #[Value.int IntKind.i64 a, Value.int IntKind.i64 b, Value.int IntKind.i64 c] 48)).alloc (Obj.cells #[Value.int IntKind.i64 a, Value.int IntKind.i64 b] 100)).cell? ⟨w.heap.size, 0, none⟩ = some (.int .i64 N) :=
        ((((Below.refl wr.heap.size wr).alloc (Nat.le_refl _) _).alloc (by simp) _).cell hlt).trans hN0
      have hbA := (hbw.alloc (by omega) (Obj.cells #[Value.int IntKind.i64 a, Value.int IntKind.i64 b, Value.int IntKind.i64 c] 48)).alloc (by simp; omega) (Obj.cells #[Value.int IntKind.i64 a, Value.int IntKind.i64 b] 100)
      have hwf : ∀ j, j < k → wf64 (lk ls j).1 ∧ wf64 (lk ls j).2.1 := fun j hj => linkB_wf hN (hp j hj)
      by_cases hok : 0 ≤ a ∧ a < b ∧ b < N ∧ 1 ≤ c ∧ c ≤ 15
      · obtain ⟨o1, o2, o3, o4, o5⟩ := hok
        have hkey := key100 (wf64_of (a := a) (by omega)) (wf64_of (a := b) (by omega))
        have hownA := (hown.alloc (Obj.cells #[Value.int IntKind.i64 a, Value.int IntKind.i64 b, Value.int IntKind.i64 c] 48)).alloc (Obj.cells #[Value.int IntKind.i64 a, Value.int IntKind.i64 b] 100)
        obtain ⟨q, hrun, hat⟩ := lookup_bool hownA hkey
        obtain ⟨w1, hupd, hown1, hgrow1⟩ := hownA.update law100 Try.underlying99 (by unfold maxLen; omega) hkey (plainElem_bool Try.underlying4 true)
        have hm := Ms_at ls (wf64_of (a := a) (by omega)) (wf64_of (a := b) (by omega)) k hwf
        rw [hat] at hm
        have hob : okB N (lk ls k) = true := by
          rw [hlk]
          unfold okB
          simp [o1, o2, o3, o4, o5]
        have hsm : ∀ j, sameE (lk ls j) (a, b, 0) = sameE (lk ls j) (lk ls k) := fun j => by rw [hlk]; rfl
        cases q with
        | false =>
          have hall : linkB N ls k = true := by
            unfold linkB
            rw [hob]
            have hm2 : false = !allR k fun j => !sameE (lk ls j) (a, b, 0) := by simpa using hm
            simp only [hsm] at hm2
            rw [bnot hm2]
            rfl
          go_wp2
          refine ⟨⟨k + 1, rfl, hkl, upto hp hall, ?_, hbA.grown hgrow1 hbA.size (fun j hj => by cases hj; omega), hgrow1.cell hN1 (by simp), ?_⟩, ?_⟩
          · show w1.ownsMap _ _ _ _ _ ((Ms ls k).put _ _)
            rw [hlk]
            exact hown1
          · have := hgrow1.size
            simp at this
            omega
          · show n - ((k : Int) + 1).toNat < n - (k : Int).toNat
            omega
        | true =>
          have hall : linkB N ls k = false := by
            unfold linkB
            rw [hob]
            have hm2 : true = !allR k fun j => !sameE (lk ls j) (a, b, 0) := by simpa using hm
            simp only [hsm] at hm2
            rw [bnot hm2]
            rfl
          go_wp2
          go_ret
          refine ⟨?_, hbA⟩
          rw [valid_bad (by rw [hlen]; exact hkl) hall]
          rfl
      · have hall : linkB N ls k = false := by
          unfold linkB
          have : okB N (lk ls k) = false := by
            rw [hlk]
            cases h : okB N (a, b, c) with
            | false => rfl
            | true =>
              unfold okB at h
              simp at h
              exact absurd ⟨h.1.1.1.1, h.1.1.1.2, h.1.1.2, h.1.2, h.2⟩ hok
          rw [this]
          rfl
        go_wp2
        all_goals (go_ret; exact ⟨by rw [valid_bad (by rw [hlen]; exact hkl) hall]; rfl, hbA⟩)
    · obtain rfl : k = n := by omega
      have d3 : decide ((k : Int) < k) = false := decide_eq_false (by omega)
      go_wp2
      go_ret
      refine ⟨?_, hbw⟩
      have : valid N ls = true := by
        unfold valid
        rw [hlen, allR_true hp]
        simp [hN]
      rw [this]
      rfl
open Go.Fw Go.RowKit Go.Maps Go.WideMaps

set_option maxHeartbeats 4000000 in
set_option maxRecDepth 1000000 in
theorem valid_none (N : Int) (cap : Nat) (av : Option Addr) (w : World) (hN : 1 ≤ N ∧ N ≤ 20) :
    Calls Try.prog 25 #[.agg #[.int .i64 N, .slice av 0 cap]] w fun e w' => e = .returned (.bool true) ∧ Below w.heap.size w w' := by
  have hmm := @run_makeMap Try.prog
  have d1 : decide (N < 1) = false := decide_eq_false (by omega)
  have d2 : decide (N > 20) = false := decide_eq_false (by omega)
  go_enter Try.func25, Try.ntmps25
  go_wp2
  refine wp_loop_rounds 1 ?_
  rw [rounds_succ]
  go_wp2
  go_ret
  exact ⟨rfl, ((Below.refl _ w).alloc (Nat.le_refl _) _).alloc (by simp) _⟩
set_option maxHeartbeats 4000000 in
set_option maxRecDepth 1000000 in
theorem valid_out (N : Int) (n cap : Nat) (av : Option Addr) (w : World) (hN : ¬ (1 ≤ N ∧ N ≤ 20)) :
    Calls Try.prog 25 #[.agg #[.int .i64 N, .slice av n cap]] w fun e w' => e = .returned (.bool false) ∧ Below w.heap.size w w' := by
  go_enter Try.func25, Try.ntmps25
  go_wp2
  all_goals (go_ret; exact ⟨rfl, (Below.refl _ w).alloc (Nat.le_refl _) _⟩)
theorem f25 : E.funcs 25 = some Try.f25 := by kernel_rfl
/-- What is asked of a call that changes nothing that was there, and gives a bool. -/
theorem fun_bool {f : FuncId} {fn : Func} {c : Code} {args : List Value} {b : Bool} (hf : E.funcs f = some fn) (hb : fn.body = some c)
    (h : ∀ (μ : Fw.Place) (w : World) (args' : Array Value), (∀ k, μ.Y k → k < w.heap.size) → All2 (VRel E Heap.none μ w.heap) args args'.toList → Calls E.prog f args' w fun e w' => e = .returned (.bool b) ∧ Below w.heap.size w w') : Fun E f args (.bool b) := by
  intro ok
  refine ⟨⟨fn, hf, by rw [hb]; rfl⟩, rfl, fun base μ w args' R hbase hargs => ?_⟩
  have hy : ∀ k, μ.Y k → k < w.heap.size := R.ice
  refine Calls.mono (h μ w args' hy hargs) fun e w' he => ?_
  obtain ⟨rfl, bl⟩ := he
  refine ⟨.bool b, μ, rfl, Rel.none μ base fun k hk => Nat.lt_of_lt_of_le (hy k hk) bl.size, ⟨bl.mono hbase, Nat.zero_le _, fun b _ => rfl, fun b x' hb => absurd hb (Nat.not_lt_zero _), fun k cs T fr hk => ?_, fun k hk => hk, fun k hk => bl.block k (hy k hk), fun k hk => .inl hk, fun k hk => hk, fun k hk => .inl hk⟩, VRel.bool b⟩
  have hlt : k < w.heap.size := by
    rcases Nat.lt_or_ge k w.heap.size with h | h
    · exact h
    · rw [Array.getElem?_eq_none h] at hk
      cases hk
  exact ⟨cs, fr, by rw [bl.block k hlt]; exact hk, rfl⟩
theorem cell_int {h : Heap} {μ : Fw.Place} {H : Mem} {k : IntKind} {n : Int} {v' : Value} (r : CRel E h μ H (.int k n) v') : v' = .int k n := by
  cases r with
  | s r => cases r; rfl
theorem cell_links {μ : Fw.Place} {w : World} (hy : ∀ k, μ.Y k → k < w.heap.size) {x : Nat} {ls : List Lk} {v' : Value} (r : CRel E Heap.none μ w.heap (lks x ls) v') : ∃ a c, v' = .slice a ls.length c ∧ (¬ ls.length = 0 → ∃ bl off, a = some ⟨bl, off, none⟩ ∧ bl < w.heap.size ∧ ∀ j, j < ls.length → w.cell? ⟨bl, off + j * 3, none⟩ = some (.int .i64 (lk ls j).1) ∧ w.cell? ⟨bl, off + j * 3 + 1, none⟩ = some (.int .i64 (lk ls j).2.1) ∧ w.cell? ⟨bl, off + j * 3 + 2, none⟩ = some (.int .i64 (lk ls j).2.2)) := by
  have r2 : IRel E μ.Z w.heap (lks x ls) v' := by
    cases r with
    | s r => cases r with
      | ice r => exact r
  obtain ⟨ys, a', c', ti, rfl, _, _, _, _, hat, hall⟩ := IRel.inv_fs r2
  refine ⟨a', c', rfl, fun h0 => ?_⟩
  rcases hat with hat | ⟨k, o, rfl, hZ, _, cs, T, fr, hH, _, hv⟩
  · exact absurd hat h0
  refine ⟨k, o, rfl, hy k (μ.zy k hZ), fun j hj => ?_⟩
  have key : ∀ r v, r < 3 → (lc (ls.getD j (0, 0, 0)))[r]? = some (.int .i64 v) → w.cell? ⟨k, o + (j * 3 + r), none⟩ = some (.int .i64 v) := fun r v hr h => by
    have h1 : (lcs ls).toArray.toList[j * 3 + r]? = some (.int .i64 v) := by
      rw [List.toList_toArray, ← h, ← lcs_slice ls j (0, 0, 0) hj, List.getElem?_take, if_pos hr, List.getElem?_drop]
    obtain ⟨b, g1, g2⟩ := hall.get h1
    have e : b = .int .i64 v := by cases g2; rfl
    subst e
    have g3 := hv _ _ g1
    unfold World.cell?
    simp only [hH]
    exact g3
  exact ⟨key 0 _ (by decide) rfl, key 1 _ (by decide) rfl, key 2 _ (by decide) rfl⟩
theorem valid25 (N : Int) (x : Nat) (ls : List Lk) (hz : ls.length ≤ 17592186044416) : Fun E 25 [netV N x ls] (.bool (valid N ls)) := by
  refine fun_bool f25 rfl fun μ w args' hy hargs => ?_
  obtain ⟨l⟩ := args'
  change All2 _ _ l at hargs
  cases hargs with
  | cons r rs =>
    cases rs
    obtain ⟨a', rfl, h1⟩ := r.inv_agg
    obtain ⟨l2⟩ := a'
    change All2 _ [Value.int .i64 N, lks x ls] l2 at h1
    cases h1 with
    | cons r1 rs1 =>
      cases rs1 with
      | cons r2 rs2 =>
        cases rs2
        obtain ⟨v1, rfl⟩ : ∃ v1, v1 = Value.int .i64 N := ⟨_, rfl⟩
        have e1 := cell_int r1
        subst e1
        obtain ⟨a2, c2, rfl, hc⟩ := cell_links hy r2
        by_cases hN : 1 ≤ N ∧ N ≤ 20
        · by_cases h0 : ls.length = 0
          · have hl := List.eq_nil_of_length_eq_zero h0
            subst hl
            have hv : valid N [] = true := by
              unfold valid
              simp [hN, allR]
            rw [hv]
            exact valid_none N c2 a2 w hN
          · obtain ⟨bl, off, rfl, hbl, hcell⟩ := hc h0
            exact valid_calls N ls.length c2 bl off ls w rfl hz hbl hN hcell
        · have hv : valid N ls = false := valid_no (by
            cases h : (decide (1 ≤ N) && decide (N ≤ 20)) with
            | false => rfl
            | true =>
              simp at h
              exact absurd h hN)
          rw [hv]
          exact valid_out N ls.length c2 a2 w hN
end Go.Proofs.Ytfjkanjmggbofaa.D
