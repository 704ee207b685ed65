/- The law RelayPlays: the walk. -/
import Derived.Test.YtdkmdpklojeepaaFwLem
import Derived.Test.YtdkmdpklojeepaaFwHole
import Derived.Test.YtdkmdpklojeepaaFwHoleL
import Derived.Test.YtdkmdpklojeepaaQ09g
namespace Go.Proofs.Ytdkmdpklojeepaa.D
open Go.Fw Go.RowKit

/-- Where both are. -/
structure Sg where
  t : Nat
  u : Nat
  W : Option (List Tr × List Tr)
  Y : List Tr
def wX : Option (List Tr × List Tr) → List Tr
  | none => []
  | some q => q.2
def wV : Option (List Tr × List Tr) → Value
  | none => .slice none 0 0
  | some q => wO 1 q.1 q.2
def wB : Option (List Tr × List Tr) → Option Blk
  | none => none
  | some q => some (rowB (q.1 ++ q.2))
def sV (Y : List Tr) : Value := if Y = [] then .slice none 0 0 else wS 3 Y
def sK (Y : List Tr) : Option Blk := if Y = [] then none else some (sR Y)
def memG (k : Int) (L : List Ft) (σ : Sg) : Heap := heapO [some (mB k L σ.t σ.u (wV σ.W)), wB σ.W, some (sB k L σ.t σ.u (sV σ.Y)), sK σ.Y]
theorem memG_nn (k : Int) (L : List Ft) (t u : Nat) : memG k L ⟨t, u, none, []⟩ = heapO [some (mB k L t u (.slice none 0 0)), none, some (sB k L t u (.slice none 0 0)), none] := rfl
theorem memG_on (k : Int) (L : List Ft) (t u : Nat) (p X : List Tr) : memG k L ⟨t, u, some (p, X), []⟩ = heapO [some (mB k L t u (wO 1 p X)), some (rowB (p ++ X)), some (sB k L t u (.slice none 0 0)), none] := rfl
theorem memG_oo (k : Int) (L : List Ft) (t u : Nat) (p X Y : List Tr) (h : Y ≠ []) : memG k L ⟨t, u, some (p, X), Y⟩ = heapO [some (mB k L t u (wO 1 p X)), some (rowB (p ++ X)), some (sB k L t u (wS 3 Y)), some (sR Y)] := by
  unfold memG sV sK
  rw [if_neg h, if_neg h]
  rfl
/-- A deed, done. -/
def go (k : Int) (L : List Ft) (z : Dd) (σ : Sg) : Sg :=
  if modN z.d 4 = 0 then
    if 4000 < z.b.size then σ
    else if (fate L σ.u).lo = true then ⟨σ.t, σ.u + 1, σ.W, σ.Y⟩
    else ⟨σ.t, σ.u + 1, match σ.W with
      | none => some ([], nxt k L σ.t σ.u [] z.b)
      | some q => if q.2.length < 400 then some ([], nxt k L σ.t σ.u q.2 z.b) else some q, nxt k L σ.t σ.u σ.Y z.b⟩
  else if modN z.d 4 = 1 then ⟨σ.t + 1, σ.u, σ.W.map fun q => (q.1 ++ due (σ.t + 1 : Nat) (ssort q.2), rest (σ.t + 1 : Nat) (ssort q.2)), leftS (σ.t + 1 : Nat) σ.Y⟩
  else if modN z.d 4 = 2 then ⟨σ.t, σ.u, match σ.W with
      | none => none
      | some q => if q.2 = [] then some q else none, []⟩
  else ⟨σ.t, σ.u, σ.W.map fun q => ([], q.2), σ.Y⟩
structure Inv (i : Nat) (σ : Sg) : Prop where
  j : J σ.t (wX σ.W) σ.Y
  t : σ.t ≤ i
  u : σ.u ≤ i
theorem nxt_full {k : Int} {L : List Ft} {t u : Nat} {X : List Tr} {b : ByteArray} (h : 400 ≤ X.length) : nxt k L t u X b = X := by
  unfold nxt Yl
  rw [show 400 - X.length = 0 by omega, List.take_zero, List.append_nil]
theorem nxt_ne {k : Int} {L : List Ft} {t u : Nat} {X : List Tr} {b : ByteArray} : nxt k L t u X b ≠ [] := by
  intro h
  have h2 := congrArg List.length h
  unfold nxt at h2
  rw [Yl_len, List.length_nil] at h2
  omega
theorem Inv.go {i : Nat} {σ : Sg} {k : Int} {L : List Ft} (z : Dd) (h : Inv i σ) (hk : k = 0 ∨ k = 1) (hok : L.all Ft.ok = true) : Inv (i + 1) (go k L z σ) := by
  obtain ⟨t, u, W, Y⟩ := σ
  obtain ⟨j, ht, hu⟩ := h
  dsimp only at j ht hu
  unfold Go.Proofs.Ytdkmdpklojeepaa.D.go
  dsimp only
  split
  · split
    · exact ⟨j, by dsimp only; omega, by dsimp only; omega⟩
    · split
      · exact ⟨j, by dsimp only; omega, by dsimp only; omega⟩
      · have j2 := j.put (k := k) (L := L) u z.b hk hok
        cases W with
        | none => exact ⟨j2, by dsimp only; omega, by dsimp only; omega⟩
        | some q =>
          dsimp only
          split
          · exact ⟨j2, by dsimp only; omega, by dsimp only; omega⟩
          · rename_i hl
            change J t (nxt k L t u q.2 z.b) (nxt k L t u Y z.b) at j2
            rw [nxt_full (by omega)] at j2
            exact ⟨j2, by dsimp only; omega, by dsimp only; omega⟩
  split
  · have j2 := j.tick.2
    cases W with
    | none => exact ⟨j2, by dsimp only; omega, by dsimp only; omega⟩
    | some q => exact ⟨j2, by dsimp only; omega, by dsimp only; omega⟩
  split
  · have j0 := J.zero t
    cases W with
    | none => exact ⟨j0, by dsimp only; omega, by dsimp only; omega⟩
    | some q =>
      dsimp only
      split
      · rename_i hq
        exact ⟨by rw [show wX (some q) = [] from hq]; exact j0, by dsimp only; omega, by dsimp only; omega⟩
      · exact ⟨j0, by dsimp only; omega, by dsimp only; omega⟩
  · cases W with
    | none => exact ⟨j, by dsimp only; omega, by dsimp only; omega⟩
    | some q => exact ⟨j, by dsimp only; omega, by dsimp only; omega⟩
theorem due_app (T : Int) (S : List Tr) : due T S ++ rest T S = S := List.takeWhile_append_dropWhile
theorem bne_self (n : Int) : (n != n) = false := by simp
def bOld : ByteArray := ⟨#[111, 102, 32, 116, 104, 101, 32, 111, 108, 100, 32, 111, 110, 101]⟩
theorem h6 : E.funcs 6 = some Try.f6 := by kernel_rfl
theorem lent25ln (k : Int) (L : List Ft) (t u : Nat) (b : ByteArray) (hb : b.size ≤ 4000) (hu : u ≤ 1000000) (hlo : (fate L u).lo = true) : LentP E 25 [.pointer (some ⟨0, 0, none⟩), .string b] [sB k L t u (.slice none 0 0)] (.int .i64 0) [some (sB k L t (u + 1 : Nat) (.slice none 0 0))] := by
  refine ⟨?_, rfl, rfl, Nat.le_refl _, rfl, in1 (okS _ _ _ _ rfl), rfl⟩
  rw [heapO_of]
  exact put25ln k L t u b hb hu hlo
theorem lent25lo (k : Int) (L : List Ft) (t u : Nat) (Y : List Tr) (b : ByteArray) (hb : b.size ≤ 4000) (hu : u ≤ 1000000) (hlo : (fate L u).lo = true) : LentP E 25 [.pointer (some ⟨0, 0, none⟩), .string b] [sB k L t u (wS 1 Y), sR Y] (.int .i64 0) [some (sB k L t (u + 1 : Nat) (wS 1 Y)), some (sR Y)] := by
  refine ⟨?_, rfl, rfl, Nat.le_refl _, rfl, in2 (okS _ _ _ _ rfl) (okSR _ _), rfl⟩
  rw [heapO_of]
  exact put25lo k L t u Y b hb hu hlo
theorem lent25n (k : Int) (L : List Ft) (t u : Nat) (b : ByteArray) (hb : b.size ≤ 4000) (hk : k = 0 ∨ k = 1) (hok : L.all Ft.ok = true) (ht : t ≤ 1000000) (hu : u ≤ 1000000) (hlo : (fate L u).lo = false) : LentP E 25 [.pointer (some ⟨0, 0, none⟩), .string b] [sB k L t u (.slice none 0 0)] (.int .i64 0) [some (sB k L t (u + 1 : Nat) (wS 1 (nxt k L t u [] b))), some (sR (nxt k L t u [] b))] := by
  refine ⟨?_, rfl, rfl, Nat.le_succ _, rfl, in2 (okS _ _ _ _ rfl) (okSR _ _), rfl⟩
  rw [heapO_of]
  exact put25n k L t u b hb hk hok ht hu hlo
theorem lent25o (k : Int) (L : List Ft) (t u : Nat) (Y : List Tr) (b : ByteArray) (hb : b.size ≤ 4000) (hk : k = 0 ∨ k = 1) (hok : L.all Ft.ok = true) (ht : t ≤ 1000000) (hu : u ≤ 1000000) (hY : Y.length < 400) (hin : InT Y) (hlo : (fate L u).lo = false) : LentP E 25 [.pointer (some ⟨0, 0, none⟩), .string b] [sB k L t u (wS 1 Y), sR Y] (.int .i64 0) [some (sB k L t (u + 1 : Nat) (wS 2 (nxt k L t u Y b))), none, some (sR (nxt k L t u Y b))] := by
  refine ⟨?_, rfl, rfl, Nat.le_succ _, rfl, in3 (okS _ _ _ _ rfl) (okSR _ _), rfl⟩
  rw [heapO_of]
  exact put25o k L t u Y b hb hk hok ht hu hY hin hlo
theorem lent25f (k : Int) (L : List Ft) (t u : Nat) (Y : List Tr) (b : ByteArray) (hb : b.size ≤ 4000) (hk : k = 0 ∨ k = 1) (hok : L.all Ft.ok = true) (ht : t ≤ 1000000) (hu : u ≤ 1000000) (hY : 400 ≤ Y.length) (hYm : Y.length ≤ 1000) (hin : InT Y) (hlo : (fate L u).lo = false) : LentP E 25 [.pointer (some ⟨0, 0, none⟩), .string b] [sB k L t u (wS 1 Y), sR Y] (.int .i64 0) [some (sB k L t (u + 1 : Nat) (wS 1 Y)), some (sR Y)] := by
  refine ⟨?_, rfl, rfl, Nat.le_refl _, rfl, in2 (okS _ _ _ _ rfl) (okSR _ _), rfl⟩
  rw [heapO_of]
  exact put25f k L t u Y b hb hk hok ht hu hY hYm hin hlo
theorem okT_outU (m : Nat) (D : List Tr) : okT m (outU D) = true := by
  unfold outU
  split <;> rfl
theorem unT_outU (rl : List Nat) (D : List Tr) : unT rl (outU D) = outU D := by
  unfold outU
  split <;> rfl
theorem unV_outU (rl : List Nat) (D : List Tr) : unV rl (outU D) = outU D := by
  unfold outU
  split <;> rfl
theorem strA (D : List Tr) : [outU D, outU D] = [outU D, outU D].map (unV []) := by
  rw [List.map_cons, List.map_cons, unV_outU]
  rfl
theorem lent27e (k : Int) (L : List Ft) (t : Nat) (u : Int) (Y : List Tr) (ht : t ≤ 1000000) (hY : Y.length ≤ 1000) (hF : leftS (t + 1 : Nat) Y = []) : LentP E 27 [.pointer (some ⟨0, 0, none⟩)] [sB k L t u (wS 1 Y), sR Y] (outU (dueS (t + 1 : Nat) Y)) [some (sB k L (t + 1 : Nat) u (.slice none 0 0)), none] := by
  have h := tick27o k L t u Y ht hY
  rw [show tickT k L t u (leftS (t + 1 : Nat) Y) = [some (sB k L (t + 1 : Nat) u (.slice none 0 0)), none] from if_pos hF] at h
  refine ⟨?_, rfl, rfl, Nat.le_refl _, rfl, fun z hz => ?_, okT_outU _ _⟩
  · rw [heapO_of]
    exact h
  · obtain rfl : z = sB k L (t + 1 : Nat) u (.slice none 0 0) := by simpa using hz
    exact okS _ _ _ _ rfl
theorem lent27r (k : Int) (L : List Ft) (t : Nat) (u : Int) (Y : List Tr) (ht : t ≤ 1000000) (hY : Y.length ≤ 1000) (hF : leftS (t + 1 : Nat) Y ≠ []) : LentP E 27 [.pointer (some ⟨0, 0, none⟩)] [sB k L t u (wS 1 Y), sR Y] (outU (dueS (t + 1 : Nat) Y)) [some (sB k L (t + 1 : Nat) u (wS 2 (leftS (t + 1 : Nat) Y))), none, some (sR (leftS (t + 1 : Nat) Y))] := by
  have h := tick27o k L t u Y ht hY
  rw [show tickT k L t u (leftS (t + 1 : Nat) Y) = [some (sB k L (t + 1 : Nat) u (wS 2 (leftS (t + 1 : Nat) Y))), none, some (sR (leftS (t + 1 : Nat) Y))] from if_neg hF] at h
  refine ⟨?_, rfl, rfl, Nat.le_succ _, rfl, in3 (okS _ _ _ _ rfl) (okSR _ _), okT_outU _ _⟩
  rw [heapO_of]
  exact h
theorem law6a (k : Int) (x : Nat) (L : List Ft) (y : Nat) (Z : List Dd) (hL : L.length ≤ 300) (hZ : Z.length ≤ 500) (hok : okNew k L = true) : Fun E 6 [.int .i64 k, FS 36 L.length x (fts L).toArray, FS 56 Z.length y (dcs Z).toArray] (.bool true) := by
  refine Fun.of h6 rfl (of_decide_eq_true (by kernel_rfl)) rfl ?_
  have d1 : decide ((L.length : Int) > 300) = false := decide_eq_false (by omega)
  have d2 : decide ((Z.length : Int) > 500) = false := decide_eq_false (by omega)
  have c1 := fates23 x L (by omega)
  have hk : k = 0 ∨ k = 1 := by
    unfold okNew at hok
    rw [Bool.and_eq_true] at hok
    simpa using hok.1
  have hL2 : L.length ≤ 200 ∧ L.all Ft.ok = true := by
    unfold okNew at hok
    rw [Bool.and_eq_true, Bool.and_eq_true] at hok
    exact ⟨of_decide_eq_true hok.2.1, hok.2.2⟩
  have c2 := new10 k (xF L) L hk hL2.1 hL2.2
  have c3 := new24 k x L (by omega) hok
  unfold mB at c2
  unfold sB at c3
  have hf : (fts L).all flat = true := fts_flat L
  have c9 := sane8
  refine Wp.seq (Wp.text (kp 6 (.bool false) (WpOps.nil (thenK_at (Wp.seq (Wp.seq (Wp.text (kp 16 (.iface 36 (Value.iface (List.length L) (Value.iface x (Value.agg (List.toArray (fts L)))))) (kp 17 (.int .i64 (List.length L)) (kp 18 (.bool false) (kp 19 (.bool false) (kp 20 (.iface 56 (Value.iface (List.length Z) (Value.iface y (Value.agg (List.toArray (dcs Z)))))) (kp 21 (.int .i64 (List.length Z)) (kp 22 (.bool false) (kp 23 (.bool false) (WpOps.nil (thenK_at (off' (Wp.skip (thenK_at (Wp.seq (Wp.text (kp 26 (.int .i64 k) (kp 27 (.iface 36 (Value.iface (List.length L) (Value.iface x (Value.agg (List.toArray (fts L)))))) (cl 28 23 [Value.iface 36 (Value.iface (List.length L) (Value.iface x (Value.agg (List.toArray (fts L)))))] ?_))))))))))) (hop := fun _ => by_fact d2))))) (hop := fun _ => by_fact d1)))))))))))
  refine WpCall.lent [] (c1) (by decide) trivial (by kernel_rfl) (Value.iface 46 (Value.iface (List.length L) (Value.iface (xF L) (Value.agg (List.toArray (fts L)))))) ([]) .nil (by kernel_rfl) (Heap.none) (by kernel_rfl) ?_
  refine cl 29 10 [Value.int .i64 k, Value.iface 46 (Value.iface (List.length L) (Value.iface (xF L) (Value.agg (List.toArray (fts L)))))] ?_
  refine WpCall.lent [] (c2) (by decide) trivial (by kernel_rfl) (Value.tuple #[Value.pointer (some (Addr.mk (List.getD [0] 0 0) 0 none)), Value.int .i64 0]) ([Blk.mk 66 true [Value.int .i64 k, Value.iface 46 (Value.iface (List.length L) (Value.iface 0 (Value.agg (List.toArray (fts L))))), Value.int .i64 0, Value.int .i64 0, Value.slice none 0 0]]) (.cons (by kernel_rfl) .nil) (by kernel_rfl) (Heap.alloc Heap.none (Blk.mk 66 true [Value.int .i64 k, Value.iface 46 (Value.iface (List.length L) (Value.iface 0 (Value.agg (List.toArray (fts L))))), Value.int .i64 0, Value.int .i64 0, Value.slice none 0 0])) (by kernel_rfl) ?_
  refine kp 25 (.tuple #[Value.pointer (some (Addr.mk (List.getD [0] 0 0) 0 none)), Value.int .i64 0]) (kp 30 (.pointer (some ⟨0, 0, none⟩)) (kp 31 (.int .i64 0) (kp 7 (.pointer (some ⟨0, 0, none⟩)) (kp 8 (.int .i64 0) (WpOps.nil (thenK_at (Wp.seq (Wp.text (kp 33 (.int .i64 k) (kp 34 (.iface 36 (Value.iface (List.length L) (Value.iface x (Value.agg (List.toArray (fts L)))))) (cl 35 24 [Value.int .i64 k, Value.iface 36 (Value.iface (List.length L) (Value.iface x (Value.agg (List.toArray (fts L)))))] ?_)))))))))))
  refine WpCall.lent [] (c3) (by decide) trivial (by kernel_rfl) (Value.tuple #[Value.pointer (some (Addr.mk (List.getD [1] 0 0) 0 none)), Value.int .i64 0]) ([Blk.mk 78 true [Value.int .i64 k, Value.iface 36 (Value.iface (List.length L) (Value.iface 0 (Value.agg (List.toArray (fts L))))), Value.int .i64 0, Value.int .i64 0, Value.slice none 0 0]]) (.cons (by kernel_rfl) .nil) (by kernel_rfl) (Heap.alloc (Heap.alloc Heap.none (Blk.mk 66 true [Value.int .i64 k, Value.iface 46 (Value.iface (List.length L) (Value.iface 0 (Value.agg (List.toArray (fts L))))), Value.int .i64 0, Value.int .i64 0, Value.slice none 0 0])) (Blk.mk 78 true [Value.int .i64 k, Value.iface 36 (Value.iface (List.length L) (Value.iface 0 (Value.agg (List.toArray (fts L))))), Value.int .i64 0, Value.int .i64 0, Value.slice none 0 0])) (by kernel_rfl) ?_
  refine kp 32 (.tuple #[Value.pointer (some (Addr.mk (List.getD [1] 0 0) 0 none)), Value.int .i64 0]) (kp 36 (.pointer (some ⟨1, 0, none⟩)) (kp 37 (.int .i64 0) (kp 9 (.pointer (some ⟨1, 0, none⟩)) (kp 10 (.int .i64 0) (WpOps.nil (thenK_at (Wp.seq (Wp.seq (Wp.text (kp 38 (.int .i64 0) (kp 39 (.int .i64 0) (kp 40 (.bool false) (kp 41 (.bool false) (kp 42 (.pointer (some ⟨0, 0, none⟩)) (kp 43 (.bool false) (kp 44 (.pointer (some ⟨1, 0, none⟩)) (kp 45 (.bool false) (kp 46 (.bool false) (kp 47 (.bool false) (WpOps.nil (thenK_at (off' (Wp.skip (thenK_at (Wp.seq (Wp.seq (Wp.text (kp 11 (.int .i64 0) (WpOps.nil (thenK_at (Wp.block ?_)))))))))))))))))))))))))))))))
  clear c1 c2 c3 d1 d2
  refine Wp.loop (G := Nat × Sg) (fun g => layj [(2, FS 56 Z.length y (dcs Z).toArray), (6, .bool false), (7, .pointer (some ⟨0, 0, none⟩)), (9, .pointer (some ⟨2, 0, none⟩)), (11, .int .i64 g.1)]) (fun g => memG k L g.2) (fun g => Z.length - g.1) (fun g => g.1 ≤ Z.length ∧ Inv g.1 g.2) (0, ⟨0, 0, none, []⟩)
    (View.ofP [0, 2, 1, 3] [some (mB k L 0 0 (.slice none 0 0)), none, some (sB k L 0 0 (.slice none 0 0)), none] _ (by decide) rfl ⟨⟨_, by kernel_rfl, ⟨rfl, rfl⟩⟩, ⟨_, by kernel_rfl, ⟨rfl, rfl⟩⟩, trivial⟩ ⟨⟨by kernel_rfl, rfl⟩, ⟨by kernel_rfl, rfl⟩, ⟨by kernel_rfl, rfl⟩, ⟨by kernel_rfl, rfl⟩, ⟨by kernel_rfl, rfl⟩, trivial⟩) ⟨Nat.zero_le _, ⟨J.zero 0, Nat.le_refl _, Nat.le_refl _⟩⟩ ?_
  rintro ⟨i, σ⟩ ⟨hi, hv⟩
  dsimp only at hi hv ⊢
  by_cases hc : i < Z.length
  · have hv2 := hv.go Z[i] hk hL2.2
    have d2 : decide ((i : Int) < (Z.length : Int)) = true := decide_eq_true (by omega)
    have g1 : 0 ≤ (i : Int) ∧ (i : Int) < Z.length := by omega
    have hs : cellsAt (dcs Z).toArray.toList ((i : Int).toNat * 2) 2 = some (dce Z[i]) := dcs_at Z i hc
    unfold dce at hs
    have s0 : (dcs Z).toArray.toList[(i : Int).toNat * 2 + 0]? = some (.int .i64 Z[i].d) := cellsAt_one (i := 0) hs rfl
    have s1 : (dcs Z).toArray.toList[(i : Int).toNat * 2 + 1]? = some (.string Z[i].b) := cellsAt_one (i := 1) hs rfl
    have wi : IntKind.i64.wrap ((i : Int) + 1) = ((i + 1 : Nat) : Int) := by rw [wr _ (by omega) (by omega)]; omega
    have c1 := mod9 Z[i].d 4 (by decide) (by decide)
    obtain ⟨m1, m2⟩ := modN_in Z[i].d 4 (by decide)
    have hgo : ∃ σ', go k L Z[i] σ = σ' := ⟨_, rfl⟩
    generalize hz : Z[i] = z at *
    clear hs hz
    refine Wp.seq (Wp.seq (Wp.text (kp 48 (.int .i64 i) (kp 49 (.iface 56 (Value.iface (List.length Z) (Value.iface y (Value.agg (List.toArray (dcs Z)))))) (kp 50 (.int .i64 (List.length Z)) (kp 51 (.bool true) (kp 52 (.bool true) (kp 53 (.pointer (some ⟨0, 0, none⟩)) (kp 54 (.bool true) (kp 55 (.bool true) (WpOps.nil (thenK_at (on' (Wp.skip (thenK_at (Wp.seq (Wp.block (Wp.seq (Wp.seq (Wp.text (kp 58 (.iface 56 (Value.iface (List.length Z) (Value.iface y (Value.agg (List.toArray (dcs Z)))))) (kp 59 (.int .i64 i) (kp 60 (.iface 56 (Value.iface (Int.toNat (↑i : Int) * 2) (Value.agg (List.toArray (dcs Z))))) (kp 61 (.iface 56 (Value.iface (Int.toNat (↑i : Int) * 2 + 0) (Value.agg (List.toArray (dcs Z))))) (kp 62 (.int .i64 (Dd.d z)) (fr 63 9 [Value.int .i64 (Dd.d z), Value.int .i64 4] (WpFun.of (c1) (WpOps.nil (thenK_at ?_)))) (hop := fun _ => o_loadI1 (Int.toNat (↑i : Int) * 2 + 0) s0))) (hop := fun _ => o_indexI (e := 56) (size := 2) (a := (↑i : Int)) g1)))))))))))))))))) (hop := fun _ => by_fact d2)))))))
    refine Wp.mergeH [(2, FS 56 Z.length y (dcs Z).toArray), (6, .bool false), (7, .pointer (some ⟨0, 0, none⟩)), (9, .pointer (some ⟨2, 0, none⟩)), (11, .int .i64 i)] (memG k L (go k L z σ)) ?_ ?_
    · obtain ⟨t, u, W, Y⟩ := σ
      obtain ⟨j, ht, hu⟩ := hv
      dsimp only at j ht hu
      clear hv2 hgo wi d2
      have hlen := j.lens
      have hlX := j.len
      have hin := j.inT (by omega)
      have hin2 := j.inT2 (by omega)
      have hdl : (dueS (t + 1 : Nat) Y).length ≤ 1000 := by have := two_len (t + 1 : Nat) Y; omega
      cases W with
      | none =>
        obtain rfl : Y = [] := List.eq_nil_of_length_eq_zero hlen
        rw [memG_nn]
        by_cases h0 : modN z.d 4 = 0
        · have e0 : (modN z.d 4 == 0) = true := by rw [h0]; rfl
          by_cases hb : 4000 < z.b.size
          · have hg : go k L z ⟨t, u, none, []⟩ = ⟨t, u, none, []⟩ := by unfold go; rw [if_pos h0, if_pos hb]
            rw [hg, memG_nn]
            refine Wp.block (Wp.seq (Wp.text (kp 74 (.bool true) (kp 73 (.bool true) (WpOps.nil (thenK_at (on' (Wp.seq (Wp.text (kp 75 (.pointer (some ⟨0, 0, none⟩)) (kp 76 (.iface 56 (Value.iface (List.length Z) (Value.iface y (Value.agg (List.toArray (dcs Z)))))) (kp 77 (.int .i64 i) (kp 78 (.iface 56 (Value.iface (Int.toNat (↑i : Int) * 2) (Value.agg (List.toArray (dcs Z))))) (kp 79 (.iface 56 (Value.iface (Int.toNat (↑i : Int) * 2 + 1) (Value.agg (List.toArray (dcs Z))))) (kp 80 (.string (Dd.b z)) (cl 81 13 [Value.pointer (some ⟨0, 0, none⟩), Value.string (Dd.b z)] ?_) (hop := fun _ => o_loadI1 (Int.toNat (↑i : Int) * 2 + 1) s1))) (hop := fun _ => o_indexI (e := 56) (size := 2) (a := (↑i : Int)) g1))))))))))) (hop := fun _ => by_fact e0))))
            refine WpCall.lent [0] (put13Ln k L t u z.b hb) (by decide) ⟨⟨_, by kernel_rfl, ⟨rfl, rfl⟩⟩, trivial⟩ rfl (.int .i64 2) [mB k L t u (.slice none 0 0)] (.cons rfl .nil) rfl _ rfl ?_
            refine kp 12 (.int .i64 2) (WpOps.nil (thenK_at (Wp.seq (Wp.text (kp 82 (.int .i64 2) (kp 83 (.pointer (some ⟨2, 0, none⟩)) (kp 84 (.iface 56 (Value.iface (List.length Z) (Value.iface y (Value.agg (List.toArray (dcs Z)))))) (kp 85 (.int .i64 i) (kp 86 (.iface 56 (Value.iface (Int.toNat (↑i : Int) * 2) (Value.agg (List.toArray (dcs Z))))) (kp 87 (.iface 56 (Value.iface (Int.toNat (↑i : Int) * 2 + 1) (Value.agg (List.toArray (dcs Z))))) (kp 88 (.string (Dd.b z)) (cl 89 25 [Value.pointer (some ⟨2, 0, none⟩), Value.string (Dd.b z)] ?_) (hop := fun _ => o_loadI1 (Int.toNat (↑i : Int) * 2 + 1) s1))) (hop := fun _ => o_indexI (e := 56) (size := 2) (a := (↑i : Int)) g1))))))))))
            refine WpCall.lent [2] (put25Ln k L t u z.b hb) (by decide) ⟨⟨_, by kernel_rfl, ⟨rfl, rfl⟩⟩, trivial⟩ rfl (.int .i64 2) [sB k L t u (.slice none 0 0)] (.cons rfl .nil) rfl _ rfl ?_
            refine kp 90 (.bool false) (WpOps.nil (thenK_at (off' (Wp.skip (blockK_norm ?_)))))
            exact ⟨rfl, View.ofP [0, 1, 2, 3] _ _ (by decide) rfl ⟨⟨_, by kernel_rfl, ⟨rfl, rfl⟩⟩, ⟨_, by kernel_rfl, ⟨rfl, rfl⟩⟩, trivial⟩ ⟨⟨by kernel_rfl, rfl⟩, ⟨by kernel_rfl, rfl⟩, ⟨by kernel_rfl, rfl⟩, ⟨by kernel_rfl, rfl⟩, ⟨by kernel_rfl, rfl⟩, trivial⟩⟩
          have hb2 : z.b.size ≤ 4000 := by omega
          by_cases hlo : (fate L u).lo = true
          · have hg : go k L z ⟨t, u, none, []⟩ = ⟨t, u + 1, none, []⟩ := by unfold go; rw [if_pos h0, if_neg hb, if_pos hlo]
            rw [hg, memG_nn]
            refine Wp.block (Wp.seq (Wp.text (kp 74 (.bool true) (kp 73 (.bool true) (WpOps.nil (thenK_at (on' (Wp.seq (Wp.text (kp 75 (.pointer (some ⟨0, 0, none⟩)) (kp 76 (.iface 56 (Value.iface (List.length Z) (Value.iface y (Value.agg (List.toArray (dcs Z)))))) (kp 77 (.int .i64 i) (kp 78 (.iface 56 (Value.iface (Int.toNat (↑i : Int) * 2) (Value.agg (List.toArray (dcs Z))))) (kp 79 (.iface 56 (Value.iface (Int.toNat (↑i : Int) * 2 + 1) (Value.agg (List.toArray (dcs Z))))) (kp 80 (.string (Dd.b z)) (cl 81 13 [Value.pointer (some ⟨0, 0, none⟩), Value.string (Dd.b z)] ?_) (hop := fun _ => o_loadI1 (Int.toNat (↑i : Int) * 2 + 1) s1))) (hop := fun _ => o_indexI (e := 56) (size := 2) (a := (↑i : Int)) g1))))))))))) (hop := fun _ => by_fact e0))))
            refine WpCall.lentP [0] (lent13ln k L t u z.b hb2 (by omega) hlo) (by decide) ⟨⟨_, by kernel_rfl, ⟨rfl, rfl⟩⟩, trivial⟩ rfl (.int .i64 0) [some (mB k L t (u + 1 : Nat) (.slice none 0 0))] (.cons rfl .nil) rfl _ rfl ?_
            refine kp 12 (.int .i64 0) (WpOps.nil (thenK_at (Wp.seq (Wp.text (kp 82 (.int .i64 0) (kp 83 (.pointer (some ⟨2, 0, none⟩)) (kp 84 (.iface 56 (Value.iface (List.length Z) (Value.iface y (Value.agg (List.toArray (dcs Z)))))) (kp 85 (.int .i64 i) (kp 86 (.iface 56 (Value.iface (Int.toNat (↑i : Int) * 2) (Value.agg (List.toArray (dcs Z))))) (kp 87 (.iface 56 (Value.iface (Int.toNat (↑i : Int) * 2 + 1) (Value.agg (List.toArray (dcs Z))))) (kp 88 (.string (Dd.b z)) (cl 89 25 [Value.pointer (some ⟨2, 0, none⟩), Value.string (Dd.b z)] ?_) (hop := fun _ => o_loadI1 (Int.toNat (↑i : Int) * 2 + 1) s1))) (hop := fun _ => o_indexI (e := 56) (size := 2) (a := (↑i : Int)) g1))))))))))
            refine WpCall.lentP [2] (lent25ln k L t u z.b hb2 (by omega) hlo) (by decide) ⟨⟨_, by kernel_rfl, ⟨rfl, rfl⟩⟩, trivial⟩ rfl (.int .i64 0) [some (sB k L t (u + 1 : Nat) (.slice none 0 0))] (.cons rfl .nil) rfl _ rfl ?_
            refine kp 90 (.bool false) (WpOps.nil (thenK_at (off' (Wp.skip (blockK_norm ?_)))))
            exact ⟨rfl, View.ofP [0, 1, 2, 3] _ _ (by decide) rfl ⟨⟨_, by kernel_rfl, ⟨rfl, rfl⟩⟩, ⟨_, by kernel_rfl, ⟨rfl, rfl⟩⟩, trivial⟩ ⟨⟨by kernel_rfl, rfl⟩, ⟨by kernel_rfl, rfl⟩, ⟨by kernel_rfl, rfl⟩, ⟨by kernel_rfl, rfl⟩, ⟨by kernel_rfl, rfl⟩, trivial⟩⟩
          have hlo2 : (fate L u).lo = false := by simpa using hlo
          have hg : go k L z ⟨t, u, none, []⟩ = ⟨t, u + 1, some ([], nxt k L t u [] z.b), nxt k L t u [] z.b⟩ := by unfold go; rw [if_pos h0, if_neg hb, if_neg hlo]
          rw [hg, memG_oo _ _ _ _ _ _ _ nxt_ne]
          refine Wp.block (Wp.seq (Wp.text (kp 74 (.bool true) (kp 73 (.bool true) (WpOps.nil (thenK_at (on' (Wp.seq (Wp.text (kp 75 (.pointer (some ⟨0, 0, none⟩)) (kp 76 (.iface 56 (Value.iface (List.length Z) (Value.iface y (Value.agg (List.toArray (dcs Z)))))) (kp 77 (.int .i64 i) (kp 78 (.iface 56 (Value.iface (Int.toNat (↑i : Int) * 2) (Value.agg (List.toArray (dcs Z))))) (kp 79 (.iface 56 (Value.iface (Int.toNat (↑i : Int) * 2 + 1) (Value.agg (List.toArray (dcs Z))))) (kp 80 (.string (Dd.b z)) (cl 81 13 [Value.pointer (some ⟨0, 0, none⟩), Value.string (Dd.b z)] ?_) (hop := fun _ => o_loadI1 (Int.toNat (↑i : Int) * 2 + 1) s1))) (hop := fun _ => o_indexI (e := 56) (size := 2) (a := (↑i : Int)) g1))))))))))) (hop := fun _ => by_fact e0))))
          refine WpCall.lentP [0] (lent13n k L t u z.b hb2 hk hL2.2 (by omega) (by omega) hlo2) (by decide) ⟨⟨_, by kernel_rfl, ⟨rfl, rfl⟩⟩, trivial⟩ rfl (.int .i64 0) [some (mB k L t (u + 1 : Nat) (.slice (some ⟨4, 0, none⟩) (nxt k L t u [] z.b).length (nxt k L t u [] z.b).length)), some (rowB (nxt k L t u [] z.b))] (.cons rfl (.cons (congrArg some (unB_flat (tcs_flat _))) .nil)) rfl _ rfl ?_
          refine kp 12 (.int .i64 0) (WpOps.nil (thenK_at (Wp.seq (Wp.text (kp 82 (.int .i64 0) (kp 83 (.pointer (some ⟨2, 0, none⟩)) (kp 84 (.iface 56 (Value.iface (List.length Z) (Value.iface y (Value.agg (List.toArray (dcs Z)))))) (kp 85 (.int .i64 i) (kp 86 (.iface 56 (Value.iface (Int.toNat (↑i : Int) * 2) (Value.agg (List.toArray (dcs Z))))) (kp 87 (.iface 56 (Value.iface (Int.toNat (↑i : Int) * 2 + 1) (Value.agg (List.toArray (dcs Z))))) (kp 88 (.string (Dd.b z)) (cl 89 25 [Value.pointer (some ⟨2, 0, none⟩), Value.string (Dd.b z)] ?_) (hop := fun _ => o_loadI1 (Int.toNat (↑i : Int) * 2 + 1) s1))) (hop := fun _ => o_indexI (e := 56) (size := 2) (a := (↑i : Int)) g1))))))))))
          refine WpCall.lentP [2] (lent25n k L t u z.b hb2 hk hL2.2 (by omega) (by omega) hlo2) (by decide) ⟨⟨_, by kernel_rfl, ⟨rfl, rfl⟩⟩, trivial⟩ rfl (.int .i64 0) [some (sB k L t (u + 1 : Nat) (.slice (some ⟨5, 0, none⟩) (nxt k L t u [] z.b).length (nxt k L t u [] z.b).length)), some (sR (nxt k L t u [] z.b))] (.cons rfl (.cons (congrArg some (unB_flat (ics_flat _))) .nil)) rfl _ rfl ?_
          refine kp 90 (.bool false) (WpOps.nil (thenK_at (off' (Wp.skip (blockK_norm ?_)))))
          exact ⟨rfl, View.ofP [0, 4, 2, 5] _ _ (by decide) rfl ⟨⟨_, by kernel_rfl, ⟨rfl, rfl⟩⟩, ⟨_, by kernel_rfl, CellsOk.eq rfl (tcs_flat _)⟩, ⟨_, by kernel_rfl, ⟨rfl, rfl⟩⟩, ⟨_, by kernel_rfl, CellsOk.eq rfl (ics_flat _)⟩, trivial⟩ ⟨⟨by kernel_rfl, rfl⟩, ⟨by kernel_rfl, rfl⟩, ⟨by kernel_rfl, rfl⟩, ⟨by kernel_rfl, rfl⟩, ⟨by kernel_rfl, rfl⟩, trivial⟩⟩
        have e0 : (modN z.d 4 == 0) = false := by simpa using h0
        by_cases h1 : modN z.d 4 = 1
        · have e1 : (modN z.d 4 == 1) = true := by rw [h1]; rfl
          have hg : go k L z ⟨t, u, none, []⟩ = ⟨t + 1, u, none, []⟩ := by unfold go; rw [if_neg h0, if_pos h1]; rfl
          rw [hg, memG_nn]
          refine Wp.block (Wp.seq (Wp.text (kp 74 (.bool false) (kp 73 (.bool false) (WpOps.nil (thenK_at (off' (Wp.seq (Wp.text (kp 92 (.bool true) (kp 91 (.bool true) (WpOps.nil (thenK_at (on' (Wp.seq (Wp.text (kp 93 (.pointer (some ⟨0, 0, none⟩)) (cl 94 14 [Value.pointer (some ⟨0, 0, none⟩)] ?_)))))))) (hop := fun _ => by_fact e1)))))))) (hop := fun _ => by_fact e0))))
          refine WpCall.lent [0] (tick14e k L t u (by omega)) (by decide) ⟨⟨_, by kernel_rfl, ⟨rfl, rfl⟩⟩, trivial⟩ rfl (.slice none 0 0) [mB k L (t + 1 : Nat) u (.slice none 0 0)] (.cons rfl .nil) rfl _ rfl ?_
          refine kp 13 (.slice none 0 0) (WpOps.nil (thenK_at (Wp.seq (Wp.text (kp 95 (.slice none 0 0) (kp 96 (.pointer (some ⟨2, 0, none⟩)) (cl 97 27 [Value.pointer (some ⟨2, 0, none⟩)] ?_)))))))
          refine WpCall.lent [2] (tick27n k L t u (by omega)) (by decide) ⟨⟨_, by kernel_rfl, ⟨rfl, rfl⟩⟩, trivial⟩ rfl (.slice none 0 0) [sB k L (t + 1 : Nat) u (.slice none 0 0)] (.cons rfl .nil) rfl _ rfl ?_
          refine cl 98 26 [Value.slice none 0 0, Value.slice none 0 0] ?_
          refine WpCall.lent [] (strings26 [] (by decide)) (by decide) trivial rfl (.bool true) [] .nil rfl _ rfl ?_
          refine kp 99 (.bool false) (WpOps.nil (thenK_at (off' (Wp.skip (blockK_norm ?_)))))
          exact ⟨rfl, View.ofP [0, 1, 2, 3] _ _ (by decide) rfl ⟨⟨_, by kernel_rfl, ⟨rfl, rfl⟩⟩, ⟨_, by kernel_rfl, ⟨rfl, rfl⟩⟩, trivial⟩ ⟨⟨by kernel_rfl, rfl⟩, ⟨by kernel_rfl, rfl⟩, ⟨by kernel_rfl, rfl⟩, ⟨by kernel_rfl, rfl⟩, ⟨by kernel_rfl, rfl⟩, trivial⟩⟩
        have e1 : (modN z.d 4 == 1) = false := by simpa using h1
        by_cases h2 : modN z.d 4 = 2
        · have e2 : (modN z.d 4 == 2) = true := by rw [h2]; rfl
          have hg : go k L z ⟨t, u, none, []⟩ = ⟨t, u, none, []⟩ := by unfold go; rw [if_neg h0, if_neg h1, if_pos h2]
          rw [hg, memG_nn]
          refine Wp.block (Wp.seq (Wp.text (kp 74 (.bool false) (kp 73 (.bool false) (WpOps.nil (thenK_at (off' (Wp.seq (Wp.text (kp 92 (.bool false) (kp 91 (.bool false) (WpOps.nil (thenK_at (off' (Wp.seq (Wp.text (kp 101 (.bool true) (kp 100 (.bool true) (WpOps.nil (thenK_at (on' (Wp.seq (Wp.text (kp 102 (.pointer (some ⟨0, 0, none⟩)) (cl 103 28 [Value.pointer (some ⟨0, 0, none⟩)] ?_)))))))) (hop := fun _ => by_fact e2)))))))) (hop := fun _ => by_fact e1)))))))) (hop := fun _ => by_fact e0))))
          refine WpCall.lent [0] (reset28n k L t u) (by decide) ⟨⟨_, by kernel_rfl, ⟨rfl, rfl⟩⟩, trivial⟩ rfl (.int .i64 0) [mB k L t u (.slice none 0 0)] (.cons rfl .nil) rfl _ rfl ?_
          refine kp 14 (.int .i64 0) (WpOps.nil (thenK_at (Wp.seq (Wp.text (kp 104 (.int .i64 0) (kp 105 (.pointer (some ⟨2, 0, none⟩)) (cl 106 29 [Value.pointer (some ⟨2, 0, none⟩)] ?_)))))))
          refine WpCall.lent [2] (reset29n k L t u) (by decide) ⟨⟨_, by kernel_rfl, ⟨rfl, rfl⟩⟩, trivial⟩ rfl (.int .i64 0) [sB k L t u (.slice none 0 0)] (.cons rfl .nil) rfl _ rfl ?_
          refine kp 107 (.bool false) (WpOps.nil (thenK_at (off' (Wp.skip (blockK_norm ?_)))))
          exact ⟨rfl, View.ofP [0, 1, 2, 3] _ _ (by decide) rfl ⟨⟨_, by kernel_rfl, ⟨rfl, rfl⟩⟩, ⟨_, by kernel_rfl, ⟨rfl, rfl⟩⟩, trivial⟩ ⟨⟨by kernel_rfl, rfl⟩, ⟨by kernel_rfl, rfl⟩, ⟨by kernel_rfl, rfl⟩, ⟨by kernel_rfl, rfl⟩, ⟨by kernel_rfl, rfl⟩, trivial⟩⟩
        have e2 : (modN z.d 4 == 2) = false := by simpa using h2
        have hg : go k L z ⟨t, u, none, []⟩ = ⟨t, u, none, []⟩ := by unfold go; rw [if_neg h0, if_neg h1, if_neg h2]; rfl
        rw [hg, memG_nn]
        refine Wp.block (Wp.seq (Wp.text (kp 74 (.bool false) (kp 73 (.bool false) (WpOps.nil (thenK_at (off' (Wp.seq (Wp.text (kp 92 (.bool false) (kp 91 (.bool false) (WpOps.nil (thenK_at (off' (Wp.seq (Wp.text (kp 101 (.bool false) (kp 100 (.bool false) (WpOps.nil (thenK_at (off' (Wp.seq (Wp.text (kp 64 (.pointer (some ⟨0, 0, none⟩)) (cl 65 30 [Value.pointer (some ⟨0, 0, none⟩)] ?_)))))))) (hop := fun _ => by_fact e2)))))))) (hop := fun _ => by_fact e1)))))))) (hop := fun _ => by_fact e0))))
        refine WpCall.lent [0] (copy30n k L t u) (by decide) ⟨⟨_, by kernel_rfl, ⟨rfl, rfl⟩⟩, trivial⟩ rfl (.pointer (some ⟨4, 0, none⟩)) [mB k L t u (.slice none 0 0), mB k L t u (.slice none 0 0)] (.cons rfl (.cons rfl .nil)) rfl _ rfl ?_
        refine kp 15 (.pointer (some ⟨4, 0, none⟩)) (WpOps.nil (thenK_at (Wp.seq (Wp.seq (Wp.text (kp 66 (.pointer (some ⟨4, 0, none⟩)) (kp 67 (.bool false) (WpOps.nil (thenK_at (off' (Wp.skip (thenK_at (Wp.seq (Wp.text (kp 68 (.pointer (some ⟨0, 0, none⟩)) (cl 69 13 [Value.pointer (some ⟨0, 0, none⟩), Value.string (ByteArray.mk #[111, 102, 32, 116, 104, 101, 32, 111, 108, 100, 32, 111, 110, 101])] ?_))))))))))))))))
        by_cases hlo : (fate L u).lo = true
        · refine WpCall.lentP [0] (lent13ln k L t u bOld (by decide) (by omega) hlo) (by decide) ⟨⟨_, by kernel_rfl, ⟨rfl, rfl⟩⟩, trivial⟩ rfl (.int .i64 0) [some (mB k L t (u + 1 : Nat) (.slice none 0 0))] (.cons rfl .nil) rfl _ rfl ?_
          refine WpOps.nil (thenK_at (Wp.seq (Wp.text (kp 70 (.pointer (some ⟨0, 0, none⟩)) (cl 71 14 [Value.pointer (some ⟨0, 0, none⟩)] ?_)))))
          refine WpCall.lent [0] (tick14e k L t (u + 1 : Nat) (by omega)) (by decide) ⟨⟨_, by kernel_rfl, ⟨rfl, rfl⟩⟩, trivial⟩ rfl (.slice none 0 0) [mB k L (t + 1 : Nat) (u + 1 : Nat) (.slice none 0 0)] (.cons rfl .nil) rfl _ rfl ?_
          refine WpOps.nil (thenK_at (Wp.text (kp 72 (.pointer (some ⟨4, 0, none⟩)) (kp 7 (.pointer (some ⟨4, 0, none⟩)) (WpOps.nil (blockK_norm ?_))))))
          exact ⟨rfl, View.ofP [4, 1, 2, 3] _ _ (by decide) rfl ⟨⟨_, by kernel_rfl, ⟨rfl, rfl⟩⟩, ⟨_, by kernel_rfl, ⟨rfl, rfl⟩⟩, trivial⟩ ⟨⟨by kernel_rfl, rfl⟩, ⟨by kernel_rfl, rfl⟩, ⟨by kernel_rfl, rfl⟩, ⟨by kernel_rfl, rfl⟩, ⟨by kernel_rfl, rfl⟩, trivial⟩⟩
        have hlo2 : (fate L u).lo = false := by simpa using hlo
        have jn := j.put (k := k) (L := L) u bOld hk hL2.2
        have hnl : (nxt k L t u [] bOld).length ≤ 1000 := by have := jn.len; change (nxt k L t u [] bOld).length ≤ 400 at this; omega
        have hni : InT (nxt k L t u [] bOld) := jn.inT (by omega)
        refine WpCall.lentP [0] (lent13n k L t u bOld (by decide) hk hL2.2 (by omega) (by omega) hlo2) (by decide) ⟨⟨_, by kernel_rfl, ⟨rfl, rfl⟩⟩, trivial⟩ rfl (.int .i64 0) [some (mB k L t (u + 1 : Nat) (.slice (some ⟨5, 0, none⟩) (nxt k L t u [] bOld).length (nxt k L t u [] bOld).length)), some (rowB (nxt k L t u [] bOld))] (.cons rfl (.cons (congrArg some (unB_flat (tcs_flat _))) .nil)) rfl _ rfl ?_
        refine WpOps.nil (thenK_at (Wp.seq (Wp.text (kp 70 (.pointer (some ⟨0, 0, none⟩)) (cl 71 14 [Value.pointer (some ⟨0, 0, none⟩)] ?_)))))
        refine WpCall.lent [0, 5] (tick14 k L t (u + 1 : Nat) [] (nxt k L t u [] bOld) (by omega) hnl hni) (by decide) ⟨⟨_, by kernel_rfl, ⟨rfl, rfl⟩⟩, ⟨_, by kernel_rfl, CellsOk.eq rfl (tcs_flat _)⟩, trivial⟩ rfl (outU (due (t + 1 : Nat) (ssort (nxt k L t u [] bOld)))) [mB k L (t + 1 : Nat) (u + 1 : Nat) (.slice (some ⟨5, ([] ++ due (t + 1 : Nat) (ssort (nxt k L t u [] bOld))).length * 2, none⟩) (rest (t + 1 : Nat) (ssort (nxt k L t u [] bOld))).length (rest (t + 1 : Nat) (ssort (nxt k L t u [] bOld))).length), rowB ([] ++ ssort (nxt k L t u [] bOld))] (.cons rfl (.cons (unB_flat (tcs_flat _)) .nil)) (unT_outU _ _) _ rfl ?_
        refine WpOps.nil (thenK_at (Wp.text (kp 72 (.pointer (some ⟨4, 0, none⟩)) (kp 7 (.pointer (some ⟨4, 0, none⟩)) (WpOps.nil (blockK_norm ?_))))))
        exact ⟨rfl, View.ofP [4, 1, 2, 3] _ _ (by decide) rfl ⟨⟨_, by kernel_rfl, ⟨rfl, rfl⟩⟩, ⟨_, by kernel_rfl, ⟨rfl, rfl⟩⟩, trivial⟩ ⟨⟨by kernel_rfl, rfl⟩, ⟨by kernel_rfl, rfl⟩, ⟨by kernel_rfl, rfl⟩, ⟨by kernel_rfl, rfl⟩, ⟨by kernel_rfl, rfl⟩, trivial⟩⟩
      | some q =>
        obtain ⟨p, X⟩ := q
        change Y.length = X.length at hlen
        change X.length ≤ 400 at hlX
        change InT X at hin
        by_cases hY : Y = []
        · subst hY
          have hX0 : X.length = 0 := hlen.symm
          rw [memG_on]
          by_cases h0 : modN z.d 4 = 0
          · have e0 : (modN z.d 4 == 0) = true := by rw [h0]; rfl
            by_cases hb : 4000 < z.b.size
            · have hg : go k L z ⟨t, u, some (p, X), []⟩ = ⟨t, u, some (p, X), []⟩ := by unfold go; rw [if_pos h0, if_pos hb]
              rw [hg, memG_on]
              refine Wp.block (Wp.seq (Wp.text (kp 74 (.bool true) (kp 73 (.bool true) (WpOps.nil (thenK_at (on' (Wp.seq (Wp.text (kp 75 (.pointer (some ⟨0, 0, none⟩)) (kp 76 (.iface 56 (Value.iface (List.length Z) (Value.iface y (Value.agg (List.toArray (dcs Z)))))) (kp 77 (.int .i64 i) (kp 78 (.iface 56 (Value.iface (Int.toNat (↑i : Int) * 2) (Value.agg (List.toArray (dcs Z))))) (kp 79 (.iface 56 (Value.iface (Int.toNat (↑i : Int) * 2 + 1) (Value.agg (List.toArray (dcs Z))))) (kp 80 (.string (Dd.b z)) (cl 81 13 [Value.pointer (some ⟨0, 0, none⟩), Value.string (Dd.b z)] ?_) (hop := fun _ => o_loadI1 (Int.toNat (↑i : Int) * 2 + 1) s1))) (hop := fun _ => o_indexI (e := 56) (size := 2) (a := (↑i : Int)) g1))))))))))) (hop := fun _ => by_fact e0))))
              refine WpCall.lent [0, 1] (put13Lo k L t u (p.length * 2) X.length X.length (p ++ X) z.b hb) (by decide) ⟨⟨_, by kernel_rfl, ⟨rfl, rfl⟩⟩, ⟨_, by kernel_rfl, CellsOk.eq rfl (tcs_flat _)⟩, trivial⟩ rfl (.int .i64 2) [mB k L t u (wO 1 p X), rowB (p ++ X)] (.cons rfl (.cons (unB_flat (tcs_flat _)) .nil)) rfl _ rfl ?_
              refine kp 12 (.int .i64 2) (WpOps.nil (thenK_at (Wp.seq (Wp.text (kp 82 (.int .i64 2) (kp 83 (.pointer (some ⟨2, 0, none⟩)) (kp 84 (.iface 56 (Value.iface (List.length Z) (Value.iface y (Value.agg (List.toArray (dcs Z)))))) (kp 85 (.int .i64 i) (kp 86 (.iface 56 (Value.iface (Int.toNat (↑i : Int) * 2) (Value.agg (List.toArray (dcs Z))))) (kp 87 (.iface 56 (Value.iface (Int.toNat (↑i : Int) * 2 + 1) (Value.agg (List.toArray (dcs Z))))) (kp 88 (.string (Dd.b z)) (cl 89 25 [Value.pointer (some ⟨2, 0, none⟩), Value.string (Dd.b z)] ?_) (hop := fun _ => o_loadI1 (Int.toNat (↑i : Int) * 2 + 1) s1))) (hop := fun _ => o_indexI (e := 56) (size := 2) (a := (↑i : Int)) g1))))))))))
              refine WpCall.lent [2] (put25Ln k L t u z.b hb) (by decide) ⟨⟨_, by kernel_rfl, ⟨rfl, rfl⟩⟩, trivial⟩ rfl (.int .i64 2) [sB k L t u (.slice none 0 0)] (.cons rfl .nil) rfl _ rfl ?_
              refine kp 90 (.bool false) (WpOps.nil (thenK_at (off' (Wp.skip (blockK_norm ?_)))))
              exact ⟨rfl, View.ofP [0, 1, 2, 3] _ _ (by decide) rfl ⟨⟨_, by kernel_rfl, ⟨rfl, rfl⟩⟩, ⟨_, by kernel_rfl, CellsOk.eq rfl (tcs_flat _)⟩, ⟨_, by kernel_rfl, ⟨rfl, rfl⟩⟩, trivial⟩ ⟨⟨by kernel_rfl, rfl⟩, ⟨by kernel_rfl, rfl⟩, ⟨by kernel_rfl, rfl⟩, ⟨by kernel_rfl, rfl⟩, ⟨by kernel_rfl, rfl⟩, trivial⟩⟩
            have hb2 : z.b.size ≤ 4000 := by omega
            by_cases hlo : (fate L u).lo = true
            · have hg : go k L z ⟨t, u, some (p, X), []⟩ = ⟨t, u + 1, some (p, X), []⟩ := by unfold go; rw [if_pos h0, if_neg hb, if_pos hlo]
              rw [hg, memG_on]
              refine Wp.block (Wp.seq (Wp.text (kp 74 (.bool true) (kp 73 (.bool true) (WpOps.nil (thenK_at (on' (Wp.seq (Wp.text (kp 75 (.pointer (some ⟨0, 0, none⟩)) (kp 76 (.iface 56 (Value.iface (List.length Z) (Value.iface y (Value.agg (List.toArray (dcs Z)))))) (kp 77 (.int .i64 i) (kp 78 (.iface 56 (Value.iface (Int.toNat (↑i : Int) * 2) (Value.agg (List.toArray (dcs Z))))) (kp 79 (.iface 56 (Value.iface (Int.toNat (↑i : Int) * 2 + 1) (Value.agg (List.toArray (dcs Z))))) (kp 80 (.string (Dd.b z)) (cl 81 13 [Value.pointer (some ⟨0, 0, none⟩), Value.string (Dd.b z)] ?_) (hop := fun _ => o_loadI1 (Int.toNat (↑i : Int) * 2 + 1) s1))) (hop := fun _ => o_indexI (e := 56) (size := 2) (a := (↑i : Int)) g1))))))))))) (hop := fun _ => by_fact e0))))
              refine WpCall.lentP [0, 1] (lent13lo k L t u p X z.b hb2 (by omega) hlo) (by decide) ⟨⟨_, by kernel_rfl, ⟨rfl, rfl⟩⟩, ⟨_, by kernel_rfl, CellsOk.eq rfl (tcs_flat _)⟩, trivial⟩ rfl (.int .i64 0) [some (mB k L t (u + 1 : Nat) (wO 1 p X)), some (rowB (p ++ X))] (.cons rfl (.cons (congrArg some (unB_flat (tcs_flat _))) .nil)) rfl _ rfl ?_
              refine kp 12 (.int .i64 0) (WpOps.nil (thenK_at (Wp.seq (Wp.text (kp 82 (.int .i64 0) (kp 83 (.pointer (some ⟨2, 0, none⟩)) (kp 84 (.iface 56 (Value.iface (List.length Z) (Value.iface y (Value.agg (List.toArray (dcs Z)))))) (kp 85 (.int .i64 i) (kp 86 (.iface 56 (Value.iface (Int.toNat (↑i : Int) * 2) (Value.agg (List.toArray (dcs Z))))) (kp 87 (.iface 56 (Value.iface (Int.toNat (↑i : Int) * 2 + 1) (Value.agg (List.toArray (dcs Z))))) (kp 88 (.string (Dd.b z)) (cl 89 25 [Value.pointer (some ⟨2, 0, none⟩), Value.string (Dd.b z)] ?_) (hop := fun _ => o_loadI1 (Int.toNat (↑i : Int) * 2 + 1) s1))) (hop := fun _ => o_indexI (e := 56) (size := 2) (a := (↑i : Int)) g1))))))))))
              refine WpCall.lentP [2] (lent25ln k L t u z.b hb2 (by omega) hlo) (by decide) ⟨⟨_, by kernel_rfl, ⟨rfl, rfl⟩⟩, trivial⟩ rfl (.int .i64 0) [some (sB k L t (u + 1 : Nat) (.slice none 0 0))] (.cons rfl .nil) rfl _ rfl ?_
              refine kp 90 (.bool false) (WpOps.nil (thenK_at (off' (Wp.skip (blockK_norm ?_)))))
              exact ⟨rfl, View.ofP [0, 1, 2, 3] _ _ (by decide) rfl ⟨⟨_, by kernel_rfl, ⟨rfl, rfl⟩⟩, ⟨_, by kernel_rfl, CellsOk.eq rfl (tcs_flat _)⟩, ⟨_, by kernel_rfl, ⟨rfl, rfl⟩⟩, trivial⟩ ⟨⟨by kernel_rfl, rfl⟩, ⟨by kernel_rfl, rfl⟩, ⟨by kernel_rfl, rfl⟩, ⟨by kernel_rfl, rfl⟩, ⟨by kernel_rfl, rfl⟩, trivial⟩⟩
            have hlo2 : (fate L u).lo = false := by simpa using hlo
            have hl : X.length < 400 := by omega
            have hg : go k L z ⟨t, u, some (p, X), []⟩ = ⟨t, u + 1, some ([], nxt k L t u X z.b), nxt k L t u [] z.b⟩ := by unfold go; rw [if_pos h0, if_neg hb, if_neg hlo]; dsimp only; rw [if_pos hl]
            rw [hg, memG_oo _ _ _ _ _ _ _ nxt_ne]
            refine Wp.block (Wp.seq (Wp.text (kp 74 (.bool true) (kp 73 (.bool true) (WpOps.nil (thenK_at (on' (Wp.seq (Wp.text (kp 75 (.pointer (some ⟨0, 0, none⟩)) (kp 76 (.iface 56 (Value.iface (List.length Z) (Value.iface y (Value.agg (List.toArray (dcs Z)))))) (kp 77 (.int .i64 i) (kp 78 (.iface 56 (Value.iface (Int.toNat (↑i : Int) * 2) (Value.agg (List.toArray (dcs Z))))) (kp 79 (.iface 56 (Value.iface (Int.toNat (↑i : Int) * 2 + 1) (Value.agg (List.toArray (dcs Z))))) (kp 80 (.string (Dd.b z)) (cl 81 13 [Value.pointer (some ⟨0, 0, none⟩), Value.string (Dd.b z)] ?_) (hop := fun _ => o_loadI1 (Int.toNat (↑i : Int) * 2 + 1) s1))) (hop := fun _ => o_indexI (e := 56) (size := 2) (a := (↑i : Int)) g1))))))))))) (hop := fun _ => by_fact e0))))
            refine WpCall.lentP [0, 1] (lent13o k L t u p X z.b hb2 hk hL2.2 (by omega) (by omega) hl hin hlo2) (by decide) ⟨⟨_, by kernel_rfl, ⟨rfl, rfl⟩⟩, ⟨_, by kernel_rfl, CellsOk.eq rfl (tcs_flat _)⟩, trivial⟩ rfl (.int .i64 0) [some (mB k L t (u + 1 : Nat) (.slice (some ⟨4, 0, none⟩) (nxt k L t u X z.b).length (nxt k L t u X z.b).length)), none, some (rowB (nxt k L t u X z.b))] (.cons rfl (.cons rfl (.cons (congrArg some (unB_flat (tcs_flat _))) .nil))) rfl _ rfl ?_
            refine kp 12 (.int .i64 0) (WpOps.nil (thenK_at (Wp.seq (Wp.text (kp 82 (.int .i64 0) (kp 83 (.pointer (some ⟨2, 0, none⟩)) (kp 84 (.iface 56 (Value.iface (List.length Z) (Value.iface y (Value.agg (List.toArray (dcs Z)))))) (kp 85 (.int .i64 i) (kp 86 (.iface 56 (Value.iface (Int.toNat (↑i : Int) * 2) (Value.agg (List.toArray (dcs Z))))) (kp 87 (.iface 56 (Value.iface (Int.toNat (↑i : Int) * 2 + 1) (Value.agg (List.toArray (dcs Z))))) (kp 88 (.string (Dd.b z)) (cl 89 25 [Value.pointer (some ⟨2, 0, none⟩), Value.string (Dd.b z)] ?_) (hop := fun _ => o_loadI1 (Int.toNat (↑i : Int) * 2 + 1) s1))) (hop := fun _ => o_indexI (e := 56) (size := 2) (a := (↑i : Int)) g1))))))))))
            refine WpCall.lentP [2] (lent25n k L t u z.b hb2 hk hL2.2 (by omega) (by omega) hlo2) (by decide) ⟨⟨_, by kernel_rfl, ⟨rfl, rfl⟩⟩, trivial⟩ rfl (.int .i64 0) [some (sB k L t (u + 1 : Nat) (.slice (some ⟨5, 0, none⟩) (nxt k L t u [] z.b).length (nxt k L t u [] z.b).length)), some (sR (nxt k L t u [] z.b))] (.cons rfl (.cons (congrArg some (unB_flat (ics_flat _))) .nil)) rfl _ rfl ?_
            refine kp 90 (.bool false) (WpOps.nil (thenK_at (off' (Wp.skip (blockK_norm ?_)))))
            exact ⟨rfl, View.ofP [0, 4, 2, 5] _ _ (by decide) rfl ⟨⟨_, by kernel_rfl, ⟨rfl, rfl⟩⟩, ⟨_, by kernel_rfl, CellsOk.eq rfl (tcs_flat _)⟩, ⟨_, by kernel_rfl, ⟨rfl, rfl⟩⟩, ⟨_, by kernel_rfl, CellsOk.eq rfl (ics_flat _)⟩, trivial⟩ ⟨⟨by kernel_rfl, rfl⟩, ⟨by kernel_rfl, rfl⟩, ⟨by kernel_rfl, rfl⟩, ⟨by kernel_rfl, rfl⟩, ⟨by kernel_rfl, rfl⟩, trivial⟩⟩
          have e0 : (modN z.d 4 == 0) = false := by simpa using h0
          by_cases h1 : modN z.d 4 = 1
          · have e1 : (modN z.d 4 == 1) = true := by rw [h1]; rfl
            have hg : go k L z ⟨t, u, some (p, X), []⟩ = ⟨t + 1, u, some (p ++ due (t + 1 : Nat) (ssort X), rest (t + 1 : Nat) (ssort X)), []⟩ := by unfold go; rw [if_neg h0, if_pos h1]; rfl
            obtain ⟨jt, jr⟩ := j.tick
            have ct : Unit → _ := fun _ => tick14 k L t u p X (by omega) (by omega) hin
            have hS : rowB (p ++ ssort X) = rowB (p ++ due (t + 1 : Nat) (ssort X) ++ rest (t + 1 : Nat) (ssort X)) := by rw [List.append_assoc, due_app]
            rw [hS] at ct
            change due (t + 1 : Nat) (ssort X) = _ at jt
            rw [hg]
            rw [jt] at ct ⊢
            rw [memG_on]
            change Unit → Lent E 14 _ _ (.slice none 0 0) _ at ct
            refine Wp.block (Wp.seq (Wp.text (kp 74 (.bool false) (kp 73 (.bool false) (WpOps.nil (thenK_at (off' (Wp.seq (Wp.text (kp 92 (.bool true) (kp 91 (.bool true) (WpOps.nil (thenK_at (on' (Wp.seq (Wp.text (kp 93 (.pointer (some ⟨0, 0, none⟩)) (cl 94 14 [Value.pointer (some ⟨0, 0, none⟩)] ?_)))))))) (hop := fun _ => by_fact e1)))))))) (hop := fun _ => by_fact e0))))
            refine WpCall.lent [0, 1] (ct ()) (by decide) ⟨⟨_, by kernel_rfl, ⟨rfl, rfl⟩⟩, ⟨_, by kernel_rfl, CellsOk.eq rfl (tcs_flat _)⟩, trivial⟩ rfl (.slice none 0 0) [mB k L (t + 1 : Nat) u (.slice (some ⟨1, (p ++ dueS (t + 1 : Nat) []).length * 2, none⟩) (rest (t + 1 : Nat) (ssort X)).length (rest (t + 1 : Nat) (ssort X)).length), rowB (p ++ dueS (t + 1 : Nat) [] ++ rest (t + 1 : Nat) (ssort X))] (.cons rfl (.cons (unB_flat (tcs_flat _)) .nil)) rfl _ rfl ?_
            refine kp 13 (.slice none 0 0) (WpOps.nil (thenK_at (Wp.seq (Wp.text (kp 95 (.slice none 0 0) (kp 96 (.pointer (some ⟨2, 0, none⟩)) (cl 97 27 [Value.pointer (some ⟨2, 0, none⟩)] ?_)))))))
            refine WpCall.lent [2] (tick27n k L t u (by omega)) (by decide) ⟨⟨_, by kernel_rfl, ⟨rfl, rfl⟩⟩, trivial⟩ rfl (.slice none 0 0) [sB k L (t + 1 : Nat) u (.slice none 0 0)] (.cons rfl .nil) rfl _ rfl ?_
            refine cl 98 26 [Value.slice none 0 0, Value.slice none 0 0] ?_
            refine WpCall.lent [] (strings26 [] (by decide)) (by decide) trivial rfl (.bool true) [] .nil rfl _ rfl ?_
            refine kp 99 (.bool false) (WpOps.nil (thenK_at (off' (Wp.skip (blockK_norm ?_)))))
            exact ⟨rfl, View.ofP [0, 1, 2, 3] _ _ (by decide) rfl ⟨⟨_, by kernel_rfl, ⟨rfl, rfl⟩⟩, ⟨_, by kernel_rfl, CellsOk.eq rfl (tcs_flat _)⟩, ⟨_, by kernel_rfl, ⟨rfl, rfl⟩⟩, trivial⟩ ⟨⟨by kernel_rfl, rfl⟩, ⟨by kernel_rfl, rfl⟩, ⟨by kernel_rfl, rfl⟩, ⟨by kernel_rfl, rfl⟩, ⟨by kernel_rfl, rfl⟩, trivial⟩⟩
          have e1 : (modN z.d 4 == 1) = false := by simpa using h1
          by_cases h2 : modN z.d 4 = 2
          · have e2 : (modN z.d 4 == 2) = true := by rw [h2]; rfl
            obtain rfl : X = [] := List.eq_nil_of_length_eq_zero hX0
            have hg : go k L z ⟨t, u, some (p, []), []⟩ = ⟨t, u, some (p, []), []⟩ := by unfold go; rw [if_neg h0, if_neg h1, if_pos h2]; rfl
            rw [hg, memG_on]
            refine Wp.block (Wp.seq (Wp.text (kp 74 (.bool false) (kp 73 (.bool false) (WpOps.nil (thenK_at (off' (Wp.seq (Wp.text (kp 92 (.bool false) (kp 91 (.bool false) (WpOps.nil (thenK_at (off' (Wp.seq (Wp.text (kp 101 (.bool true) (kp 100 (.bool true) (WpOps.nil (thenK_at (on' (Wp.seq (Wp.text (kp 102 (.pointer (some ⟨0, 0, none⟩)) (cl 103 28 [Value.pointer (some ⟨0, 0, none⟩)] ?_)))))))) (hop := fun _ => by_fact e2)))))))) (hop := fun _ => by_fact e1)))))))) (hop := fun _ => by_fact e0))))
            refine WpCall.lent [0, 1] (reset28e k L t u (p.length * 2) 0 (p ++ [])) (by decide) ⟨⟨_, by kernel_rfl, ⟨rfl, rfl⟩⟩, ⟨_, by kernel_rfl, CellsOk.eq rfl (tcs_flat _)⟩, trivial⟩ rfl (.int .i64 0) [mB k L t u (wO 1 p []), rowB (p ++ [])] (.cons rfl (.cons (unB_flat (tcs_flat _)) .nil)) rfl _ rfl ?_
            refine kp 14 (.int .i64 0) (WpOps.nil (thenK_at (Wp.seq (Wp.text (kp 104 (.int .i64 0) (kp 105 (.pointer (some ⟨2, 0, none⟩)) (cl 106 29 [Value.pointer (some ⟨2, 0, none⟩)] ?_)))))))
            refine WpCall.lent [2] (reset29n k L t u) (by decide) ⟨⟨_, by kernel_rfl, ⟨rfl, rfl⟩⟩, trivial⟩ rfl (.int .i64 0) [sB k L t u (.slice none 0 0)] (.cons rfl .nil) rfl _ rfl ?_
            refine kp 107 (.bool false) (WpOps.nil (thenK_at (off' (Wp.skip (blockK_norm ?_)))))
            exact ⟨rfl, View.ofP [0, 1, 2, 3] _ _ (by decide) rfl ⟨⟨_, by kernel_rfl, ⟨rfl, rfl⟩⟩, ⟨_, by kernel_rfl, CellsOk.eq rfl (tcs_flat _)⟩, ⟨_, by kernel_rfl, ⟨rfl, rfl⟩⟩, trivial⟩ ⟨⟨by kernel_rfl, rfl⟩, ⟨by kernel_rfl, rfl⟩, ⟨by kernel_rfl, rfl⟩, ⟨by kernel_rfl, rfl⟩, ⟨by kernel_rfl, rfl⟩, trivial⟩⟩
          have e2 : (modN z.d 4 == 2) = false := by simpa using h2
          have hg : go k L z ⟨t, u, some (p, X), []⟩ = ⟨t, u, some ([], X), []⟩ := by unfold go; rw [if_neg h0, if_neg h1, if_neg h2]; rfl
          rw [hg, memG_on]
          refine Wp.block (Wp.seq (Wp.text (kp 74 (.bool false) (kp 73 (.bool false) (WpOps.nil (thenK_at (off' (Wp.seq (Wp.text (kp 92 (.bool false) (kp 91 (.bool false) (WpOps.nil (thenK_at (off' (Wp.seq (Wp.text (kp 101 (.bool false) (kp 100 (.bool false) (WpOps.nil (thenK_at (off' (Wp.seq (Wp.text (kp 64 (.pointer (some ⟨0, 0, none⟩)) (cl 65 30 [Value.pointer (some ⟨0, 0, none⟩)] ?_)))))))) (hop := fun _ => by_fact e2)))))))) (hop := fun _ => by_fact e1)))))))) (hop := fun _ => by_fact e0))))
          refine WpCall.lent [0, 1] (copy30o k L t u p X (by omega)) (by decide) ⟨⟨_, by kernel_rfl, ⟨rfl, rfl⟩⟩, ⟨_, by kernel_rfl, CellsOk.eq rfl (tcs_flat _)⟩, trivial⟩ rfl (.pointer (some ⟨4, 0, none⟩)) [mB k L t u (wO 1 p X), rowB (p ++ X), mB k L t u (.slice (some ⟨5, 0, none⟩) (X).length (X).length), rowB X] (.cons rfl (.cons (unB_flat (tcs_flat _)) (.cons rfl (.cons (unB_flat (tcs_flat _)) .nil)))) rfl _ rfl ?_
          refine kp 15 (.pointer (some ⟨4, 0, none⟩)) (WpOps.nil (thenK_at (Wp.seq (Wp.seq (Wp.text (kp 66 (.pointer (some ⟨4, 0, none⟩)) (kp 67 (.bool false) (WpOps.nil (thenK_at (off' (Wp.skip (thenK_at (Wp.seq (Wp.text (kp 68 (.pointer (some ⟨0, 0, none⟩)) (cl 69 13 [Value.pointer (some ⟨0, 0, none⟩), Value.string (ByteArray.mk #[111, 102, 32, 116, 104, 101, 32, 111, 108, 100, 32, 111, 110, 101])] ?_))))))))))))))))
          by_cases hlo : (fate L u).lo = true
          · refine WpCall.lentP [0, 1] (lent13lo k L t u p X bOld (by decide) (by omega) hlo) (by decide) ⟨⟨_, by kernel_rfl, ⟨rfl, rfl⟩⟩, ⟨_, by kernel_rfl, CellsOk.eq rfl (tcs_flat _)⟩, trivial⟩ rfl (.int .i64 0) [some (mB k L t (u + 1 : Nat) (wO 1 p X)), some (rowB (p ++ X))] (.cons rfl (.cons (congrArg some (unB_flat (tcs_flat _))) .nil)) rfl _ rfl ?_
            refine WpOps.nil (thenK_at (Wp.seq (Wp.text (kp 70 (.pointer (some ⟨0, 0, none⟩)) (cl 71 14 [Value.pointer (some ⟨0, 0, none⟩)] ?_)))))
            refine WpCall.lent [0, 1] (tick14 k L t (u + 1 : Nat) p (X) (by omega) (by omega) hin) (by decide) ⟨⟨_, by kernel_rfl, ⟨rfl, rfl⟩⟩, ⟨_, by kernel_rfl, CellsOk.eq rfl (tcs_flat _)⟩, trivial⟩ rfl (outU (due (t + 1 : Nat) (ssort (X)))) [mB k L (t + 1 : Nat) (u + 1 : Nat) (.slice (some ⟨1, (p ++ due (t + 1 : Nat) (ssort (X))).length * 2, none⟩) (rest (t + 1 : Nat) (ssort (X))).length (rest (t + 1 : Nat) (ssort (X))).length), rowB (p ++ ssort (X))] (.cons rfl (.cons (unB_flat (tcs_flat _)) .nil)) (unT_outU _ _) _ rfl ?_
            refine WpOps.nil (thenK_at (Wp.text (kp 72 (.pointer (some ⟨4, 0, none⟩)) (kp 7 (.pointer (some ⟨4, 0, none⟩)) (WpOps.nil (blockK_norm ?_))))))
            exact ⟨rfl, View.ofP [4, 5, 2, 3] _ _ (by decide) rfl ⟨⟨_, by kernel_rfl, ⟨rfl, rfl⟩⟩, ⟨_, by kernel_rfl, CellsOk.eq rfl (tcs_flat _)⟩, ⟨_, by kernel_rfl, ⟨rfl, rfl⟩⟩, trivial⟩ ⟨⟨by kernel_rfl, rfl⟩, ⟨by kernel_rfl, rfl⟩, ⟨by kernel_rfl, rfl⟩, ⟨by kernel_rfl, rfl⟩, ⟨by kernel_rfl, rfl⟩, trivial⟩⟩
          have hlo2 : (fate L u).lo = false := by simpa using hlo
          have jn := j.put (k := k) (L := L) u bOld hk hL2.2
          have hnl : (nxt k L t u X bOld).length ≤ 1000 := by have := jn.len; change (nxt k L t u X bOld).length ≤ 400 at this; omega
          have hni : InT (nxt k L t u X bOld) := jn.inT (by omega)
          have hl : X.length < 400 := by omega
          refine WpCall.lentP [0, 1] (lent13o k L t u p X bOld (by decide) hk hL2.2 (by omega) (by omega) hl hin hlo2) (by decide) ⟨⟨_, by kernel_rfl, ⟨rfl, rfl⟩⟩, ⟨_, by kernel_rfl, CellsOk.eq rfl (tcs_flat _)⟩, trivial⟩ rfl (.int .i64 0) [some (mB k L t (u + 1 : Nat) (.slice (some ⟨6, 0, none⟩) (nxt k L t u X bOld).length (nxt k L t u X bOld).length)), none, some (rowB (nxt k L t u X bOld))] (.cons rfl (.cons rfl (.cons (congrArg some (unB_flat (tcs_flat _))) .nil))) rfl _ rfl ?_
          refine WpOps.nil (thenK_at (Wp.seq (Wp.text (kp 70 (.pointer (some ⟨0, 0, none⟩)) (cl 71 14 [Value.pointer (some ⟨0, 0, none⟩)] ?_)))))
          refine WpCall.lent [0, 6] (tick14 k L t (u + 1 : Nat) [] (nxt k L t u X bOld) (by omega) hnl hni) (by decide) ⟨⟨_, by kernel_rfl, ⟨rfl, rfl⟩⟩, ⟨_, by kernel_rfl, CellsOk.eq rfl (tcs_flat _)⟩, trivial⟩ rfl (outU (due (t + 1 : Nat) (ssort (nxt k L t u X bOld)))) [mB k L (t + 1 : Nat) (u + 1 : Nat) (.slice (some ⟨6, ([] ++ due (t + 1 : Nat) (ssort (nxt k L t u X bOld))).length * 2, none⟩) (rest (t + 1 : Nat) (ssort (nxt k L t u X bOld))).length (rest (t + 1 : Nat) (ssort (nxt k L t u X bOld))).length), rowB ([] ++ ssort (nxt k L t u X bOld))] (.cons rfl (.cons (unB_flat (tcs_flat _)) .nil)) (unT_outU _ _) _ rfl ?_
          refine WpOps.nil (thenK_at (Wp.text (kp 72 (.pointer (some ⟨4, 0, none⟩)) (kp 7 (.pointer (some ⟨4, 0, none⟩)) (WpOps.nil (blockK_norm ?_))))))
          exact ⟨rfl, View.ofP [4, 5, 2, 3] _ _ (by decide) rfl ⟨⟨_, by kernel_rfl, ⟨rfl, rfl⟩⟩, ⟨_, by kernel_rfl, CellsOk.eq rfl (tcs_flat _)⟩, ⟨_, by kernel_rfl, ⟨rfl, rfl⟩⟩, trivial⟩ ⟨⟨by kernel_rfl, rfl⟩, ⟨by kernel_rfl, rfl⟩, ⟨by kernel_rfl, rfl⟩, ⟨by kernel_rfl, rfl⟩, ⟨by kernel_rfl, rfl⟩, trivial⟩⟩
        · skip
          rw [memG_oo _ _ _ _ _ _ _ hY]
          by_cases h0 : modN z.d 4 = 0
          · have e0 : (modN z.d 4 == 0) = true := by rw [h0]; rfl
            by_cases hb : 4000 < z.b.size
            · have hg : go k L z ⟨t, u, some (p, X), Y⟩ = ⟨t, u, some (p, X), Y⟩ := by unfold go; rw [if_pos h0, if_pos hb]
              rw [hg, memG_oo _ _ _ _ _ _ _ hY]
              refine Wp.block (Wp.seq (Wp.text (kp 74 (.bool true) (kp 73 (.bool true) (WpOps.nil (thenK_at (on' (Wp.seq (Wp.text (kp 75 (.pointer (some ⟨0, 0, none⟩)) (kp 76 (.iface 56 (Value.iface (List.length Z) (Value.iface y (Value.agg (List.toArray (dcs Z)))))) (kp 77 (.int .i64 i) (kp 78 (.iface 56 (Value.iface (Int.toNat (↑i : Int) * 2) (Value.agg (List.toArray (dcs Z))))) (kp 79 (.iface 56 (Value.iface (Int.toNat (↑i : Int) * 2 + 1) (Value.agg (List.toArray (dcs Z))))) (kp 80 (.string (Dd.b z)) (cl 81 13 [Value.pointer (some ⟨0, 0, none⟩), Value.string (Dd.b z)] ?_) (hop := fun _ => o_loadI1 (Int.toNat (↑i : Int) * 2 + 1) s1))) (hop := fun _ => o_indexI (e := 56) (size := 2) (a := (↑i : Int)) g1))))))))))) (hop := fun _ => by_fact e0))))
              refine WpCall.lent [0, 1] (put13Lo k L t u (p.length * 2) X.length X.length (p ++ X) z.b hb) (by decide) ⟨⟨_, by kernel_rfl, ⟨rfl, rfl⟩⟩, ⟨_, by kernel_rfl, CellsOk.eq rfl (tcs_flat _)⟩, trivial⟩ rfl (.int .i64 2) [mB k L t u (wO 1 p X), rowB (p ++ X)] (.cons rfl (.cons (unB_flat (tcs_flat _)) .nil)) rfl _ rfl ?_
              refine kp 12 (.int .i64 2) (WpOps.nil (thenK_at (Wp.seq (Wp.text (kp 82 (.int .i64 2) (kp 83 (.pointer (some ⟨2, 0, none⟩)) (kp 84 (.iface 56 (Value.iface (List.length Z) (Value.iface y (Value.agg (List.toArray (dcs Z)))))) (kp 85 (.int .i64 i) (kp 86 (.iface 56 (Value.iface (Int.toNat (↑i : Int) * 2) (Value.agg (List.toArray (dcs Z))))) (kp 87 (.iface 56 (Value.iface (Int.toNat (↑i : Int) * 2 + 1) (Value.agg (List.toArray (dcs Z))))) (kp 88 (.string (Dd.b z)) (cl 89 25 [Value.pointer (some ⟨2, 0, none⟩), Value.string (Dd.b z)] ?_) (hop := fun _ => o_loadI1 (Int.toNat (↑i : Int) * 2 + 1) s1))) (hop := fun _ => o_indexI (e := 56) (size := 2) (a := (↑i : Int)) g1))))))))))
              refine WpCall.lent [2, 3] (put25Lo k L t u Y z.b hb) (by decide) ⟨⟨_, by kernel_rfl, ⟨rfl, rfl⟩⟩, ⟨_, by kernel_rfl, CellsOk.eq rfl (ics_flat _)⟩, trivial⟩ rfl (.int .i64 2) [sB k L t u (wS 3 Y), sR Y] (.cons rfl (.cons (unB_flat (ics_flat _)) .nil)) rfl _ rfl ?_
              refine kp 90 (.bool false) (WpOps.nil (thenK_at (off' (Wp.skip (blockK_norm ?_)))))
              exact ⟨rfl, View.ofP [0, 1, 2, 3] _ _ (by decide) rfl ⟨⟨_, by kernel_rfl, ⟨rfl, rfl⟩⟩, ⟨_, by kernel_rfl, CellsOk.eq rfl (tcs_flat _)⟩, ⟨_, by kernel_rfl, ⟨rfl, rfl⟩⟩, ⟨_, by kernel_rfl, CellsOk.eq rfl (ics_flat _)⟩, trivial⟩ ⟨⟨by kernel_rfl, rfl⟩, ⟨by kernel_rfl, rfl⟩, ⟨by kernel_rfl, rfl⟩, ⟨by kernel_rfl, rfl⟩, ⟨by kernel_rfl, rfl⟩, trivial⟩⟩
            have hb2 : z.b.size ≤ 4000 := by omega
            by_cases hlo : (fate L u).lo = true
            · have hg : go k L z ⟨t, u, some (p, X), Y⟩ = ⟨t, u + 1, some (p, X), Y⟩ := by unfold go; rw [if_pos h0, if_neg hb, if_pos hlo]
              rw [hg, memG_oo _ _ _ _ _ _ _ hY]
              refine Wp.block (Wp.seq (Wp.text (kp 74 (.bool true) (kp 73 (.bool true) (WpOps.nil (thenK_at (on' (Wp.seq (Wp.text (kp 75 (.pointer (some ⟨0, 0, none⟩)) (kp 76 (.iface 56 (Value.iface (List.length Z) (Value.iface y (Value.agg (List.toArray (dcs Z)))))) (kp 77 (.int .i64 i) (kp 78 (.iface 56 (Value.iface (Int.toNat (↑i : Int) * 2) (Value.agg (List.toArray (dcs Z))))) (kp 79 (.iface 56 (Value.iface (Int.toNat (↑i : Int) * 2 + 1) (Value.agg (List.toArray (dcs Z))))) (kp 80 (.string (Dd.b z)) (cl 81 13 [Value.pointer (some ⟨0, 0, none⟩), Value.string (Dd.b z)] ?_) (hop := fun _ => o_loadI1 (Int.toNat (↑i : Int) * 2 + 1) s1))) (hop := fun _ => o_indexI (e := 56) (size := 2) (a := (↑i : Int)) g1))))))))))) (hop := fun _ => by_fact e0))))
              refine WpCall.lentP [0, 1] (lent13lo k L t u p X z.b hb2 (by omega) hlo) (by decide) ⟨⟨_, by kernel_rfl, ⟨rfl, rfl⟩⟩, ⟨_, by kernel_rfl, CellsOk.eq rfl (tcs_flat _)⟩, trivial⟩ rfl (.int .i64 0) [some (mB k L t (u + 1 : Nat) (wO 1 p X)), some (rowB (p ++ X))] (.cons rfl (.cons (congrArg some (unB_flat (tcs_flat _))) .nil)) rfl _ rfl ?_
              refine kp 12 (.int .i64 0) (WpOps.nil (thenK_at (Wp.seq (Wp.text (kp 82 (.int .i64 0) (kp 83 (.pointer (some ⟨2, 0, none⟩)) (kp 84 (.iface 56 (Value.iface (List.length Z) (Value.iface y (Value.agg (List.toArray (dcs Z)))))) (kp 85 (.int .i64 i) (kp 86 (.iface 56 (Value.iface (Int.toNat (↑i : Int) * 2) (Value.agg (List.toArray (dcs Z))))) (kp 87 (.iface 56 (Value.iface (Int.toNat (↑i : Int) * 2 + 1) (Value.agg (List.toArray (dcs Z))))) (kp 88 (.string (Dd.b z)) (cl 89 25 [Value.pointer (some ⟨2, 0, none⟩), Value.string (Dd.b z)] ?_) (hop := fun _ => o_loadI1 (Int.toNat (↑i : Int) * 2 + 1) s1))) (hop := fun _ => o_indexI (e := 56) (size := 2) (a := (↑i : Int)) g1))))))))))
              refine WpCall.lentP [2, 3] (lent25lo k L t u Y z.b hb2 (by omega) hlo) (by decide) ⟨⟨_, by kernel_rfl, ⟨rfl, rfl⟩⟩, ⟨_, by kernel_rfl, CellsOk.eq rfl (ics_flat _)⟩, trivial⟩ rfl (.int .i64 0) [some (sB k L t (u + 1 : Nat) (wS 3 Y)), some (sR Y)] (.cons rfl (.cons (congrArg some (unB_flat (ics_flat _))) .nil)) rfl _ rfl ?_
              refine kp 90 (.bool false) (WpOps.nil (thenK_at (off' (Wp.skip (blockK_norm ?_)))))
              exact ⟨rfl, View.ofP [0, 1, 2, 3] _ _ (by decide) rfl ⟨⟨_, by kernel_rfl, ⟨rfl, rfl⟩⟩, ⟨_, by kernel_rfl, CellsOk.eq rfl (tcs_flat _)⟩, ⟨_, by kernel_rfl, ⟨rfl, rfl⟩⟩, ⟨_, by kernel_rfl, CellsOk.eq rfl (ics_flat _)⟩, trivial⟩ ⟨⟨by kernel_rfl, rfl⟩, ⟨by kernel_rfl, rfl⟩, ⟨by kernel_rfl, rfl⟩, ⟨by kernel_rfl, rfl⟩, ⟨by kernel_rfl, rfl⟩, trivial⟩⟩
            have hlo2 : (fate L u).lo = false := by simpa using hlo
            by_cases hl : X.length < 400
            · skip
              have hg : go k L z ⟨t, u, some (p, X), Y⟩ = ⟨t, u + 1, some ([], nxt k L t u X z.b), nxt k L t u Y z.b⟩ := by unfold go; rw [if_pos h0, if_neg hb, if_neg hlo]; dsimp only; rw [if_pos hl]
              rw [hg, memG_oo _ _ _ _ _ _ _ nxt_ne]
              refine Wp.block (Wp.seq (Wp.text (kp 74 (.bool true) (kp 73 (.bool true) (WpOps.nil (thenK_at (on' (Wp.seq (Wp.text (kp 75 (.pointer (some ⟨0, 0, none⟩)) (kp 76 (.iface 56 (Value.iface (List.length Z) (Value.iface y (Value.agg (List.toArray (dcs Z)))))) (kp 77 (.int .i64 i) (kp 78 (.iface 56 (Value.iface (Int.toNat (↑i : Int) * 2) (Value.agg (List.toArray (dcs Z))))) (kp 79 (.iface 56 (Value.iface (Int.toNat (↑i : Int) * 2 + 1) (Value.agg (List.toArray (dcs Z))))) (kp 80 (.string (Dd.b z)) (cl 81 13 [Value.pointer (some ⟨0, 0, none⟩), Value.string (Dd.b z)] ?_) (hop := fun _ => o_loadI1 (Int.toNat (↑i : Int) * 2 + 1) s1))) (hop := fun _ => o_indexI (e := 56) (size := 2) (a := (↑i : Int)) g1))))))))))) (hop := fun _ => by_fact e0))))
              refine WpCall.lentP [0, 1] (lent13o k L t u p X z.b hb2 hk hL2.2 (by omega) (by omega) hl hin hlo2) (by decide) ⟨⟨_, by kernel_rfl, ⟨rfl, rfl⟩⟩, ⟨_, by kernel_rfl, CellsOk.eq rfl (tcs_flat _)⟩, trivial⟩ rfl (.int .i64 0) [some (mB k L t (u + 1 : Nat) (.slice (some ⟨4, 0, none⟩) (nxt k L t u X z.b).length (nxt k L t u X z.b).length)), none, some (rowB (nxt k L t u X z.b))] (.cons rfl (.cons rfl (.cons (congrArg some (unB_flat (tcs_flat _))) .nil))) rfl _ rfl ?_
              refine kp 12 (.int .i64 0) (WpOps.nil (thenK_at (Wp.seq (Wp.text (kp 82 (.int .i64 0) (kp 83 (.pointer (some ⟨2, 0, none⟩)) (kp 84 (.iface 56 (Value.iface (List.length Z) (Value.iface y (Value.agg (List.toArray (dcs Z)))))) (kp 85 (.int .i64 i) (kp 86 (.iface 56 (Value.iface (Int.toNat (↑i : Int) * 2) (Value.agg (List.toArray (dcs Z))))) (kp 87 (.iface 56 (Value.iface (Int.toNat (↑i : Int) * 2 + 1) (Value.agg (List.toArray (dcs Z))))) (kp 88 (.string (Dd.b z)) (cl 89 25 [Value.pointer (some ⟨2, 0, none⟩), Value.string (Dd.b z)] ?_) (hop := fun _ => o_loadI1 (Int.toNat (↑i : Int) * 2 + 1) s1))) (hop := fun _ => o_indexI (e := 56) (size := 2) (a := (↑i : Int)) g1))))))))))
              refine WpCall.lentP [2, 3] (lent25o k L t u Y z.b hb2 hk hL2.2 (by omega) (by omega) (by omega) hin2 hlo2) (by decide) ⟨⟨_, by kernel_rfl, ⟨rfl, rfl⟩⟩, ⟨_, by kernel_rfl, CellsOk.eq rfl (ics_flat _)⟩, trivial⟩ rfl (.int .i64 0) [some (sB k L t (u + 1 : Nat) (.slice (some ⟨5, 0, none⟩) (nxt k L t u Y z.b).length (nxt k L t u Y z.b).length)), none, some (sR (nxt k L t u Y z.b))] (.cons rfl (.cons rfl (.cons (congrArg some (unB_flat (ics_flat _))) .nil))) rfl _ rfl ?_
              refine kp 90 (.bool false) (WpOps.nil (thenK_at (off' (Wp.skip (blockK_norm ?_)))))
              exact ⟨rfl, View.ofP [0, 4, 2, 5] _ _ (by decide) rfl ⟨⟨_, by kernel_rfl, ⟨rfl, rfl⟩⟩, ⟨_, by kernel_rfl, CellsOk.eq rfl (tcs_flat _)⟩, ⟨_, by kernel_rfl, ⟨rfl, rfl⟩⟩, ⟨_, by kernel_rfl, CellsOk.eq rfl (ics_flat _)⟩, trivial⟩ ⟨⟨by kernel_rfl, rfl⟩, ⟨by kernel_rfl, rfl⟩, ⟨by kernel_rfl, rfl⟩, ⟨by kernel_rfl, rfl⟩, ⟨by kernel_rfl, rfl⟩, trivial⟩⟩
            · have hg : go k L z ⟨t, u, some (p, X), Y⟩ = ⟨t, u + 1, some (p, X), Y⟩ := by unfold go; rw [if_pos h0, if_neg hb, if_neg hlo]; dsimp only; rw [if_neg hl, nxt_full (by omega)]
              rw [hg, memG_oo _ _ _ _ _ _ _ hY]
              refine Wp.block (Wp.seq (Wp.text (kp 74 (.bool true) (kp 73 (.bool true) (WpOps.nil (thenK_at (on' (Wp.seq (Wp.text (kp 75 (.pointer (some ⟨0, 0, none⟩)) (kp 76 (.iface 56 (Value.iface (List.length Z) (Value.iface y (Value.agg (List.toArray (dcs Z)))))) (kp 77 (.int .i64 i) (kp 78 (.iface 56 (Value.iface (Int.toNat (↑i : Int) * 2) (Value.agg (List.toArray (dcs Z))))) (kp 79 (.iface 56 (Value.iface (Int.toNat (↑i : Int) * 2 + 1) (Value.agg (List.toArray (dcs Z))))) (kp 80 (.string (Dd.b z)) (cl 81 13 [Value.pointer (some ⟨0, 0, none⟩), Value.string (Dd.b z)] ?_) (hop := fun _ => o_loadI1 (Int.toNat (↑i : Int) * 2 + 1) s1))) (hop := fun _ => o_indexI (e := 56) (size := 2) (a := (↑i : Int)) g1))))))))))) (hop := fun _ => by_fact e0))))
              refine WpCall.lentP [0, 1] (lent13f k L t u p X z.b hb2 hk hL2.2 (by omega) (by omega) (by omega) (by omega) hin hlo2) (by decide) ⟨⟨_, by kernel_rfl, ⟨rfl, rfl⟩⟩, ⟨_, by kernel_rfl, CellsOk.eq rfl (tcs_flat _)⟩, trivial⟩ rfl (.int .i64 0) [some (mB k L t (u + 1 : Nat) (wO 1 p X)), some (rowB (p ++ X))] (.cons rfl (.cons (congrArg some (unB_flat (tcs_flat _))) .nil)) rfl _ rfl ?_
              refine kp 12 (.int .i64 0) (WpOps.nil (thenK_at (Wp.seq (Wp.text (kp 82 (.int .i64 0) (kp 83 (.pointer (some ⟨2, 0, none⟩)) (kp 84 (.iface 56 (Value.iface (List.length Z) (Value.iface y (Value.agg (List.toArray (dcs Z)))))) (kp 85 (.int .i64 i) (kp 86 (.iface 56 (Value.iface (Int.toNat (↑i : Int) * 2) (Value.agg (List.toArray (dcs Z))))) (kp 87 (.iface 56 (Value.iface (Int.toNat (↑i : Int) * 2 + 1) (Value.agg (List.toArray (dcs Z))))) (kp 88 (.string (Dd.b z)) (cl 89 25 [Value.pointer (some ⟨2, 0, none⟩), Value.string (Dd.b z)] ?_) (hop := fun _ => o_loadI1 (Int.toNat (↑i : Int) * 2 + 1) s1))) (hop := fun _ => o_indexI (e := 56) (size := 2) (a := (↑i : Int)) g1))))))))))
              refine WpCall.lentP [2, 3] (lent25f k L t u Y z.b hb2 hk hL2.2 (by omega) (by omega) (by omega) (by omega) hin2 hlo2) (by decide) ⟨⟨_, by kernel_rfl, ⟨rfl, rfl⟩⟩, ⟨_, by kernel_rfl, CellsOk.eq rfl (ics_flat _)⟩, trivial⟩ rfl (.int .i64 0) [some (sB k L t (u + 1 : Nat) (wS 3 Y)), some (sR Y)] (.cons rfl (.cons (congrArg some (unB_flat (ics_flat _))) .nil)) rfl _ rfl ?_
              refine kp 90 (.bool false) (WpOps.nil (thenK_at (off' (Wp.skip (blockK_norm ?_)))))
              exact ⟨rfl, View.ofP [0, 1, 2, 3] _ _ (by decide) rfl ⟨⟨_, by kernel_rfl, ⟨rfl, rfl⟩⟩, ⟨_, by kernel_rfl, CellsOk.eq rfl (tcs_flat _)⟩, ⟨_, by kernel_rfl, ⟨rfl, rfl⟩⟩, ⟨_, by kernel_rfl, CellsOk.eq rfl (ics_flat _)⟩, trivial⟩ ⟨⟨by kernel_rfl, rfl⟩, ⟨by kernel_rfl, rfl⟩, ⟨by kernel_rfl, rfl⟩, ⟨by kernel_rfl, rfl⟩, ⟨by kernel_rfl, rfl⟩, trivial⟩⟩
          have e0 : (modN z.d 4 == 0) = false := by simpa using h0
          by_cases h1 : modN z.d 4 = 1
          · have e1 : (modN z.d 4 == 1) = true := by rw [h1]; rfl
            have hg : go k L z ⟨t, u, some (p, X), Y⟩ = ⟨t + 1, u, some (p ++ due (t + 1 : Nat) (ssort X), rest (t + 1 : Nat) (ssort X)), leftS (t + 1 : Nat) Y⟩ := by unfold go; rw [if_neg h0, if_pos h1]; rfl
            obtain ⟨jt, jr⟩ := j.tick
            have ct : Unit → _ := fun _ => tick14 k L t u p X (by omega) (by omega) hin
            have hS : rowB (p ++ ssort X) = rowB (p ++ due (t + 1 : Nat) (ssort X) ++ rest (t + 1 : Nat) (ssort X)) := by rw [List.append_assoc, due_app]
            rw [hS] at ct
            change due (t + 1 : Nat) (ssort X) = _ at jt
            rw [hg]
            obtain ⟨cs, hcs⟩ : ∃ D, dueS (t + 1 : Nat) Y = D := ⟨_, rfl⟩
            by_cases hF : leftS (t + 1 : Nat) Y = []
            · have cq := lent27e k L t u Y (by omega) (by omega) hF
              rw [hF, memG_on]
              rw [jt] at ct ⊢
              refine Wp.block (Wp.seq (Wp.text (kp 74 (.bool false) (kp 73 (.bool false) (WpOps.nil (thenK_at (off' (Wp.seq (Wp.text (kp 92 (.bool true) (kp 91 (.bool true) (WpOps.nil (thenK_at (on' (Wp.seq (Wp.text (kp 93 (.pointer (some ⟨0, 0, none⟩)) (cl 94 14 [Value.pointer (some ⟨0, 0, none⟩)] ?_)))))))) (hop := fun _ => by_fact e1)))))))) (hop := fun _ => by_fact e0))))
              refine WpCall.lent [0, 1] (ct ()) (by decide) ⟨⟨_, by kernel_rfl, ⟨rfl, rfl⟩⟩, ⟨_, by kernel_rfl, CellsOk.eq rfl (tcs_flat _)⟩, trivial⟩ rfl (outU (dueS (t + 1 : Nat) Y)) [mB k L (t + 1 : Nat) u (.slice (some ⟨1, (p ++ dueS (t + 1 : Nat) Y).length * 2, none⟩) (rest (t + 1 : Nat) (ssort X)).length (rest (t + 1 : Nat) (ssort X)).length), rowB (p ++ dueS (t + 1 : Nat) Y ++ rest (t + 1 : Nat) (ssort X))] (.cons rfl (.cons (unB_flat (tcs_flat _)) .nil)) (unT_outU _ _) _ rfl ?_
              refine kp 13 (Decidable.rec (fun h => (fun x => FS 9 (List.length (dueS (↑(t + 1) : Int) Y)) 0 (List.toArray (uns (dueS (↑(t + 1) : Int) Y)))) h) (fun h => (fun x => Value.slice none 0 0) h) (List.instDecidableEqNil (dueS (↑(t + 1) : Int) Y))) (WpOps.nil (thenK_at (Wp.seq (Wp.text (kp 95 (Decidable.rec (fun h => (fun x => FS 9 (List.length (dueS (↑(t + 1) : Int) Y)) 0 (List.toArray (uns (dueS (↑(t + 1) : Int) Y)))) h) (fun h => (fun x => Value.slice none 0 0) h) (List.instDecidableEqNil (dueS (↑(t + 1) : Int) Y))) (kp 96 (.pointer (some ⟨2, 0, none⟩)) (cl 97 27 [Value.pointer (some ⟨2, 0, none⟩)] ?_)))))))
              refine WpCall.lentP [2, 3] (cq) (by decide) ⟨⟨_, by kernel_rfl, ⟨rfl, rfl⟩⟩, ⟨_, by kernel_rfl, CellsOk.eq rfl (ics_flat _)⟩, trivial⟩ rfl (outU (dueS (t + 1 : Nat) Y)) [some (sB k L (t + 1 : Nat) u (.slice none 0 0)), none] (.cons rfl (.cons rfl .nil)) (unT_outU _ _) _ rfl ?_
              refine cl 98 26 [Decidable.rec (fun h => (fun x => FS 9 (List.length (dueS (↑(t + 1) : Int) Y)) 0 (List.toArray (uns (dueS (↑(t + 1) : Int) Y)))) h) (fun h => (fun x => Value.slice none 0 0) h) (List.instDecidableEqNil (dueS (↑(t + 1) : Int) Y)), Decidable.rec (fun h => (fun x => FS 9 (List.length (dueS (↑(t + 1) : Int) Y)) 0 (List.toArray (uns (dueS (↑(t + 1) : Int) Y)))) h) (fun h => (fun x => Value.slice none 0 0) h) (List.instDecidableEqNil (dueS (↑(t + 1) : Int) Y))] ?_
              refine WpCall.lent [] (strings26 (dueS (t + 1 : Nat) Y) hdl) (by decide) trivial (strA _) (.bool true) [] .nil rfl _ rfl ?_
              refine kp 99 (.bool false) (WpOps.nil (thenK_at (off' (Wp.skip (blockK_norm ?_)))))
              exact ⟨rfl, View.ofP [0, 1, 2, 3] _ _ (by decide) rfl ⟨⟨_, by kernel_rfl, ⟨rfl, rfl⟩⟩, ⟨_, by kernel_rfl, CellsOk.eq rfl (tcs_flat _)⟩, ⟨_, by kernel_rfl, ⟨rfl, rfl⟩⟩, trivial⟩ ⟨⟨by kernel_rfl, rfl⟩, ⟨by kernel_rfl, rfl⟩, ⟨by kernel_rfl, rfl⟩, ⟨by kernel_rfl, rfl⟩, ⟨by kernel_rfl, rfl⟩, trivial⟩⟩
            have cq := lent27r k L t u Y (by omega) (by omega) hF
            rw [memG_oo _ _ _ _ _ _ _ hF]
            rw [jt] at ct ⊢
            refine Wp.block (Wp.seq (Wp.text (kp 74 (.bool false) (kp 73 (.bool false) (WpOps.nil (thenK_at (off' (Wp.seq (Wp.text (kp 92 (.bool true) (kp 91 (.bool true) (WpOps.nil (thenK_at (on' (Wp.seq (Wp.text (kp 93 (.pointer (some ⟨0, 0, none⟩)) (cl 94 14 [Value.pointer (some ⟨0, 0, none⟩)] ?_)))))))) (hop := fun _ => by_fact e1)))))))) (hop := fun _ => by_fact e0))))
            refine WpCall.lent [0, 1] (ct ()) (by decide) ⟨⟨_, by kernel_rfl, ⟨rfl, rfl⟩⟩, ⟨_, by kernel_rfl, CellsOk.eq rfl (tcs_flat _)⟩, trivial⟩ rfl (outU (dueS (t + 1 : Nat) Y)) [mB k L (t + 1 : Nat) u (.slice (some ⟨1, (p ++ dueS (t + 1 : Nat) Y).length * 2, none⟩) (rest (t + 1 : Nat) (ssort X)).length (rest (t + 1 : Nat) (ssort X)).length), rowB (p ++ dueS (t + 1 : Nat) Y ++ rest (t + 1 : Nat) (ssort X))] (.cons rfl (.cons (unB_flat (tcs_flat _)) .nil)) (unT_outU _ _) _ rfl ?_
            refine kp 13 (Decidable.rec (fun h => (fun x => FS 9 (List.length (dueS (↑(t + 1) : Int) Y)) 0 (List.toArray (uns (dueS (↑(t + 1) : Int) Y)))) h) (fun h => (fun x => Value.slice none 0 0) h) (List.instDecidableEqNil (dueS (↑(t + 1) : Int) Y))) (WpOps.nil (thenK_at (Wp.seq (Wp.text (kp 95 (Decidable.rec (fun h => (fun x => FS 9 (List.length (dueS (↑(t + 1) : Int) Y)) 0 (List.toArray (uns (dueS (↑(t + 1) : Int) Y)))) h) (fun h => (fun x => Value.slice none 0 0) h) (List.instDecidableEqNil (dueS (↑(t + 1) : Int) Y))) (kp 96 (.pointer (some ⟨2, 0, none⟩)) (cl 97 27 [Value.pointer (some ⟨2, 0, none⟩)] ?_)))))))
            refine WpCall.lentP [2, 3] (cq) (by decide) ⟨⟨_, by kernel_rfl, ⟨rfl, rfl⟩⟩, ⟨_, by kernel_rfl, CellsOk.eq rfl (ics_flat _)⟩, trivial⟩ rfl (outU (dueS (t + 1 : Nat) Y)) [some (sB k L (t + 1 : Nat) u (.slice (some ⟨4, 0, none⟩) (leftS (t + 1 : Nat) Y).length (leftS (t + 1 : Nat) Y).length)), none, some (sR (leftS (t + 1 : Nat) Y))] (.cons rfl (.cons rfl (.cons (congrArg some (unB_flat (ics_flat _))) .nil))) (unT_outU _ _) _ rfl ?_
            refine cl 98 26 [Decidable.rec (fun h => (fun x => FS 9 (List.length (dueS (↑(t + 1) : Int) Y)) 0 (List.toArray (uns (dueS (↑(t + 1) : Int) Y)))) h) (fun h => (fun x => Value.slice none 0 0) h) (List.instDecidableEqNil (dueS (↑(t + 1) : Int) Y)), Decidable.rec (fun h => (fun x => FS 9 (List.length (dueS (↑(t + 1) : Int) Y)) 0 (List.toArray (uns (dueS (↑(t + 1) : Int) Y)))) h) (fun h => (fun x => Value.slice none 0 0) h) (List.instDecidableEqNil (dueS (↑(t + 1) : Int) Y))] ?_
            refine WpCall.lent [] (strings26 (dueS (t + 1 : Nat) Y) hdl) (by decide) trivial (strA _) (.bool true) [] .nil rfl _ rfl ?_
            refine kp 99 (.bool false) (WpOps.nil (thenK_at (off' (Wp.skip (blockK_norm ?_)))))
            exact ⟨rfl, View.ofP [0, 1, 2, 4] _ _ (by decide) rfl ⟨⟨_, by kernel_rfl, ⟨rfl, rfl⟩⟩, ⟨_, by kernel_rfl, CellsOk.eq rfl (tcs_flat _)⟩, ⟨_, by kernel_rfl, ⟨rfl, rfl⟩⟩, ⟨_, by kernel_rfl, CellsOk.eq rfl (ics_flat _)⟩, trivial⟩ ⟨⟨by kernel_rfl, rfl⟩, ⟨by kernel_rfl, rfl⟩, ⟨by kernel_rfl, rfl⟩, ⟨by kernel_rfl, rfl⟩, ⟨by kernel_rfl, rfl⟩, trivial⟩⟩
          have e1 : (modN z.d 4 == 1) = false := by simpa using h1
          by_cases h2 : modN z.d 4 = 2
          · have e2 : (modN z.d 4 == 2) = true := by rw [h2]; rfl
            have hXne : X ≠ [] := fun h => by rw [h] at hlen; exact hY (List.eq_nil_of_length_eq_zero hlen)
            have hg : go k L z ⟨t, u, some (p, X), Y⟩ = ⟨t, u, none, []⟩ := by unfold go; rw [if_neg h0, if_neg h1, if_pos h2]; dsimp only; rw [if_neg hXne]
            rw [hg, memG_nn]
            have e5 : ((X.length : Int) != (Y.length : Int)) = false := by rw [hlen]; exact bne_self _
            refine Wp.block (Wp.seq (Wp.text (kp 74 (.bool false) (kp 73 (.bool false) (WpOps.nil (thenK_at (off' (Wp.seq (Wp.text (kp 92 (.bool false) (kp 91 (.bool false) (WpOps.nil (thenK_at (off' (Wp.seq (Wp.text (kp 101 (.bool true) (kp 100 (.bool true) (WpOps.nil (thenK_at (on' (Wp.seq (Wp.text (kp 102 (.pointer (some ⟨0, 0, none⟩)) (cl 103 28 [Value.pointer (some ⟨0, 0, none⟩)] ?_)))))))) (hop := fun _ => by_fact e2)))))))) (hop := fun _ => by_fact e1)))))))) (hop := fun _ => by_fact e0))))
            refine WpCall.lent [0, 1] (reset28o k L t u (p.length * 2) X.length X.length (p ++ X) (List.length_pos_iff.2 hXne)) (by decide) ⟨⟨_, by kernel_rfl, ⟨rfl, rfl⟩⟩, ⟨_, by kernel_rfl, CellsOk.eq rfl (tcs_flat _)⟩, trivial⟩ rfl (.int .i64 X.length) [mB k L t u (.slice none 0 0), rowB (p ++ X)] (.cons rfl (.cons (unB_flat (tcs_flat _)) .nil)) rfl _ rfl ?_
            refine kp 14 (.int .i64 (List.length X)) (WpOps.nil (thenK_at (Wp.seq (Wp.text (kp 104 (.int .i64 (List.length X)) (kp 105 (.pointer (some ⟨2, 0, none⟩)) (cl 106 29 [Value.pointer (some ⟨2, 0, none⟩)] ?_)))))))
            refine WpCall.lent [2, 3] (reset29o k L t u Y) (by decide) ⟨⟨_, by kernel_rfl, ⟨rfl, rfl⟩⟩, ⟨_, by kernel_rfl, CellsOk.eq rfl (ics_flat _)⟩, trivial⟩ rfl (.int .i64 Y.length) [sB k L t u (.slice none 0 0), sR Y] (.cons rfl (.cons (unB_flat (ics_flat _)) .nil)) rfl _ rfl ?_
            refine kp 107 (.bool false) (WpOps.nil (thenK_at (off' (Wp.skip (blockK_norm ?_))))) (hop := fun _ => by_fact e5)
            exact ⟨rfl, View.ofP [0, 1, 2, 3] _ _ (by decide) rfl ⟨⟨_, by kernel_rfl, ⟨rfl, rfl⟩⟩, ⟨_, by kernel_rfl, ⟨rfl, rfl⟩⟩, trivial⟩ ⟨⟨by kernel_rfl, rfl⟩, ⟨by kernel_rfl, rfl⟩, ⟨by kernel_rfl, rfl⟩, ⟨by kernel_rfl, rfl⟩, ⟨by kernel_rfl, rfl⟩, trivial⟩⟩
          have e2 : (modN z.d 4 == 2) = false := by simpa using h2
          have hg : go k L z ⟨t, u, some (p, X), Y⟩ = ⟨t, u, some ([], X), Y⟩ := by unfold go; rw [if_neg h0, if_neg h1, if_neg h2]; rfl
          rw [hg, memG_oo _ _ _ _ _ _ _ hY]
          refine Wp.block (Wp.seq (Wp.text (kp 74 (.bool false) (kp 73 (.bool false) (WpOps.nil (thenK_at (off' (Wp.seq (Wp.text (kp 92 (.bool false) (kp 91 (.bool false) (WpOps.nil (thenK_at (off' (Wp.seq (Wp.text (kp 101 (.bool false) (kp 100 (.bool false) (WpOps.nil (thenK_at (off' (Wp.seq (Wp.text (kp 64 (.pointer (some ⟨0, 0, none⟩)) (cl 65 30 [Value.pointer (some ⟨0, 0, none⟩)] ?_)))))))) (hop := fun _ => by_fact e2)))))))) (hop := fun _ => by_fact e1)))))))) (hop := fun _ => by_fact e0))))
          refine WpCall.lent [0, 1] (copy30o k L t u p X (by omega)) (by decide) ⟨⟨_, by kernel_rfl, ⟨rfl, rfl⟩⟩, ⟨_, by kernel_rfl, CellsOk.eq rfl (tcs_flat _)⟩, trivial⟩ rfl (.pointer (some ⟨4, 0, none⟩)) [mB k L t u (wO 1 p X), rowB (p ++ X), mB k L t u (.slice (some ⟨5, 0, none⟩) (X).length (X).length), rowB X] (.cons rfl (.cons (unB_flat (tcs_flat _)) (.cons rfl (.cons (unB_flat (tcs_flat _)) .nil)))) rfl _ rfl ?_
          refine kp 15 (.pointer (some ⟨4, 0, none⟩)) (WpOps.nil (thenK_at (Wp.seq (Wp.seq (Wp.text (kp 66 (.pointer (some ⟨4, 0, none⟩)) (kp 67 (.bool false) (WpOps.nil (thenK_at (off' (Wp.skip (thenK_at (Wp.seq (Wp.text (kp 68 (.pointer (some ⟨0, 0, none⟩)) (cl 69 13 [Value.pointer (some ⟨0, 0, none⟩), Value.string (ByteArray.mk #[111, 102, 32, 116, 104, 101, 32, 111, 108, 100, 32, 111, 110, 101])] ?_))))))))))))))))
          by_cases hlo : (fate L u).lo = true
          · refine WpCall.lentP [0, 1] (lent13lo k L t u p X bOld (by decide) (by omega) hlo) (by decide) ⟨⟨_, by kernel_rfl, ⟨rfl, rfl⟩⟩, ⟨_, by kernel_rfl, CellsOk.eq rfl (tcs_flat _)⟩, trivial⟩ rfl (.int .i64 0) [some (mB k L t (u + 1 : Nat) (wO 1 p X)), some (rowB (p ++ X))] (.cons rfl (.cons (congrArg some (unB_flat (tcs_flat _))) .nil)) rfl _ rfl ?_
            refine WpOps.nil (thenK_at (Wp.seq (Wp.text (kp 70 (.pointer (some ⟨0, 0, none⟩)) (cl 71 14 [Value.pointer (some ⟨0, 0, none⟩)] ?_)))))
            refine WpCall.lent [0, 1] (tick14 k L t (u + 1 : Nat) p (X) (by omega) (by omega) hin) (by decide) ⟨⟨_, by kernel_rfl, ⟨rfl, rfl⟩⟩, ⟨_, by kernel_rfl, CellsOk.eq rfl (tcs_flat _)⟩, trivial⟩ rfl (outU (due (t + 1 : Nat) (ssort (X)))) [mB k L (t + 1 : Nat) (u + 1 : Nat) (.slice (some ⟨1, (p ++ due (t + 1 : Nat) (ssort (X))).length * 2, none⟩) (rest (t + 1 : Nat) (ssort (X))).length (rest (t + 1 : Nat) (ssort (X))).length), rowB (p ++ ssort (X))] (.cons rfl (.cons (unB_flat (tcs_flat _)) .nil)) (unT_outU _ _) _ rfl ?_
            refine WpOps.nil (thenK_at (Wp.text (kp 72 (.pointer (some ⟨4, 0, none⟩)) (kp 7 (.pointer (some ⟨4, 0, none⟩)) (WpOps.nil (blockK_norm ?_))))))
            exact ⟨rfl, View.ofP [4, 5, 2, 3] _ _ (by decide) rfl ⟨⟨_, by kernel_rfl, ⟨rfl, rfl⟩⟩, ⟨_, by kernel_rfl, CellsOk.eq rfl (tcs_flat _)⟩, ⟨_, by kernel_rfl, ⟨rfl, rfl⟩⟩, ⟨_, by kernel_rfl, CellsOk.eq rfl (ics_flat _)⟩, trivial⟩ ⟨⟨by kernel_rfl, rfl⟩, ⟨by kernel_rfl, rfl⟩, ⟨by kernel_rfl, rfl⟩, ⟨by kernel_rfl, rfl⟩, ⟨by kernel_rfl, rfl⟩, trivial⟩⟩
          have hlo2 : (fate L u).lo = false := by simpa using hlo
          have jn := j.put (k := k) (L := L) u bOld hk hL2.2
          have hnl : (nxt k L t u X bOld).length ≤ 1000 := by have := jn.len; change (nxt k L t u X bOld).length ≤ 400 at this; omega
          have hni : InT (nxt k L t u X bOld) := jn.inT (by omega)
          by_cases hl : X.length < 400
          · skip
            refine WpCall.lentP [0, 1] (lent13o k L t u p X bOld (by decide) hk hL2.2 (by omega) (by omega) hl hin hlo2) (by decide) ⟨⟨_, by kernel_rfl, ⟨rfl, rfl⟩⟩, ⟨_, by kernel_rfl, CellsOk.eq rfl (tcs_flat _)⟩, trivial⟩ rfl (.int .i64 0) [some (mB k L t (u + 1 : Nat) (.slice (some ⟨6, 0, none⟩) (nxt k L t u X bOld).length (nxt k L t u X bOld).length)), none, some (rowB (nxt k L t u X bOld))] (.cons rfl (.cons rfl (.cons (congrArg some (unB_flat (tcs_flat _))) .nil))) rfl _ rfl ?_
            refine WpOps.nil (thenK_at (Wp.seq (Wp.text (kp 70 (.pointer (some ⟨0, 0, none⟩)) (cl 71 14 [Value.pointer (some ⟨0, 0, none⟩)] ?_)))))
            refine WpCall.lent [0, 6] (tick14 k L t (u + 1 : Nat) [] (nxt k L t u X bOld) (by omega) hnl hni) (by decide) ⟨⟨_, by kernel_rfl, ⟨rfl, rfl⟩⟩, ⟨_, by kernel_rfl, CellsOk.eq rfl (tcs_flat _)⟩, trivial⟩ rfl (outU (due (t + 1 : Nat) (ssort (nxt k L t u X bOld)))) [mB k L (t + 1 : Nat) (u + 1 : Nat) (.slice (some ⟨6, ([] ++ due (t + 1 : Nat) (ssort (nxt k L t u X bOld))).length * 2, none⟩) (rest (t + 1 : Nat) (ssort (nxt k L t u X bOld))).length (rest (t + 1 : Nat) (ssort (nxt k L t u X bOld))).length), rowB ([] ++ ssort (nxt k L t u X bOld))] (.cons rfl (.cons (unB_flat (tcs_flat _)) .nil)) (unT_outU _ _) _ rfl ?_
            refine WpOps.nil (thenK_at (Wp.text (kp 72 (.pointer (some ⟨4, 0, none⟩)) (kp 7 (.pointer (some ⟨4, 0, none⟩)) (WpOps.nil (blockK_norm ?_))))))
            exact ⟨rfl, View.ofP [4, 5, 2, 3] _ _ (by decide) rfl ⟨⟨_, by kernel_rfl, ⟨rfl, rfl⟩⟩, ⟨_, by kernel_rfl, CellsOk.eq rfl (tcs_flat _)⟩, ⟨_, by kernel_rfl, ⟨rfl, rfl⟩⟩, ⟨_, by kernel_rfl, CellsOk.eq rfl (ics_flat _)⟩, trivial⟩ ⟨⟨by kernel_rfl, rfl⟩, ⟨by kernel_rfl, rfl⟩, ⟨by kernel_rfl, rfl⟩, ⟨by kernel_rfl, rfl⟩, ⟨by kernel_rfl, rfl⟩, trivial⟩⟩
          · refine WpCall.lentP [0, 1] (lent13f k L t u p X bOld (by decide) hk hL2.2 (by omega) (by omega) (by omega) (by omega) hin hlo2) (by decide) ⟨⟨_, by kernel_rfl, ⟨rfl, rfl⟩⟩, ⟨_, by kernel_rfl, CellsOk.eq rfl (tcs_flat _)⟩, trivial⟩ rfl (.int .i64 0) [some (mB k L t (u + 1 : Nat) (wO 1 p X)), some (rowB (p ++ X))] (.cons rfl (.cons (congrArg some (unB_flat (tcs_flat _))) .nil)) rfl _ rfl ?_
            refine WpOps.nil (thenK_at (Wp.seq (Wp.text (kp 70 (.pointer (some ⟨0, 0, none⟩)) (cl 71 14 [Value.pointer (some ⟨0, 0, none⟩)] ?_)))))
            refine WpCall.lent [0, 1] (tick14 k L t (u + 1 : Nat) p (X) (by omega) (by omega) hin) (by decide) ⟨⟨_, by kernel_rfl, ⟨rfl, rfl⟩⟩, ⟨_, by kernel_rfl, CellsOk.eq rfl (tcs_flat _)⟩, trivial⟩ rfl (outU (due (t + 1 : Nat) (ssort (X)))) [mB k L (t + 1 : Nat) (u + 1 : Nat) (.slice (some ⟨1, (p ++ due (t + 1 : Nat) (ssort (X))).length * 2, none⟩) (rest (t + 1 : Nat) (ssort (X))).length (rest (t + 1 : Nat) (ssort (X))).length), rowB (p ++ ssort (X))] (.cons rfl (.cons (unB_flat (tcs_flat _)) .nil)) (unT_outU _ _) _ rfl ?_
            refine WpOps.nil (thenK_at (Wp.text (kp 72 (.pointer (some ⟨4, 0, none⟩)) (kp 7 (.pointer (some ⟨4, 0, none⟩)) (WpOps.nil (blockK_norm ?_))))))
            exact ⟨rfl, View.ofP [4, 5, 2, 3] _ _ (by decide) rfl ⟨⟨_, by kernel_rfl, ⟨rfl, rfl⟩⟩, ⟨_, by kernel_rfl, CellsOk.eq rfl (tcs_flat _)⟩, ⟨_, by kernel_rfl, ⟨rfl, rfl⟩⟩, ⟨_, by kernel_rfl, CellsOk.eq rfl (ics_flat _)⟩, trivial⟩ ⟨⟨by kernel_rfl, rfl⟩, ⟨by kernel_rfl, rfl⟩, ⟨by kernel_rfl, rfl⟩, ⟨by kernel_rfl, rfl⟩, ⟨by kernel_rfl, rfl⟩, trivial⟩⟩
    · generalize go k L z σ = σ' at hv2 ⊢
      obtain ⟨t, u, W, Y⟩ := σ'
      have hlen := hv2.j.lens
      clear hgo hv m1 m2 c1
      cases W with
      | none =>
        obtain rfl : Y = [] := List.eq_nil_of_length_eq_zero hlen
        rw [memG_nn]
        refine Wp.seq (Wp.text (kp 108 (.pointer (some ⟨0, 0, none⟩)) (kp 109 (.pointer (some ⟨2, 0, none⟩)) (cl 110 31 [Value.pointer (some ⟨0, 0, none⟩), Value.pointer (some ⟨2, 0, none⟩)] ?_))))
        refine WpCall.lent [0, 2] (same31nn k L t u) (by decide) ⟨⟨_, by kernel_rfl, ⟨rfl, rfl⟩⟩, ⟨_, by kernel_rfl, ⟨rfl, rfl⟩⟩, trivial⟩ rfl (.bool true) [mB k L t u (.slice none 0 0), sB k L t u (.slice none 0 0)] (.cons rfl (.cons rfl .nil)) rfl _ rfl ?_
        refine kp 111 (.bool false) (WpOps.nil (thenK_at (off' (Wp.skip (blockK_norm (thenK_at (Wp.text (kp 56 (.int .i64 i) (kp 57 (.int .i64 (IntKind.wrap .i64 ((↑i : Int) + 1))) (kp 11 (.int .i64 (IntKind.wrap .i64 ((↑i : Int) + 1))) (WpOps.nil (thenK_at ?_))))))))))))
        exact ⟨(i + 1, ⟨t, u, none, []⟩), by dsimp only; omega, ⟨by dsimp only; omega, hv2⟩, by dsimp only; rw [memG_nn]; exact View.ofP [0, 1, 2, 3] _ _ (by decide) rfl ⟨⟨_, by kernel_rfl, ⟨rfl, rfl⟩⟩, ⟨_, by kernel_rfl, ⟨rfl, rfl⟩⟩, trivial⟩ ⟨⟨by kernel_rfl, rfl⟩, ⟨by kernel_rfl, rfl⟩, ⟨by kernel_rfl, rfl⟩, ⟨by kernel_rfl, rfl⟩, ⟨congrArg (Value.int .i64) wi, rfl⟩, trivial⟩⟩
      | some q =>
        obtain ⟨p, X⟩ := q
        change Y.length = X.length at hlen
        by_cases hY : Y = []
        · subst hY
          rw [memG_on]
          refine Wp.seq (Wp.text (kp 108 (.pointer (some ⟨0, 0, none⟩)) (kp 109 (.pointer (some ⟨2, 0, none⟩)) (cl 110 31 [Value.pointer (some ⟨0, 0, none⟩), Value.pointer (some ⟨2, 0, none⟩)] ?_))))
          refine WpCall.lent [0, 1, 2] (same31on k L t u p X hlen.symm) (by decide) ⟨⟨_, by kernel_rfl, ⟨rfl, rfl⟩⟩, ⟨_, by kernel_rfl, CellsOk.eq rfl (tcs_flat _)⟩, ⟨_, by kernel_rfl, ⟨rfl, rfl⟩⟩, trivial⟩ rfl (.bool true) [mB k L t u (wO 1 p X), rowB (p ++ X), sB k L t u (.slice none 0 0)] (.cons rfl (.cons (unB_flat (tcs_flat _)) (.cons rfl .nil))) rfl _ rfl ?_
          refine kp 111 (.bool false) (WpOps.nil (thenK_at (off' (Wp.skip (blockK_norm (thenK_at (Wp.text (kp 56 (.int .i64 i) (kp 57 (.int .i64 (IntKind.wrap .i64 ((↑i : Int) + 1))) (kp 11 (.int .i64 (IntKind.wrap .i64 ((↑i : Int) + 1))) (WpOps.nil (thenK_at ?_))))))))))))
          exact ⟨(i + 1, ⟨t, u, some (p, X), []⟩), by dsimp only; omega, ⟨by dsimp only; omega, hv2⟩, by dsimp only; rw [memG_on]; exact View.ofP [0, 1, 2, 3] _ _ (by decide) rfl ⟨⟨_, by kernel_rfl, ⟨rfl, rfl⟩⟩, ⟨_, by kernel_rfl, CellsOk.eq rfl (tcs_flat _)⟩, ⟨_, by kernel_rfl, ⟨rfl, rfl⟩⟩, trivial⟩ ⟨⟨by kernel_rfl, rfl⟩, ⟨by kernel_rfl, rfl⟩, ⟨by kernel_rfl, rfl⟩, ⟨by kernel_rfl, rfl⟩, ⟨congrArg (Value.int .i64) wi, rfl⟩, trivial⟩⟩
        · rw [memG_oo _ _ _ _ _ _ _ hY]
          refine Wp.seq (Wp.text (kp 108 (.pointer (some ⟨0, 0, none⟩)) (kp 109 (.pointer (some ⟨2, 0, none⟩)) (cl 110 31 [Value.pointer (some ⟨0, 0, none⟩), Value.pointer (some ⟨2, 0, none⟩)] ?_))))
          refine WpCall.lent [0, 1, 2, 3] (same31oo k L t u p X Y hlen) (by decide) ⟨⟨_, by kernel_rfl, ⟨rfl, rfl⟩⟩, ⟨_, by kernel_rfl, CellsOk.eq rfl (tcs_flat _)⟩, ⟨_, by kernel_rfl, ⟨rfl, rfl⟩⟩, ⟨_, by kernel_rfl, CellsOk.eq rfl (ics_flat _)⟩, trivial⟩ rfl (.bool true) [mB k L t u (wO 1 p X), rowB (p ++ X), sB k L t u (wS 3 Y), sR Y] (.cons rfl (.cons (unB_flat (tcs_flat _)) (.cons rfl (.cons (unB_flat (ics_flat _)) .nil)))) rfl _ rfl ?_
          refine kp 111 (.bool false) (WpOps.nil (thenK_at (off' (Wp.skip (blockK_norm (thenK_at (Wp.text (kp 56 (.int .i64 i) (kp 57 (.int .i64 (IntKind.wrap .i64 ((↑i : Int) + 1))) (kp 11 (.int .i64 (IntKind.wrap .i64 ((↑i : Int) + 1))) (WpOps.nil (thenK_at ?_))))))))))))
          exact ⟨(i + 1, ⟨t, u, some (p, X), Y⟩), by dsimp only; omega, ⟨by dsimp only; omega, hv2⟩, by dsimp only; rw [memG_oo _ _ _ _ _ _ _ hY]; exact View.ofP [0, 1, 2, 3] _ _ (by decide) rfl ⟨⟨_, by kernel_rfl, ⟨rfl, rfl⟩⟩, ⟨_, by kernel_rfl, CellsOk.eq rfl (tcs_flat _)⟩, ⟨_, by kernel_rfl, ⟨rfl, rfl⟩⟩, ⟨_, by kernel_rfl, CellsOk.eq rfl (ics_flat _)⟩, trivial⟩ ⟨⟨by kernel_rfl, rfl⟩, ⟨by kernel_rfl, rfl⟩, ⟨by kernel_rfl, rfl⟩, ⟨by kernel_rfl, rfl⟩, ⟨congrArg (Value.int .i64) wi, rfl⟩, trivial⟩⟩
  · have d2 : decide ((i : Int) < (Z.length : Int)) = false := decide_eq_false (by omega)
    refine Wp.seq (Wp.seq (Wp.text (kp 48 (.int .i64 i) (kp 49 (.iface 56 (Value.iface (List.length Z) (Value.iface y (Value.agg (List.toArray (dcs Z)))))) (kp 50 (.int .i64 (List.length Z)) (kp 51 (.bool false) (kp 52 (.bool false) (um 53 (um 54 (kp 55 (.bool false) (WpOps.nil (thenK_at (off' (Wp.exit (thenK_exit (thenK_exit (blockK_hit (thenK_at (Wp.seq (Wp.text (fr 112 8 [] (WpFun.of (c9) (kp 6 (.bool true) (WpOps.nil (thenK_at (Wp.ret (endK_retn [Value.bool true] (Value.bool true) (by kernel_rfl) (by kernel_rfl) ?_))))))))))))))))))))) (hop := fun _ => by_fact d2)))))))
    rfl
theorem law6b (k : Int) (x : Nat) (L : List Ft) (y : Nat) (Z : List Dd) (hL : L.length ≤ 300) (hZ : Z.length ≤ 500) (hok : okNew k L = false) : Fun E 6 [.int .i64 k, FS 36 L.length x (fts L).toArray, FS 56 Z.length y (dcs Z).toArray] (.bool true) := by
  refine Fun.of h6 rfl (of_decide_eq_true (by kernel_rfl)) rfl ?_
  have d1 : decide ((L.length : Int) > 300) = false := decide_eq_false (by omega)
  have d2 : decide ((Z.length : Int) > 500) = false := decide_eq_false (by omega)
  have c1 := fates23 x L (by omega)
  have c2 := new10b k (xF L) L (by omega) hok
  have c3 := new24b k x L (by omega) hok
  have hf : (fts L).all flat = true := fts_flat L
  have c9 := sane8
  refine Wp.seq (Wp.text (kp 6 (.bool false) (WpOps.nil (thenK_at (Wp.seq (Wp.seq (Wp.text (kp 16 (.iface 36 (Value.iface (List.length L) (Value.iface x (Value.agg (List.toArray (fts L)))))) (kp 17 (.int .i64 (List.length L)) (kp 18 (.bool false) (kp 19 (.bool false) (kp 20 (.iface 56 (Value.iface (List.length Z) (Value.iface y (Value.agg (List.toArray (dcs Z)))))) (kp 21 (.int .i64 (List.length Z)) (kp 22 (.bool false) (kp 23 (.bool false) (WpOps.nil (thenK_at (off' (Wp.skip (thenK_at (Wp.seq (Wp.text (kp 26 (.int .i64 k) (kp 27 (.iface 36 (Value.iface (List.length L) (Value.iface x (Value.agg (List.toArray (fts L)))))) (cl 28 23 [Value.iface 36 (Value.iface (List.length L) (Value.iface x (Value.agg (List.toArray (fts L)))))] ?_))))))))))) (hop := fun _ => by_fact d2))))) (hop := fun _ => by_fact d1)))))))))))
  refine WpCall.lent [] (c1) (by decide) trivial (by kernel_rfl) (Value.iface 46 (Value.iface (List.length L) (Value.iface (xF L) (Value.agg (List.toArray (fts L)))))) ([]) .nil (by kernel_rfl) (Heap.none) (by kernel_rfl) ?_
  refine cl 29 10 [Value.int .i64 k, Value.iface 46 (Value.iface (List.length L) (Value.iface (xF L) (Value.agg (List.toArray (fts L)))))] ?_
  refine WpCall.lent [] (c2) (by decide) trivial (by kernel_rfl) (Value.tuple #[Value.pointer none, Value.int .i64 1]) ([]) .nil (by kernel_rfl) (Heap.none) (by kernel_rfl) ?_
  refine kp 25 (.tuple #[Value.pointer none, Value.int .i64 1]) (kp 30 (.pointer none) (kp 31 (.int .i64 1) (kp 7 (.pointer none) (kp 8 (.int .i64 1) (WpOps.nil (thenK_at (Wp.seq (Wp.text (kp 33 (.int .i64 k) (kp 34 (.iface 36 (Value.iface (List.length L) (Value.iface x (Value.agg (List.toArray (fts L)))))) (cl 35 24 [Value.int .i64 k, Value.iface 36 (Value.iface (List.length L) (Value.iface x (Value.agg (List.toArray (fts L)))))] ?_)))))))))))
  refine WpCall.lent [] (c3) (by decide) trivial (by kernel_rfl) (Value.tuple #[Value.pointer none, Value.int .i64 1]) ([]) .nil (by kernel_rfl) (Heap.none) (by kernel_rfl) ?_
  refine kp 32 (.tuple #[Value.pointer none, Value.int .i64 1]) (kp 36 (.pointer none) (kp 37 (.int .i64 1) (kp 9 (.pointer none) (kp 10 (.int .i64 1) (WpOps.nil (thenK_at (Wp.seq (Wp.seq (Wp.text (kp 38 (.int .i64 1) (kp 39 (.int .i64 1) (kp 40 (.bool false) (kp 41 (.bool false) (kp 42 (.pointer none) (kp 43 (.bool true) (kp 44 (.pointer none) (kp 45 (.bool true) (kp 46 (.bool false) (kp 47 (.bool false) (WpOps.nil (thenK_at (off' (Wp.skip (thenK_at (Wp.seq (Wp.seq (Wp.text (kp 11 (.int .i64 0) (WpOps.nil (thenK_at (Wp.block ?_)))))))))))))))))))))))))))))))
  clear c1 c2 c3 d1 d2
  refine Wp.unroll (WpL.step ?_)
  by_cases hc : Z.length = 0
  · have d2 : decide ((0 : Int) < (Z.length : Int)) = false := decide_eq_false (by omega)
    refine Wp.seq (Wp.seq (Wp.text (kp 48 (.int .i64 0) (kp 49 (.iface 56 (Value.iface (List.length Z) (Value.iface y (Value.agg (List.toArray (dcs Z)))))) (kp 50 (.int .i64 (List.length Z)) (kp 51 (.bool false) (kp 52 (.bool false) (um 53 (um 54 (kp 55 (.bool false) (WpOps.nil (thenK_at (off' (Wp.exit (thenK_exit (thenK_exit (blockK_hit (thenK_at (Wp.seq (Wp.text (fr 112 8 [] (WpFun.of (c9) (kp 6 (.bool true) (WpOps.nil (thenK_at (Wp.ret (endK_retn [Value.bool true] (Value.bool true) (by kernel_rfl) (by kernel_rfl) ?_))))))))))))))))))))) (hop := fun _ => by_fact d2)))))))
    rfl
  · have d2 : decide ((0 : Int) < (Z.length : Int)) = true := decide_eq_true (by omega)
    refine Wp.seq (Wp.seq (Wp.text (kp 48 (.int .i64 0) (kp 49 (.iface 56 (Value.iface (List.length Z) (Value.iface y (Value.agg (List.toArray (dcs Z)))))) (kp 50 (.int .i64 (List.length Z)) (kp 51 (.bool true) (kp 52 (.bool true) (kp 53 (.pointer none) (kp 54 (.bool false) (kp 55 (.bool false) (WpOps.nil (thenK_at (off' (Wp.exit (thenK_exit (thenK_exit (blockK_hit (thenK_at (Wp.seq (Wp.text (fr 112 8 [] (WpFun.of (c9) (kp 6 (.bool true) (WpOps.nil (thenK_at (Wp.ret (endK_retn [Value.bool true] (Value.bool true) (by kernel_rfl) (by kernel_rfl) ?_))))))))))))))))))))) (hop := fun _ => by_fact d2)))))))
    rfl
theorem law6 (k : Int) (x : Nat) (L : List Ft) (y : Nat) (Z : List Dd) (hL : L.length ≤ 17592186044416) (hZ : Z.length ≤ 17592186044416) : Fun E 6 [.int .i64 k, FS 36 L.length x (fts L).toArray, FS 56 Z.length y (dcs Z).toArray] (.bool true) := by
  by_cases h1 : L.length ≤ 300
  · by_cases h2 : Z.length ≤ 500
    · cases hok : okNew k L
      · exact law6b k x L y Z h1 h2 hok
      · exact law6a k x L y Z h1 h2 hok
    · refine Fun.of h6 rfl (of_decide_eq_true (by kernel_rfl)) rfl ?_
      have c0 := sane8
      have d0 : decide ((L.length : Int) > 300) = false := decide_eq_false (by omega)
      have d1 : decide ((Z.length : Int) > 500) = true := decide_eq_true (by omega)
      refine Wp.seq (Wp.text (kp 6 (.bool false) (WpOps.nil (thenK_at (Wp.seq (Wp.seq (Wp.text (kp 16 (.iface 36 (Value.iface (List.length L) (Value.iface x (Value.agg (List.toArray (fts L)))))) (kp 17 (.int .i64 (List.length L)) (kp 18 (.bool false) (kp 19 (.bool false) (kp 20 (.iface 56 (Value.iface (List.length Z) (Value.iface y (Value.agg (List.toArray (dcs Z)))))) (kp 21 (.int .i64 (List.length Z)) (kp 22 (.bool true) (kp 23 (.bool true) (WpOps.nil (thenK_at (on' (Wp.seq (Wp.text (fr 24 8 [] (WpFun.of (c0) (kp 6 (.bool true) (WpOps.nil (thenK_at (Wp.ret (thenK_ret (endK_retn [Value.bool true] (Value.bool true) (by kernel_rfl) (by kernel_rfl) ?_)))))))))))))) (hop := fun _ => by_fact d1))))) (hop := fun _ => by_fact d0)))))))))))
      rfl
  · refine Fun.of h6 rfl (of_decide_eq_true (by kernel_rfl)) rfl ?_
    have c0 := sane8
    have d0 : decide ((L.length : Int) > 300) = true := decide_eq_true (by omega)
    refine Wp.seq (Wp.text (kp 6 (.bool false) (WpOps.nil (thenK_at (Wp.seq (Wp.seq (Wp.text (kp 16 (.iface 36 (Value.iface (List.length L) (Value.iface x (Value.agg (List.toArray (fts L)))))) (kp 17 (.int .i64 (List.length L)) (kp 18 (.bool true) (kp 19 (.bool true) (um 20 (um 21 (um 22 (kp 23 (.bool true) (WpOps.nil (thenK_at (on' (Wp.seq (Wp.text (fr 24 8 [] (WpFun.of (c0) (kp 6 (.bool true) (WpOps.nil (thenK_at (Wp.ret (thenK_ret (endK_retn [Value.bool true] (Value.bool true) (by kernel_rfl) (by kernel_rfl) ?_)))))))))))))))))) (hop := fun _ => by_fact d0)))))))))))
    rfl
end Go.Proofs.Ytdkmdpklojeepaa.D
