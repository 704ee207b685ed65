/- The law's helpers: To, same, the example of the chapter. -/
import Derived.Test.YtfjkanjmggbofaaFwLem
import Derived.Test.YtfjkanjmggbofaaFwCons
import Derived.Test.YtfjkanjmggbofaaV12n
import Derived.Test.YtfjkanjmggbofaaV12x
namespace Go.Proofs.Ytfjkanjmggbofaa.D
open Go.Fw Go.RowKit

theorem lcs_flat : ∀ ls, (lcs ls).all flat = true
  | [] => rfl
  | a :: l => by
    have ih := lcs_flat l
    unfold lcs at ih ⊢
    rw [List.flatMap_cons, List.all_append, ih]
    rfl
theorem agg2_ice {hp : Heap} {v u : Value} {k : IntKind} {n : Int} (h : iceC E hp 4 v = some u) : iceV E hp (.agg #[.int k n, v]) = some (.agg #[.int k n, u]) := by
  have h2 : mapO (iceC E hp 4) [.int k n, v] = some [.int k n, u] := by
    simp only [mapO, h]
    rfl
  show (mapO (iceC E hp 4) [.int k n, v]).map _ = _
  rw [h2]
  rfl
theorem f14 : E.funcs 14 = some Try.f14 := by kernel_rfl
theorem to14 (N : Int) (x : Nat) (ls : List Lk) (hz : ls.length * 24 ≤ 140737488351232) : Fun E 14 [netV N x ls] (netV N 0 ls) := by
  refine Fun.of f14 rfl (of_decide_eq_true (by kernel_rfl)) rfl ?_
  unfold netV
  rcases Nat.eq_zero_or_pos ls.length with h0 | h0
  · obtain rfl := List.eq_nil_of_length_eq_zero h0
    rw [show lks x [] = FS 48 0 x #[] from rfl]
    refine Wp.seq (Wp.text ?_)
    refine md 1 (.pointer (some ⟨0, 0, none⟩)) (Blk.mk 24 true [Value.int .i64 N, Value.iface 48 (Value.iface 0 (Value.iface x (Value.agg #[])))]) ?_
    refine md 2 (.pointer (some ⟨1, 0, none⟩)) (Blk.mk 34 true [Value.int .i64 0, Value.slice none 0 0]) ?_
    refine WpOps.nil (thenK_at (Wp.seq ?_))
    refine Wp.regionT (by kernel_rfl) (by kernel_rfl) ?_
    refine kp 3 (.pointer (some ⟨0, 0, none⟩)) ?_
    refine kp 4 (.int IntKind.i64 N) ?_
    refine md 5 (.slice (some ⟨2, 0, none⟩) 0 0) (Blk.mk 48 true []) ?_
    refine kp 6 (.pointer (some ⟨0, 1, none⟩)) ?_
    refine kp 7 (.iface 48 (Value.iface 0 (Value.iface x (Value.agg #[])))) ?_
    refine kp 8 (.slice (some ⟨2, 0, none⟩) 0 0) ?_
    refine kp 9 (.agg #[Value.int .i64 N, Value.slice (some ⟨2, 0, none⟩) 0 0]) ?_
    refine ld (.tuple #[]) (1) (Blk.mk 34 true [Value.int .i64 N, Value.slice (some ⟨2, 0, none⟩) 0 0]) ?_
    refine WpOps.nil ?_
    refine ⟨by kernel_rfl, ?_⟩
    refine thenK_at (Wp.ret ?_)
    refine endK_retn [Value.agg #[Value.int IntKind.i64 N, Value.slice (some (Addr.mk 2 0 none)) 0 0]] (Value.agg #[Value.int IntKind.i64 N, Value.slice (some (Addr.mk 2 0 none)) 0 0]) (by kernel_rfl) (by kernel_rfl) ?_
    kernel_rfl
  · have h1 : ¬ (0 + ls.length ≤ 0) := by omega
    have h2 : 1 ≤ 24 ∧ (0 + ls.length) * 24 ≤ 140737488355328 ∧ 3 = 3 ∧ 0 + ls.length ≤ 9223372036854775807 := by omega
    unfold lks
    refine Wp.seq (Wp.text ?_)
    refine md 1 (.pointer (some ⟨0, 0, none⟩)) (Blk.mk 24 true [Value.int .i64 N, Value.iface 48 (Value.iface (List.length ls) (Value.iface x (Value.agg (List.toArray (lcs ls)))))]) ?_
    refine md 2 (.pointer (some ⟨1, 0, none⟩)) (Blk.mk 34 true [Value.int .i64 0, Value.slice none 0 0]) ?_
    refine WpOps.nil (thenK_at (Wp.seq ?_))
    refine Wp.regionT (by kernel_rfl) (by kernel_rfl) ?_
    refine kp 3 (.pointer (some ⟨0, 0, none⟩)) ?_
    refine kp 4 (.int IntKind.i64 N) ?_
    refine md 5 (.slice (some ⟨2, 0, none⟩) 0 0) (Blk.mk 48 true []) ?_
    refine kp 6 (.pointer (some ⟨0, 1, none⟩)) ?_
    refine kp 7 (.iface 48 (Value.iface (List.length ls) (Value.iface x (Value.agg (List.toArray (lcs ls)))))) ?_
    refine ra 8 (.slice (some ⟨3, 0, none⟩) (0 + List.length ls) (0 + List.length ls)) (2) (Blk.mk 48 true ([] ++ Array.toList (List.toArray (lcs ls)))) ?_ (hop := fun _ => o_append (e := 48) (2) (0) (0) _ (0) h1 h2)
    refine kp 9 (.agg #[Value.int .i64 N, Value.slice (some ⟨3, 0, none⟩) (0 + List.length ls) (0 + List.length ls)]) ?_
    refine ld (.tuple #[]) (1) (Blk.mk 34 true [Value.int .i64 N, Value.slice (some ⟨3, 0, none⟩) (0 + List.length ls) (0 + List.length ls)]) ?_
    refine WpOps.nil ?_
    refine ⟨by kernel_rfl, ?_⟩
    refine thenK_at (Wp.ret ?_)
    refine endK_retn [Value.agg #[Value.int IntKind.i64 N, Value.slice (some (Addr.mk 3 0 none)) (0 + List.length ls) (0 + List.length ls)]] (Value.agg #[Value.int IntKind.i64 N, Value.slice (some (Addr.mk 3 0 none)) (0 + List.length ls) (0 + List.length ls)]) (by kernel_rfl) (by kernel_rfl) ?_
    rw [Nat.zero_add]
    exact agg2_ice (iceC_row (size := 3) 3 (by kernel_rfl) (by kernel_rfl) (lcs_len ls).symm (lcs_flat ls))
theorem f16 : E.funcs 16 = some Try.f16 := by kernel_rfl
theorem tabT_M (N : Nat) (f : Nat → Nat → Rt) (hN : 1 ≤ N) : tabT (matT N f) = tabM 92 93 N f := by
  unfold tabT tabM tabF
  have h0 : ¬ (matT N f).length = 0 := by simp [matT]; omega
  rw [if_neg h0]
  congr 2
  unfold ocs matT
  rw [List.map_map, List.map_map]
  refine List.map_congr_left fun i _ => ?_
  show rowT 93 ((List.range N).map (f i)) = rowF 93 0 ((List.range N).map (f i))
  unfold rowT
  rw [if_neg (by simp; omega)]
theorem same16 (N : Nat) (f g : Nat → Nat → Rt) (hN : 1 ≤ N ∧ N ≤ 20) : Fun E 16 [tabM 45 47 N f, tabM 92 93 N g] (.bool (eqT N f g)) := by
  have c1 := tables15 0 (matT N f) (by simp [matT]; omega) (fun p hp => by
    obtain ⟨i, _, rfl⟩ := List.mem_map.1 hp
    simp
    omega)
  rw [tabT_M N f hN.1] at c1
  have c1' : Fun E 15 [tabM 45 47 N f] (tabM 92 93 N f) := c1
  have c2 := same20 N f g hN
  refine Fun.of f16 rfl (of_decide_eq_true (by kernel_rfl)) rfl ?_
  clear c1
  rw [tabM_eq, tabM_eq] at *
  unfold matF at *
  refine Wp.seq (Wp.text ?_)
  refine kp 4 (.bool false) ?_
  refine WpOps.nil (thenK_at (Wp.seq (Wp.text ?_)))
  refine kp 5 (.iface 45 (Value.iface N (Value.iface 0 (Value.agg (List.toArray (List.map (fun r => FS 47 N 0 (List.toArray r)) (rowsM N f))))))) ?_
  refine cl 6 15 [Value.iface 45 (Value.iface N (Value.iface 0 (Value.agg (List.toArray (List.map (fun r => FS 47 N 0 (List.toArray r)) (rowsM N f))))))] ?_
  refine WpCall.consume [] (c1') (by kernel_rfl) (by kernel_rfl) ?_
  refine kp 7 (.iface 92 (Value.iface N (Value.iface 0 (Value.agg (List.toArray (List.map (fun r => FS 93 N 0 (List.toArray r)) (rowsM N g))))))) ?_
  refine fr 8 20 [Value.iface 92 (Value.iface N (Value.iface 0 (Value.agg (List.toArray (List.map (fun r => FS 93 N 0 (List.toArray r)) (rowsM N f)))))), Value.iface 92 (Value.iface N (Value.iface 0 (Value.agg (List.toArray (List.map (fun r => FS 93 N 0 (List.toArray r)) (rowsM N g))))))] ?_
  refine WpFun.of (c2) ?_
  refine kp 4 (.bool (eqT N f g)) ?_
  refine WpOps.nil (thenK_at (Wp.ret ?_))
  refine endK_retn [Value.bool (eqT N f g)] (Value.bool (eqT N f g)) (by kernel_rfl) (by kernel_rfl) ?_
  rfl
theorem same16n : Fun E 16 [FS 45 0 2 #[], FS 92 0 2 #[]] (.bool true) := by
  have c1 : Fun E 15 [FS 45 0 2 #[]] (FS 92 0 2 #[]) := tables15 2 [] (by decide) (fun p hp => by cases hp)
  have c2 := same20n
  refine Fun.of f16 rfl (of_decide_eq_true (by kernel_rfl)) rfl ?_
  refine Wp.seq (Wp.text ?_)
  refine kp 4 (.bool false) ?_
  refine WpOps.nil (thenK_at (Wp.seq (Wp.text ?_)))
  refine kp 5 (.iface 45 (Value.iface 0 (Value.iface 2 (Value.agg #[])))) ?_
  refine cl 6 15 [Value.iface 45 (Value.iface 0 (Value.iface 2 (Value.agg #[])))] ?_
  refine WpCall.consume [] (c1) (by kernel_rfl) (by kernel_rfl) ?_
  refine kp 7 (.iface 92 (Value.iface 0 (Value.iface 2 (Value.agg #[])))) ?_
  refine fr 8 20 [Value.iface 92 (Value.iface 0 (Value.iface 2 (Value.agg #[]))), Value.iface 92 (Value.iface 0 (Value.iface 2 (Value.agg #[])))] ?_
  refine WpFun.of (c2) ?_
  refine kp 4 (.bool true) ?_
  refine WpOps.nil (thenK_at (Wp.ret ?_))
  refine endK_retn [Value.bool true] (Value.bool true) (by kernel_rfl) (by kernel_rfl) ?_
  rfl
def rowL : List Lk := [(0, 1, 1), (1, 2, 1)]
theorem row48 : Fun E 48 [] (netV 3 0 rowL) := Fun.closed 50 (netV 3 0 rowL) (by kernel_rfl)
theorem rowGood : Good 3 rowL := by
  obtain ⟨n, h, g⟩ := good_of (N := 3) (ls := rowL) (by decide +kernel)
  obtain rfl : n = 3 := by omega
  exact g
theorem rowStop : stop 3 (cAt rowL) false firstF 10 = 2 := by decide +kernel
theorem f17 : E.funcs 17 = some Try.f17 := by kernel_rfl
theorem first_range (n : Nat) : ∀ i j, i < n → j < n → 0 ≤ (firstF i j).1 ∧ (firstF i j).1 ≤ 16 := fun i j _ _ => by
  unfold firstF
  split <;> simp
set_option maxHeartbeats 4000000 in
theorem sane17 : Fun E 17 [] (.bool true) := by
  have c0 := row48
  have v0 : Fun E 25 [netV 3 0 rowL] (.bool true) := valid25 3 0 rowL (by decide)
  have c1 := start21 3 0 rowL (by decide) v0
  have t0 : Fun E 40 [netV 3 0 rowL, tabM 45 47 3 firstF] (.bool true) := by
    have := tables40 3 0 rowL 0 (matT 3 firstF) v0 (by decide) (by decide)
    have e : tabOk 3 rowL (matT 3 firstF) = true := by decide +kernel
    rw [e] at this
    exact this
  have c2 := settle12_ok 3 0 rowL firstF false 10 (by decide) (by decide) t0 (fun k => roundF42 3 0 rowL _ false (by decide) rowGood.hl (by decide) (it_range (cAt_range rowGood.hl) (first_range 3) k))
  rw [rowStop] at c2
  refine Fun.of f17 rfl (of_decide_eq_true (by kernel_rfl)) rfl ?_
  rw [tabM_eq, tabM_eq] at *
  unfold matF netV lks at *
  refine Wp.seq (Wp.text ?_)
  refine kp 0 (.bool false) ?_
  refine WpOps.nil (thenK_at (Wp.seq (Wp.text ?_)))
  refine fr 7 48 [] ?_
  refine WpFun.of (c0) ?_
  refine fr 8 21 [Value.agg #[Value.int .i64 3, FS 48 (List.length rowL) 0 (List.toArray (lcs rowL))]] ?_
  refine WpFun.of (c1) ?_
  refine kp 6 (.tuple #[Value.iface 45 (Value.iface 3 (Value.iface 0 (Value.agg (List.toArray (List.map (fun r => FS 47 3 0 (List.toArray r)) (rowsM 3 firstF)))))), Value.int .i64 0]) ?_
  refine kp 9 (.iface 45 (Value.iface 3 (Value.iface 0 (Value.agg #[Value.iface 47 (Value.iface 3 (Value.iface 0 (Value.agg (List.toArray ((fun i => rcs (List.map (firstF i) (List.range 3))) 0))))), Value.iface 47 (Value.iface 3 (Value.iface 0 (Value.agg (List.toArray ((fun i => rcs (List.map (firstF i) (List.range 3))) 1))))), Value.iface 47 (Value.iface 3 (Value.iface 0 (Value.agg (List.toArray ((fun i => rcs (List.map (firstF i) (List.range 3))) 2)))))])))) ?_
  refine kp 10 (.int IntKind.i64 0) ?_
  refine kp 1 (.iface 45 (Value.iface 3 (Value.iface 0 (Value.agg #[Value.iface 47 (Value.iface 3 (Value.iface 0 (Value.agg (List.toArray ((fun i => rcs (List.map (firstF i) (List.range 3))) 0))))), Value.iface 47 (Value.iface 3 (Value.iface 0 (Value.agg (List.toArray ((fun i => rcs (List.map (firstF i) (List.range 3))) 1))))), Value.iface 47 (Value.iface 3 (Value.iface 0 (Value.agg (List.toArray ((fun i => rcs (List.map (firstF i) (List.range 3))) 2)))))])))) ?_
  refine kp 2 (.int IntKind.i64 0) ?_
  refine WpOps.nil (thenK_at (Wp.seq (Wp.text ?_)))
  refine fr 12 48 [] ?_
  refine WpFun.of (c0) ?_
  refine kp 13 (.iface 45 (Value.iface 3 (Value.iface 0 (Value.agg #[Value.iface 47 (Value.iface 3 (Value.iface 0 (Value.agg (List.toArray ((fun i => rcs (List.map (firstF i) (List.range 3))) 0))))), Value.iface 47 (Value.iface 3 (Value.iface 0 (Value.agg (List.toArray ((fun i => rcs (List.map (firstF i) (List.range 3))) 1))))), Value.iface 47 (Value.iface 3 (Value.iface 0 (Value.agg (List.toArray ((fun i => rcs (List.map (firstF i) (List.range 3))) 2)))))])))) ?_
  refine fr 14 12 [Value.agg #[Value.int .i64 3, FS 48 (List.length rowL) 0 (List.toArray (lcs rowL))], Value.iface 45 (Value.iface 3 (Value.iface 0 (Value.agg #[Value.iface 47 (Value.iface 3 (Value.iface 0 (Value.agg (List.toArray ((fun i => rcs (List.map (firstF i) (List.range 3))) 0))))), Value.iface 47 (Value.iface 3 (Value.iface 0 (Value.agg (List.toArray ((fun i => rcs (List.map (firstF i) (List.range 3))) 1))))), Value.iface 47 (Value.iface 3 (Value.iface 0 (Value.agg (List.toArray ((fun i => rcs (List.map (firstF i) (List.range 3))) 2)))))]))), Value.bool false, Value.int .i64 10] ?_
  refine WpFun.of (c2) ?_
  refine kp 11 (.tuple #[Value.iface 45 (Value.iface 3 (Value.iface 0 (Value.agg (List.toArray (List.map (fun r => FS 47 3 0 (List.toArray r)) (rowsM 3 (it 3 (cAt rowL) false firstF 2))))))), Value.int .i64 (↑2 : Int), Value.int .i64 0]) ?_
  refine kp 15 (.iface 45 (Value.iface 3 (Value.iface 0 (Value.agg #[Value.iface 47 (Value.iface 3 (Value.iface 0 (Value.agg (List.toArray ((fun i => rcs (List.map (it 3 (cAt rowL) false firstF 2 i) (List.range 3))) 0))))), Value.iface 47 (Value.iface 3 (Value.iface 0 (Value.agg (List.toArray ((fun i => rcs (List.map (it 3 (cAt rowL) false firstF 2 i) (List.range 3))) 1))))), Value.iface 47 (Value.iface 3 (Value.iface 0 (Value.agg (List.toArray ((fun i => rcs (List.map (it 3 (cAt rowL) false firstF 2 i) (List.range 3))) 2)))))])))) ?_
  refine kp 16 (.int IntKind.i64 (↑2 : Int)) ?_
  refine kp 17 (.int IntKind.i64 0) ?_
  refine kp 3 (.iface 45 (Value.iface 3 (Value.iface 0 (Value.agg #[Value.iface 47 (Value.iface 3 (Value.iface 0 (Value.agg (List.toArray ((fun i => rcs (List.map (it 3 (cAt rowL) false firstF 2 i) (List.range 3))) 0))))), Value.iface 47 (Value.iface 3 (Value.iface 0 (Value.agg (List.toArray ((fun i => rcs (List.map (it 3 (cAt rowL) false firstF 2 i) (List.range 3))) 1))))), Value.iface 47 (Value.iface 3 (Value.iface 0 (Value.agg (List.toArray ((fun i => rcs (List.map (it 3 (cAt rowL) false firstF 2 i) (List.range 3))) 2)))))])))) ?_
  refine kp 4 (.int IntKind.i64 (↑2 : Int)) ?_
  refine kp 5 (.int IntKind.i64 0) ?_
  refine WpOps.nil (thenK_at (Wp.seq (Wp.text ?_)))
  refine kp 18 (.int IntKind.i64 0) ?_
  refine kp 19 (.bool true) ?_
  refine kp 20 (.bool true) ?_
  refine kp 21 (.int IntKind.i64 0) ?_
  refine kp 22 (.bool true) ?_
  refine kp 23 (.bool true) ?_
  refine kp 24 (.bool true) ?_
  refine kp 25 (.int IntKind.i64 (↑2 : Int)) ?_
  refine kp 26 (.bool true) ?_
  refine kp 27 (.bool true) ?_
  refine kp 28 (.bool true) ?_
  refine kp 29 (.iface 45 (Value.iface 3 (Value.iface 0 (Value.agg #[Value.iface 47 (Value.iface 3 (Value.iface 0 (Value.agg (List.toArray ((fun i => rcs (List.map (it 3 (cAt rowL) false firstF 2 i) (List.range 3))) 0))))), Value.iface 47 (Value.iface 3 (Value.iface 0 (Value.agg (List.toArray ((fun i => rcs (List.map (it 3 (cAt rowL) false firstF 2 i) (List.range 3))) 1))))), Value.iface 47 (Value.iface 3 (Value.iface 0 (Value.agg (List.toArray ((fun i => rcs (List.map (it 3 (cAt rowL) false firstF 2 i) (List.range 3))) 2)))))])))) ?_
  refine kp 30 (.int IntKind.i64 (↑3 : Int)) ?_
  refine kp 31 (.bool true) ?_
  refine kp 32 (.bool true) ?_
  refine kp 33 (.bool true) ?_
  refine kp 34 (.iface 45 (Value.iface 3 (Value.iface 0 (Value.agg #[Value.iface 47 (Value.iface 3 (Value.iface 0 (Value.agg (List.toArray ((fun i => rcs (List.map (it 3 (cAt rowL) false firstF 2 i) (List.range 3))) 0))))), Value.iface 47 (Value.iface 3 (Value.iface 0 (Value.agg (List.toArray ((fun i => rcs (List.map (it 3 (cAt rowL) false firstF 2 i) (List.range 3))) 1))))), Value.iface 47 (Value.iface 3 (Value.iface 0 (Value.agg (List.toArray ((fun i => rcs (List.map (it 3 (cAt rowL) false firstF 2 i) (List.range 3))) 2)))))])))) ?_
  refine kp 35 (.iface 45 (Value.iface 0 (Value.agg #[Value.iface 47 (Value.iface 3 (Value.iface 0 (Value.agg (List.toArray ((fun i => rcs (List.map (it 3 (cAt rowL) false firstF 2 i) (List.range 3))) 0))))), Value.iface 47 (Value.iface 3 (Value.iface 0 (Value.agg (List.toArray ((fun i => rcs (List.map (it 3 (cAt rowL) false firstF 2 i) (List.range 3))) 1))))), Value.iface 47 (Value.iface 3 (Value.iface 0 (Value.agg (List.toArray ((fun i => rcs (List.map (it 3 (cAt rowL) false firstF 2 i) (List.range 3))) 2)))))]))) ?_
  refine kp 36 (.iface 47 (Value.iface 3 (Value.iface 0 (Value.agg #[Value.int .i64 (Prod.fst (it 3 (cAt rowL) false firstF 2 0 0)), Value.int .i64 (Prod.snd (it 3 (cAt rowL) false firstF 2 0 0)), Value.int .i64 (Prod.fst (it 3 (cAt rowL) false firstF 2 0 1)), Value.int .i64 (Prod.snd (it 3 (cAt rowL) false firstF 2 0 1)), Value.int .i64 (Prod.fst (it 3 (cAt rowL) false firstF 2 0 2)), Value.int .i64 (Prod.snd (it 3 (cAt rowL) false firstF 2 0 2))])))) ?_
  refine kp 37 (.int IntKind.i64 (↑3 : Int)) ?_
  refine kp 38 (.bool true) ?_
  refine kp 39 (.bool true) ?_
  refine kp 40 (.bool true) ?_
  refine kp 41 (.iface 45 (Value.iface 3 (Value.iface 0 (Value.agg #[Value.iface 47 (Value.iface 3 (Value.iface 0 (Value.agg (List.toArray ((fun i => rcs (List.map (it 3 (cAt rowL) false firstF 2 i) (List.range 3))) 0))))), Value.iface 47 (Value.iface 3 (Value.iface 0 (Value.agg (List.toArray ((fun i => rcs (List.map (it 3 (cAt rowL) false firstF 2 i) (List.range 3))) 1))))), Value.iface 47 (Value.iface 3 (Value.iface 0 (Value.agg (List.toArray ((fun i => rcs (List.map (it 3 (cAt rowL) false firstF 2 i) (List.range 3))) 2)))))])))) ?_
  refine kp 42 (.iface 45 (Value.iface 0 (Value.agg #[Value.iface 47 (Value.iface 3 (Value.iface 0 (Value.agg (List.toArray ((fun i => rcs (List.map (it 3 (cAt rowL) false firstF 2 i) (List.range 3))) 0))))), Value.iface 47 (Value.iface 3 (Value.iface 0 (Value.agg (List.toArray ((fun i => rcs (List.map (it 3 (cAt rowL) false firstF 2 i) (List.range 3))) 1))))), Value.iface 47 (Value.iface 3 (Value.iface 0 (Value.agg (List.toArray ((fun i => rcs (List.map (it 3 (cAt rowL) false firstF 2 i) (List.range 3))) 2)))))]))) ?_
  refine kp 43 (.iface 47 (Value.iface 3 (Value.iface 0 (Value.agg #[Value.int .i64 (Prod.fst (it 3 (cAt rowL) false firstF 2 0 0)), Value.int .i64 (Prod.snd (it 3 (cAt rowL) false firstF 2 0 0)), Value.int .i64 (Prod.fst (it 3 (cAt rowL) false firstF 2 0 1)), Value.int .i64 (Prod.snd (it 3 (cAt rowL) false firstF 2 0 1)), Value.int .i64 (Prod.fst (it 3 (cAt rowL) false firstF 2 0 2)), Value.int .i64 (Prod.snd (it 3 (cAt rowL) false firstF 2 0 2))])))) ?_
  refine kp 44 (.iface 47 (Value.iface 4 (Value.agg #[Value.int .i64 (Prod.fst (it 3 (cAt rowL) false firstF 2 0 0)), Value.int .i64 (Prod.snd (it 3 (cAt rowL) false firstF 2 0 0)), Value.int .i64 (Prod.fst (it 3 (cAt rowL) false firstF 2 0 1)), Value.int .i64 (Prod.snd (it 3 (cAt rowL) false firstF 2 0 1)), Value.int .i64 (Prod.fst (it 3 (cAt rowL) false firstF 2 0 2)), Value.int .i64 (Prod.snd (it 3 (cAt rowL) false firstF 2 0 2))]))) ?_
  refine kp 45 (.agg #[Value.int .i64 (Prod.fst (it 3 (cAt rowL) false firstF 2 0 2)), Value.int .i64 (Prod.snd (it 3 (cAt rowL) false firstF 2 0 2))]) ?_
  refine kp 46 (.agg #[Value.int .i64 2, Value.int .i64 1]) ?_
  refine kp 47 (.bool true) ?_
  refine kp 48 (.bool true) ?_
  refine kp 0 (.bool true) ?_
  refine WpOps.nil (thenK_at (Wp.ret ?_))
  refine endK_retn [Value.bool true] (Value.bool true) (by kernel_rfl) (by kernel_rfl) ?_
  rfl
end Go.Proofs.Ytfjkanjmggbofaa.D
