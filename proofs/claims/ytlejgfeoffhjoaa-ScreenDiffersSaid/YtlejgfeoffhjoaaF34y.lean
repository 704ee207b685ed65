/- screen.Differ. -/
import Derived.Test.YtlejgfeoffhjoaaFwLem
import Derived.Test.YtlejgfeoffhjoaaF34i
import Derived.Test.YtlejgfeoffhjoaaF34x
import Derived.Test.YtlejgfeoffhjoaaFwMore
namespace Go.Proofs.Ytlejgfeoffhjoaa.D
open Go.Fw Go.RowKit

/-- An update. -/
structure Up where
  op : Int
  row : Int
  col : Int
  n : Int
  t : ByteArray
def ucells (u : Up) : List Value := [.int .i64 u.op, .int .i64 u.row, .int .i64 u.col, .int .i64 u.n, .string u.t]
def ucl (l : List Up) : List Value := l.flatMap ucells
theorem ucl_len (l : List Up) : (ucl l).length = l.length * 5 := by
  induction l with
  | nil => rfl
  | cons a r ih =>
    unfold ucl at ih ⊢
    rw [List.flatMap_cons, List.length_append, ih, List.length_cons, Nat.succ_mul]
    show 5 + _ = _
    omega
theorem ucl_flat (l : List Up) : (ucl l).all flat = true := by
  rw [List.all_eq_true]
  intro v hv
  obtain ⟨u, _, h⟩ := List.mem_flatMap.1 hv
  unfold ucells at h
  simp only [List.mem_cons, List.not_mem_nil, or_false] at h
  rcases h with rfl | rfl | rfl | rfl | rfl <;> rfl
theorem ucl_app (l m : List Up) : ucl (l ++ m) = ucl l ++ ucl m := List.flatMap_append
theorem ucl_at (l : List Up) : cellsAt (ucl l) 0 (l.length * 5) = some (ucl l) := by
  unfold cellsAt
  rw [ucl_len, if_pos (by omega), List.drop_zero, List.take_of_length_le (by rw [ucl_len]; omega)]
theorem ucl_get : ∀ (l : List Up) (k : Nat) (u : Up), l[k]? = some u → cellsAt (ucl l) (k * 5) 5 = some (ucells u)
  | [], k, u, h => by simp at h
  | a :: l, 0, u, h => by
    obtain rfl : a = u := by simpa using h
    unfold cellsAt
    rw [ucl_len, if_pos (by rw [List.length_cons]; omega)]
    rfl
  | a :: l, k + 1, u, h => by
    have ih := ucl_get l k u (by simpa using h)
    unfold cellsAt at ih ⊢
    rw [ucl_len] at ih ⊢
    have e : ucl (a :: l) = ucells a ++ ucl l := rfl
    split at ih
    · rw [if_pos (by rw [List.length_cons]; omega), e, show (k + 1) * 5 = (ucells a).length + k * 5 by show _ = 5 + _; omega, List.drop_append, List.drop_of_length_le (by omega), List.nil_append]
      rw [show (ucells a).length + k * 5 - (ucells a).length = k * 5 by omega]
      exact ih
    · cases ih
def mvU (r c : Nat) : Up := ⟨0, r, c, 0, ⟨#[]⟩⟩
def txU (k : Nat) (b : UInt8) : Up := ⟨1, 0, 0, k, one b⟩
section
variable (f g f' g' : Nat → Nat → UInt8)
/-- Is a cell another one? -/
def dfB (r c : Nat) : Bool := (f r c != f' r c) || (g r c != g' r c)
def cellU (r c : Nat) : List Up := if dfB f g f' g' r c = true then [mvU r c, txU ((g' r c).toNat - 48) (f' r c)] else []
def rowU (r : Nat) : Nat → List Up
  | 0 => []
  | q + 1 => rowU r q ++ cellU f g f' g' r q
def allU (C : Nat) : Nat → List Up
  | 0 => []
  | k + 1 => allU C k ++ rowU f g f' g' k C
theorem cellU_len (r c : Nat) : (cellU f g f' g' r c).length ≤ 2 := by
  unfold cellU
  split
  · exact Nat.le_refl _
  · exact Nat.zero_le _
theorem rowU_len (r : Nat) : ∀ q, (rowU f g f' g' r q).length ≤ 2 * q
  | 0 => Nat.le_refl _
  | q + 1 => by
    have h1 := rowU_len r q
    have h2 := cellU_len f g f' g' r q
    rw [rowU, List.length_append]
    omega
theorem allU_len (C : Nat) : ∀ k, (allU f g f' g' C k).length ≤ 2 * (k * C)
  | 0 => by simp [allU]
  | k + 1 => by
    have h1 := allU_len C k
    have h2 := rowU_len f g f' g' k C
    rw [allU, List.length_append, Nat.succ_mul k C]
    omega
end
def outV (l : List Up) : Value := if l = [] then .slice none 0 0 else .slice (some ⟨2, 0, none⟩) l.length l.length
def outB (l : List Up) : List Blk := if l = [] then [] else [⟨26, true, ucl l⟩]
theorem one_ext (b : ByteArray) (c : Nat) (h : c < b.size) : b.extract c (c + 1) = one (byteAt b c) := by
  refine bytes_ext (by rw [ByteArray.size_extract, one_size]; omega) fun j hj => ?_
  rw [ByteArray.size_extract] at hj
  obtain rfl : j = 0 := by omega
  rw [byteAt_ext _ _ _ _ (by omega), one_at, Nat.add_zero]
def mkOk (n : Nat) : Bool := IntKind.u8.wrap ((n : Int) - 48) == ((n - 48 : Nat) : Int)
theorem mk_list : ((List.range 8).map (· + 48)).all mkOk = true := by decide +kernel
theorem mk_sub (n : Nat) (h1 : 48 ≤ n) (h2 : n ≤ 55) : IntKind.u8.wrap ((n : Int) - 48) = ((n - 48 : Nat) : Int) := by
  have := List.all_eq_true.1 mk_list n (by
    rw [List.mem_map]
    exact ⟨n - 48, by rw [List.mem_range]; omega, by show n - 48 + 48 = n; omega⟩)
  simpa [mkOk] using this
theorem f19 : E.funcs 19 = some Try.f19 := by kernel_rfl
def lstU (f g f' g' : Nat → Nat → UInt8) (C k q : Nat) : List Up := allU f g f' g' C k ++ rowU f g f' g' k q
theorem lstU_len (f g f' g' : Nat → Nat → UInt8) (C k q : Nat) (hk : k ≤ 40) (hC : C ≤ 80) (hq : q ≤ 80) : (lstU f g f' g' C k q).length ≤ 10000 := by
  have h1 := allU_len f g f' g' C k
  have h2 := rowU_len f g f' g' k q
  have h3 : k * C ≤ 40 * 80 := Nat.mul_le_mul hk hC
  rw [lstU, List.length_append]
  omega
theorem lstU_next (f g f' g' : Nat → Nat → UInt8) (C k : Nat) : lstU f g f' g' C k C = lstU f g f' g' C (k + 1) 0 := by
  show allU f g f' g' C k ++ rowU f g f' g' k C = (allU f g f' g' C k ++ rowU f g f' g' k C) ++ []
  rw [List.append_nil]
theorem lstU_same (f g f' g' : Nat → Nat → UInt8) (C k q : Nat) (h : dfB f g f' g' k q = false) : lstU f g f' g' C k q = lstU f g f' g' C k (q + 1) := by
  unfold lstU
  rw [rowU, cellU, if_neg (by rw [h]; decide), List.append_nil]
theorem lstU_dif (f g f' g' : Nat → Nat → UInt8) (C k q : Nat) (h : dfB f g f' g' k q = true) : lstU f g f' g' C k q ++ [mvU k q, txU ((g' k q).toNat - 48) (f' k q)] = lstU f g f' g' C k (q + 1) := by
  unfold lstU
  rw [rowU, cellU, if_pos h, List.append_assoc]
theorem outV_nil {l : List Up} (h : l = []) : outV l = .slice none 0 0 := if_pos h
theorem outV_own {l : List Up} (h : ¬ l = []) : outV l = .slice (some ⟨2, 0, none⟩) l.length l.length := if_neg h
theorem outB_nil {l : List Up} (h : l = []) : outB l = [] := if_pos h
theorem outB_own {l : List Up} (h : ¬ l = []) : outB l = [⟨26, true, ucl l⟩] := if_neg h
theorem u8_bne (a b : UInt8) : ((a.toNat : Int) != (b.toNat : Int)) = (a != b) := by
  rw [Bool.eq_iff_iff, bne_iff_ne, bne_iff_ne]
  constructor
  · intro h e
    exact h (by rw [e])
  · intro h e
    exact h (UInt8.toNat_inj.1 (by omega))
def finU (l : List Up) (i j i' j' : Int) : List Up := if l = [] ∧ i = i' ∧ j = j' then [] else l ++ [⟨0, i', j', 0, ⟨#[]⟩⟩]
def outF (l : List Up) : Value := if l = [] then FS 26 0 2 #[] else FS 26 l.length 0 (ucl l).toArray
theorem types26 : ∃ ti, E.types 26 = some ti := by
  have : (E.types 26).map TI.size = some 5 := by kernel_rfl
  obtain ⟨ti, h, _⟩ := Option.map_eq_some_iff.1 this
  exact ⟨ti, h⟩
theorem nil_up {ti : TI} (ht : E.types 26 = some ti) : NilV E (.tuple #[.slice none 0 0, .int .i64 0]) (.tuple #[FS 26 0 2 #[], .int .i64 0]) :=
  .tuple (.cons (.c (.inr ⟨rfl, 26, ti, ht, rfl⟩)) (.cons (.c (.inl rfl)) .nil))
set_option maxRecDepth 20000 in
theorem ice_up {hp : Heap} {b n c : Nat} (l : List Up) (cs : List Value) (hcs : cs = ucl l) (hn : n * 5 = (ucl l).length) (h1 : hp.get b = some ⟨26, true, cs⟩) : iceV E hp (.tuple #[.slice (some ⟨b, 0, none⟩) n c, .int .i64 0]) = some (.tuple #[FS 26 n 0 (ucl l).toArray, .int .i64 0]) := by
  subst hcs
  have h0 : (E.types (26 : Nat)).map TI.size = some 5 := by kernel_rfl
  have hz : (E.types 26).map TI.size = some 5 ∧ (ucl l).all flat = true := ⟨h0, ucl_flat l⟩
  have h := iceC_row (E := E) (hp := hp) (b := b) (n := n) (c := c) (e := 26) (size := 5) (cells := ucl l) 3 hz.1 h1 hn hz.2
  replace h : iceC E hp 4 (.slice (some ⟨b, 0, none⟩) n c) = some (FS 26 n 0 (ucl l).toArray) := h
  have h2 : iceC E hp 4 (.int .i64 0) = some (.int .i64 0) := rfl
  show (mapO (iceW E hp) [.slice (some ⟨b, 0, none⟩) n c, .int .i64 0]).map (fun l => Value.tuple l.toArray) = _
  have e1 : iceW E hp (.slice (some ⟨b, 0, none⟩) n c) = iceC E hp 4 (.slice (some ⟨b, 0, none⟩) n c) := rfl
  have e2 : iceW E hp (.int .i64 0) = iceC E hp 4 (.int .i64 0) := rfl
  simp only [mapO, e1, e2, h, h2, Option.map_some]
set_option maxHeartbeats 4000000 in
theorem differ19 (x y x' y' R C : Nat) (f g f' g' : Nat → Nat → UInt8) (i j i' j' : Int) (hR0 : 1 ≤ R) (hR : R ≤ 40) (hC0 : 1 ≤ C) (hC : C ≤ 80) (hc : CellsIn R C f' g')
    (cV : Fun E 15 [dv x y (mkR R C f) (mkR R C g) i j] (.bool true)) (cW : Fun E 15 [dv x' y' (mkR R C f') (mkR R C g') i' j'] (.bool true)) :
    Fun E 19 [dv x y (mkR R C f) (mkR R C g) i j, dv x' y' (mkR R C f') (mkR R C g') i' j'] (.tuple #[outF (finU (allU f g f' g' C R) i j i' j'), .int .i64 0]) := by
  refine Fun.ofN f19 rfl (of_decide_eq_true (by kernel_rfl)) (by unfold outF; split <;> rfl) ?_
  have l1 : 0 ≤ (0 : Int) ∧ (0 : Int) < (mkR R C f).length := by rw [mkR_len]; omega
  have l2 : 0 ≤ (0 : Int) ∧ (0 : Int) < (mkR R C f').length := by rw [mkR_len]; omega
  have v1 := strs_0 (mkR R C f) (by rw [mkR_len]; omega)
  have v2 := strs_0 (mkR R C f') (by rw [mkR_len]; omega)
  have d1 : (((mkR R C f).length : Int) != ((mkR R C f').length : Int)) = false := by rw [mkR_len, mkR_len]; simp
  have d2 : (((rowAt (mkR R C f) 0).size : Int) != ((rowAt (mkR R C f') 0).size : Int)) = false := by rw [mkR_size (by omega), mkR_size (by omega)]; simp
  have e2 : (((mkR R C f').length : Nat) : Int) = R := by rw [mkR_len]
  unfold dv strs at cV cW ⊢
  refine Wp.seq (Wp.text ?_)
  refine md 2 (.pointer (some ⟨0, 0, none⟩)) (Blk.mk 24 true [Value.iface 9 (Value.iface (List.length (mkR R C f)) (Value.iface x (Value.agg (List.toArray (List.map Value.string (mkR R C f)))))), Value.iface 9 (Value.iface (List.length (mkR R C g)) (Value.iface y (Value.agg (List.toArray (List.map Value.string (mkR R C g)))))), Value.int .i64 i, Value.int .i64 j]) ?_
  refine md 3 (.pointer (some ⟨1, 0, none⟩)) (Blk.mk 24 true [Value.iface 9 (Value.iface (List.length (mkR R C f')) (Value.iface x' (Value.agg (List.toArray (List.map Value.string (mkR R C f')))))), Value.iface 9 (Value.iface (List.length (mkR R C g')) (Value.iface y' (Value.agg (List.toArray (List.map Value.string (mkR R C g')))))), Value.int .i64 i', Value.int .i64 j']) ?_
  refine kp 4 (.slice none 0 0) ?_
  refine kp 5 (.int IntKind.i64 0) ?_
  refine WpOps.nil (thenK_at (Wp.seq (Wp.seq ?_)))
  refine Wp.region (by kernel_rfl) ?_
  refine kp 9 (.agg #[Value.iface 9 (Value.iface (List.length (mkR R C f)) (Value.iface x (Value.agg (List.toArray (List.map Value.string (mkR R C f)))))), Value.iface 9 (Value.iface (List.length (mkR R C g)) (Value.iface y (Value.agg (List.toArray (List.map Value.string (mkR R C g)))))), Value.int .i64 i, Value.int .i64 j]) ?_
  refine fr 10 15 [Value.agg #[Value.iface 9 (Value.iface (List.length (mkR R C f)) (Value.iface x (Value.agg (List.toArray (List.map Value.string (mkR R C f)))))), Value.iface 9 (Value.iface (List.length (mkR R C g)) (Value.iface y (Value.agg (List.toArray (List.map Value.string (mkR R C g)))))), Value.int .i64 i, Value.int .i64 j]] ?_
  refine WpFun.of (cV) ?_
  refine kp 11 (.bool false) ?_
  refine kp 12 (.bool false) ?_
  refine kp 13 (.agg #[Value.iface 9 (Value.iface (List.length (mkR R C f')) (Value.iface x' (Value.agg (List.toArray (List.map Value.string (mkR R C f')))))), Value.iface 9 (Value.iface (List.length (mkR R C g')) (Value.iface y' (Value.agg (List.toArray (List.map Value.string (mkR R C g')))))), Value.int .i64 i', Value.int .i64 j']) ?_
  refine fr 14 15 [Value.agg #[Value.iface 9 (Value.iface (List.length (mkR R C f')) (Value.iface x' (Value.agg (List.toArray (List.map Value.string (mkR R C f')))))), Value.iface 9 (Value.iface (List.length (mkR R C g')) (Value.iface y' (Value.agg (List.toArray (List.map Value.string (mkR R C g')))))), Value.int .i64 i', Value.int .i64 j']] ?_
  refine WpFun.of (cW) ?_
  refine kp 15 (.bool false) ?_
  refine kp 16 (.bool false) ?_
  refine kp 17 (.bool false) ?_
  refine kp 18 (.pointer (some ⟨0, 0, none⟩)) ?_
  refine kp 19 (.iface 9 (Value.iface (List.length (mkR R C f)) (Value.iface x (Value.agg (List.toArray (List.map Value.string (mkR R C f))))))) ?_
  refine kp 20 (.int IntKind.i64 (↑(List.length (mkR R C f)) : Int)) ?_
  refine kp 21 (.pointer (some ⟨1, 0, none⟩)) ?_
  refine kp 22 (.iface 9 (Value.iface (List.length (mkR R C f')) (Value.iface x' (Value.agg (List.toArray (List.map Value.string (mkR R C f'))))))) ?_
  refine kp 23 (.int IntKind.i64 (↑(List.length (mkR R C f')) : Int)) ?_
  refine kp 24 (.bool false) ?_ (hop := fun _ => by_fact d1)
  refine kp 25 (.bool false) ?_
  refine kp 26 (.bool false) ?_
  refine kp 27 (.pointer (some ⟨0, 0, none⟩)) ?_
  refine kp 28 (.iface 9 (Value.iface (List.length (mkR R C f)) (Value.iface x (Value.agg (List.toArray (List.map Value.string (mkR R C f))))))) ?_
  refine kp 29 (.iface 9 (Value.iface 0 (Value.agg (List.toArray (List.map Value.string (mkR R C f)))))) ?_ (hop := fun _ => o_indexI (e := 9) (size := 1) (a := 0) l1)
  refine kp 30 (.string (rowAt (mkR R C f) 0)) ?_ (hop := fun _ => o_loadI1 (0) v1)
  refine kp 31 (.int IntKind.i64 (↑(ByteArray.size (rowAt (mkR R C f) 0)) : Int)) ?_
  refine kp 32 (.pointer (some ⟨1, 0, none⟩)) ?_
  refine kp 33 (.iface 9 (Value.iface (List.length (mkR R C f')) (Value.iface x' (Value.agg (List.toArray (List.map Value.string (mkR R C f'))))))) ?_
  refine kp 34 (.iface 9 (Value.iface 0 (Value.agg (List.toArray (List.map Value.string (mkR R C f')))))) ?_ (hop := fun _ => o_indexI (e := 9) (size := 1) (a := 0) l2)
  refine kp 35 (.string (rowAt (mkR R C f') 0)) ?_ (hop := fun _ => o_loadI1 (0) v2)
  refine kp 36 (.int IntKind.i64 (↑(ByteArray.size (rowAt (mkR R C f') 0)) : Int)) ?_
  refine kp 37 (.bool false) ?_ (hop := fun _ => by_fact d2)
  refine kp 38 (.bool false) ?_
  refine WpOps.nil (thenK_at (off' (Wp.skip (thenK_at (Wp.seq (Wp.text ?_))))))
  refine kp 6 (.slice none 0 0) ?_
  refine WpOps.nil (thenK_at (Wp.seq (Wp.seq (Wp.text ?_))))
  refine kp 39 (.pointer (some ⟨1, 0, none⟩)) ?_
  refine kp 40 (.iface 9 (Value.iface (List.length (mkR R C f')) (Value.iface x' (Value.agg (List.toArray (List.map Value.string (mkR R C f'))))))) ?_
  refine kp 41 (.int IntKind.i64 (↑(List.length (mkR R C f')) : Int)) ?_
  refine kp 42 (.int IntKind.i64 0) ?_
  refine WpOps.nil (thenK_at (Wp.block ?_))
  refine Wp.loop (G := Nat) (fun k => layj [(2, .pointer (some ⟨0, 0, none⟩)), (3, .pointer (some ⟨1, 0, none⟩)), (6, outV (lstU f g f' g' C k 0)), (41, .int .i64 R), (42, .int .i64 k)]) (fun k => heapOf ([⟨24, true, [strs x (mkR R C f), strs y (mkR R C g), .int .i64 i, .int .i64 j]⟩, ⟨24, true, [strs x' (mkR R C f'), strs y' (mkR R C g'), .int .i64 i', .int .i64 j']⟩] ++ outB (lstU f g f' g' C k 0))) (fun k => R - k) (fun k => k ≤ R) 0
    ?_ (Nat.zero_le _) ?_
  · have h00 : lstU f g f' g' C 0 0 = [] := rfl
    try dsimp only
    rw [outV_nil h00, outB_nil h00, List.append_nil]
    exact View.of [0, 1] [⟨24, true, [strs x (mkR R C f), strs y (mkR R C g), .int .i64 i, .int .i64 j]⟩, ⟨24, true, [strs x' (mkR R C f'), strs y' (mkR R C g'), .int .i64 i', .int .i64 j']⟩] _ (by decide) rfl ⟨⟨_, by kernel_rfl, CellsOk.eq rfl rfl⟩, ⟨_, by kernel_rfl, CellsOk.eq rfl rfl⟩, trivial⟩ ⟨⟨by kernel_rfl, rfl⟩, ⟨by kernel_rfl, rfl⟩, ⟨by kernel_rfl, rfl⟩, ⟨congrArg (Value.int .i64) e2, rfl⟩, ⟨by kernel_rfl, rfl⟩, trivial⟩
  intro k hk
  unfold strs
  by_cases hkR : k < R
  · have hlt : decide ((k : Int) < R) = true := decide_eq_true (by omega)
    have l3 : 0 ≤ (k : Int) ∧ (k : Int) < (mkR R C f).length := by rw [mkR_len]; omega
    have l4 : 0 ≤ (k : Int) ∧ (k : Int) < (mkR R C f').length := by rw [mkR_len]; omega
    have l5 : 0 ≤ (k : Int) ∧ (k : Int) < (mkR R C g).length := by rw [mkR_len]; omega
    have l6 : 0 ≤ (k : Int) ∧ (k : Int) < (mkR R C g').length := by rw [mkR_len]; omega
    have v3 := strs_at (mkR R C f) k (by rw [mkR_len]; omega)
    have v4 := strs_at (mkR R C f') k (by rw [mkR_len]; omega)
    have v5 := strs_at (mkR R C g) k (by rw [mkR_len]; omega)
    have v6 := strs_at (mkR R C g') k (by rw [mkR_len]; omega)
    have z3 : (rowAt (mkR R C f) k).size = C := mkR_size hkR
    have z4 : (rowAt (mkR R C f') k).size = C := mkR_size hkR
    have z5 : (rowAt (mkR R C g) k).size = C := mkR_size hkR
    have z6 : (rowAt (mkR R C g') k).size = C := mkR_size hkR
    have e50 : (((rowAt (mkR R C f') k).size : Nat) : Int) = C := by rw [z4]
    refine Wp.seq (Wp.text ?_)
    refine kp 43 (.bool true) ?_ (hop := fun _ => by_fact hlt)
    refine WpOps.nil (thenK_at (Wp.seq (on' (Wp.skip (thenK_at (Wp.seq (Wp.block (Wp.seq (Wp.text ?_)))))))))
    refine kp 44 (.int IntKind.i64 (↑k : Int)) ?_
    refine kp 7 (.int IntKind.i64 (↑k : Int)) ?_
    refine WpOps.nil (thenK_at (Wp.seq (Wp.text ?_)))
    refine kp 45 (.pointer (some ⟨1, 0, none⟩)) ?_
    refine kp 46 (.iface 9 (Value.iface (List.length (mkR R C f')) (Value.iface x' (Value.agg (List.toArray (List.map Value.string (mkR R C f'))))))) ?_
    refine kp 47 (.int IntKind.i64 (↑k : Int)) ?_
    refine kp 48 (.iface 9 (Value.iface (Int.toNat (↑k : Int) * 1) (Value.agg (List.toArray (List.map Value.string (mkR R C f')))))) ?_ (hop := fun _ => o_indexI (e := 9) (size := 1) (a := (↑k : Int)) l4)
    refine kp 49 (.string (rowAt (mkR R C f') k)) ?_ (hop := fun _ => o_loadI1 (Int.toNat (↑k : Int) * 1) v4)
    refine kp 50 (.int IntKind.i64 (↑(ByteArray.size (rowAt (mkR R C f') k)) : Int)) ?_
    refine kp 51 (.int IntKind.i64 0) ?_
    refine WpOps.nil (thenK_at (Wp.block ?_))
    refine Wp.loop (G := Nat) (fun q => layj [(2, .pointer (some ⟨0, 0, none⟩)), (3, .pointer (some ⟨1, 0, none⟩)), (6, outV (lstU f g f' g' C k q)), (7, .int .i64 k), (41, .int .i64 R), (42, .int .i64 k), (50, .int .i64 C), (51, .int .i64 q)]) (fun q => heapOf ([⟨24, true, [strs x (mkR R C f), strs y (mkR R C g), .int .i64 i, .int .i64 j]⟩, ⟨24, true, [strs x' (mkR R C f'), strs y' (mkR R C g'), .int .i64 i', .int .i64 j']⟩] ++ outB (lstU f g f' g' C k q))) (fun q => C - q) (fun q => q ≤ C) 0
      (View.slots (l := [(2, .pointer (some ⟨0, 0, none⟩)), (3, .pointer (some ⟨1, 0, none⟩)), (6, outV (lstU f g f' g' C k 0)), (7, .int .i64 k), (41, .int .i64 R), (42, .int .i64 k), (50, .int .i64 C), (51, .int .i64 (0 : Nat))]) ⟨by kernel_rfl, by kernel_rfl, by kernel_rfl, by kernel_rfl, by kernel_rfl, by kernel_rfl, congrArg (Value.int .i64) e50, by kernel_rfl, trivial⟩) (Nat.zero_le _) ?_
    intro q hq
    unfold strs
    by_cases hqC : q < C
    · have hlt2 : decide ((q : Int) < C) = true := decide_eq_true (by omega)
      have n3 := byte_get (rowAt (mkR R C f) k) q (by omega)
      have n4 := byte_get (rowAt (mkR R C f') k) q (by omega)
      have n5 := byte_get (rowAt (mkR R C g) k) q (by omega)
      have n6 := byte_get (rowAt (mkR R C g') k) q (by omega)
      have m3 : 0 ≤ (q : Int) := by omega
      refine Wp.seq (Wp.text ?_)
      refine kp 52 (.bool true) ?_ (hop := fun _ => by_fact hlt2)
      refine WpOps.nil (thenK_at (Wp.seq (on' (Wp.skip (thenK_at (Wp.seq (Wp.block (Wp.seq (Wp.text ?_)))))))))
      refine kp 53 (.int IntKind.i64 (↑q : Int)) ?_
      refine kp 8 (.int IntKind.i64 (↑q : Int)) ?_
      refine WpOps.nil (thenK_at (Wp.seq ?_))
      refine Wp.region (by kernel_rfl) ?_
      refine kp 54 (.pointer (some ⟨0, 0, none⟩)) ?_
      refine kp 55 (.iface 9 (Value.iface (List.length (mkR R C f)) (Value.iface x (Value.agg (List.toArray (List.map Value.string (mkR R C f))))))) ?_
      refine kp 56 (.int IntKind.i64 (↑k : Int)) ?_
      refine kp 57 (.iface 9 (Value.iface (Int.toNat (↑k : Int) * 1) (Value.agg (List.toArray (List.map Value.string (mkR R C f)))))) ?_ (hop := fun _ => o_indexI (e := 9) (size := 1) (a := (↑k : Int)) l3)
      refine kp 58 (.string (rowAt (mkR R C f) k)) ?_ (hop := fun _ => o_loadI1 (Int.toNat (↑k : Int) * 1) v3)
      refine kp 59 (.int IntKind.i64 (↑q : Int)) ?_
      refine kp 60 (.int IntKind.u8 (↑(UInt8.toNat (byteAt (rowAt (mkR R C f) k) q)) : Int)) ?_ (hop := fun _ => o_indexStr m3 n3)
      refine kp 61 (.pointer (some ⟨1, 0, none⟩)) ?_
      refine kp 62 (.iface 9 (Value.iface (List.length (mkR R C f')) (Value.iface x' (Value.agg (List.toArray (List.map Value.string (mkR R C f'))))))) ?_
      refine kp 63 (.int IntKind.i64 (↑k : Int)) ?_
      refine kp 64 (.iface 9 (Value.iface (Int.toNat (↑k : Int) * 1) (Value.agg (List.toArray (List.map Value.string (mkR R C f')))))) ?_ (hop := fun _ => o_indexI (e := 9) (size := 1) (a := (↑k : Int)) l4)
      refine kp 65 (.string (rowAt (mkR R C f') k)) ?_ (hop := fun _ => o_loadI1 (Int.toNat (↑k : Int) * 1) v4)
      refine kp 66 (.int IntKind.i64 (↑q : Int)) ?_
      refine kp 67 (.int IntKind.u8 (↑(UInt8.toNat (byteAt (rowAt (mkR R C f') k) q)) : Int)) ?_ (hop := fun _ => o_indexStr m3 n4)
      refine kp 68 (.bool ((↑(UInt8.toNat (byteAt (rowAt (mkR R C f) k) q)) : Int) != (↑(UInt8.toNat (byteAt (rowAt (mkR R C f') k) q)) : Int))) ?_
      refine kp 69 (.bool ((↑(UInt8.toNat (byteAt (rowAt (mkR R C f) k) q)) : Int) != (↑(UInt8.toNat (byteAt (rowAt (mkR R C f') k) q)) : Int))) ?_
      refine WpOps.fork 16 ((↑(UInt8.toNat (byteAt (rowAt (mkR R C f) k) q)) : Int) != (↑(UInt8.toNat (byteAt (rowAt (mkR R C f') k) q)) : Int)) [70, 71, 72, 73, 74, 75, 76, 77, 78, 79, 80, 81, 82, 83, 84, 85] 85 (true) ((↑(UInt8.toNat (byteAt (rowAt (mkR R C g) k) q)) : Int) != (↑(UInt8.toNat (byteAt (rowAt (mkR R C g') k) q)) : Int)) (by kernel_rfl) (fun g85 => ?_) (fun g85 => ?_) (fun f_85 b85 hb85 => ?_)
      · refine um 70 ?_ (hw := wants_tf g85)
        refine um 71 ?_ (hw := wants_tf g85)
        refine um 72 ?_ (hw := wants_tf g85)
        refine um 73 ?_ (hw := wants_tf g85)
        refine um 74 ?_ (hw := wants_tf g85)
        refine um 75 ?_ (hw := wants_tf g85)
        refine um 76 ?_ (hw := wants_tf g85)
        refine um 77 ?_ (hw := wants_tf g85)
        refine um 78 ?_ (hw := wants_tf g85)
        refine um 79 ?_ (hw := wants_tf g85)
        refine um 80 ?_ (hw := wants_tf g85)
        refine um 81 ?_ (hw := wants_tf g85)
        refine um 82 ?_ (hw := wants_tf g85)
        refine um 83 ?_ (hw := wants_tf g85)
        refine um 84 ?_ (hw := wants_tf g85)
        refine kp 85 (.bool true) ?_ (hop := fun _ => o_pickT g85)
        refine WpOps.nil ?_
        exact ⟨rfl, (.upd rfl (.upd rfl (.upd rfl (.upd rfl (.upd rfl (.upd rfl (.upd rfl (.upd rfl (.upd rfl (.upd rfl (.upd rfl (.upd rfl (.upd rfl (.upd rfl (.upd rfl (.upd rfl .refl)))))))))))))))), (by kernel_rfl)⟩
      · refine kp 70 (.pointer (some ⟨0, 1, none⟩)) ?_ (hw := wants_ff g85)
        refine kp 71 (.iface 9 (Value.iface (List.length (mkR R C g)) (Value.iface y (Value.agg (List.toArray (List.map Value.string (mkR R C g))))))) ?_ (hw := wants_ff g85)
        refine kp 72 (.int IntKind.i64 (↑k : Int)) ?_ (hw := wants_ff g85)
        refine kp 73 (.iface 9 (Value.iface (Int.toNat (↑k : Int) * 1) (Value.agg (List.toArray (List.map Value.string (mkR R C g)))))) ?_ (hw := wants_ff g85) (hop := fun _ => o_indexI (e := 9) (size := 1) (a := (↑k : Int)) l5)
        refine kp 74 (.string (rowAt (mkR R C g) k)) ?_ (hw := wants_ff g85) (hop := fun _ => o_loadI1 (Int.toNat (↑k : Int) * 1) v5)
        refine kp 75 (.int IntKind.i64 (↑q : Int)) ?_ (hw := wants_ff g85)
        refine kp 76 (.int IntKind.u8 (↑(UInt8.toNat (byteAt (rowAt (mkR R C g) k) q)) : Int)) ?_ (hw := wants_ff g85) (hop := fun _ => o_indexStr m3 n5)
        refine kp 77 (.pointer (some ⟨1, 1, none⟩)) ?_ (hw := wants_ff g85)
        refine kp 78 (.iface 9 (Value.iface (List.length (mkR R C g')) (Value.iface y' (Value.agg (List.toArray (List.map Value.string (mkR R C g'))))))) ?_ (hw := wants_ff g85)
        refine kp 79 (.int IntKind.i64 (↑k : Int)) ?_ (hw := wants_ff g85)
        refine kp 80 (.iface 9 (Value.iface (Int.toNat (↑k : Int) * 1) (Value.agg (List.toArray (List.map Value.string (mkR R C g')))))) ?_ (hw := wants_ff g85) (hop := fun _ => o_indexI (e := 9) (size := 1) (a := (↑k : Int)) l6)
        refine kp 81 (.string (rowAt (mkR R C g') k)) ?_ (hw := wants_ff g85) (hop := fun _ => o_loadI1 (Int.toNat (↑k : Int) * 1) v6)
        refine kp 82 (.int IntKind.i64 (↑q : Int)) ?_ (hw := wants_ff g85)
        refine kp 83 (.int IntKind.u8 (↑(UInt8.toNat (byteAt (rowAt (mkR R C g') k) q)) : Int)) ?_ (hw := wants_ff g85) (hop := fun _ => o_indexStr m3 n6)
        refine kp 84 (.bool ((↑(UInt8.toNat (byteAt (rowAt (mkR R C g) k) q)) : Int) != (↑(UInt8.toNat (byteAt (rowAt (mkR R C g') k) q)) : Int))) ?_ (hw := wants_ff g85)
        refine kp 85 (.bool ((↑(UInt8.toNat (byteAt (rowAt (mkR R C g) k) q)) : Int) != (↑(UInt8.toNat (byteAt (rowAt (mkR R C g') k) q)) : Int))) ?_ (hop := fun _ => o_pickF g85)
        refine WpOps.nil ?_
        exact ⟨rfl, (.upd rfl (.upd rfl (.upd rfl (.upd rfl (.upd rfl (.upd rfl (.upd rfl (.upd rfl (.upd rfl (.upd rfl (.upd rfl (.upd rfl (.upd rfl (.upd rfl (.upd rfl (.upd rfl .refl)))))))))))))))), (by kernel_rfl)⟩
      refine WpOps.nil (thenK_at ?_)
      have hb : b85 = dfB f g f' g' k q := by
        rw [hb85, cond_or', u8_bne, u8_bne, mkR_at hkR hqC, mkR_at hkR hqC, mkR_at hkR hqC, mkR_at hkR hqC]
        rfl
      clear hb85
      have w3 : IntKind.i64.wrap ((q : Int) + 1) = ((q + 1 : Nat) : Int) := wr _ (by omega) (by omega)
      refine Wp.split (b85) (by kernel_rfl) (fun hd => ?_) (fun hd => ?_)
      · have hdf : dfB f g f' g' k q = true := hb ▸ hd
        have c1 : 0 ≤ IntKind.i64.wrap ((q : Int) + 1) ∧ IntKind.i64.wrap ((q : Int) + 1) ≤ (rowAt (mkR R C f') k).size := by rw [w3]; omega
        have c2 : 0 ≤ (q : Int) ∧ (q : Int) ≤ (IntKind.i64.wrap ((q : Int) + 1)).toNat := by rw [w3]; omega
        obtain ⟨h48, h55⟩ : 48 ≤ (g' k q).toNat ∧ (g' k q).toNat ≤ 55 := of_decide_eq_true (hc k q hkR hqC).2
        have eN : IntKind.i64.wrap (IntKind.u8.wrap (((byteAt (rowAt (mkR R C g') k) q).toNat : Int) - 48)) = (((g' k q).toNat - 48 : Nat) : Int) := by
          rw [mkR_at hkR hqC, mk_sub _ h48 h55, wr _ (by omega) (by omega)]
        have eS : (rowAt (mkR R C f') k).extract (q : Int).toNat (IntKind.i64.wrap ((q : Int) + 1)).toNat = one (f' k q) := by
          rw [w3, Int.toNat_natCast, Int.toNat_natCast, one_ext _ _ (by omega), mkR_at hkR hqC]
        have hnew : [Value.int .i64 0, .int .i64 k, .int .i64 q, .int .i64 0, .string ⟨#[]⟩, .int .i64 1, .int .i64 0, .int .i64 0, .int .i64 (IntKind.i64.wrap (IntKind.u8.wrap (((byteAt (rowAt (mkR R C g') k) q).toNat : Int) - 48))), .string ((rowAt (mkR R C f') k).extract (q : Int).toNat (IntKind.i64.wrap ((q : Int) + 1)).toNat)] = ucl [mvU k q, txU ((g' k q).toNat - 48) (f' k q)] := by
          rw [eN, eS]
          rfl
        by_cases hl : lstU f g f' g' C k q = []
        · rw [outV_nil hl, outB_nil hl]
          refine Wp.region (by kernel_rfl) ?_
          refine kp 86 (.slice none 0 0) ?_
          refine kp 87 (.int IntKind.i64 (↑k : Int)) ?_
          refine kp 88 (.int IntKind.i64 (↑q : Int)) ?_
          refine kp 89 (.agg #[Value.int .i64 0, Value.int .i64 (↑k : Int), Value.int .i64 (↑q : Int), Value.int .i64 0, Value.string (ByteArray.mk #[])]) ?_
          refine kp 90 (.pointer (some ⟨1, 1, none⟩)) ?_
          refine kp 91 (.iface 9 (Value.iface (List.length (mkR R C g')) (Value.iface y' (Value.agg (List.toArray (List.map Value.string (mkR R C g'))))))) ?_
          refine kp 92 (.int IntKind.i64 (↑k : Int)) ?_
          refine kp 93 (.iface 9 (Value.iface (Int.toNat (↑k : Int) * 1) (Value.agg (List.toArray (List.map Value.string (mkR R C g')))))) ?_ (hop := fun _ => o_indexI (e := 9) (size := 1) (a := (↑k : Int)) l6)
          refine kp 94 (.string (rowAt (mkR R C g') k)) ?_ (hop := fun _ => o_loadI1 (Int.toNat (↑k : Int) * 1) v6)
          refine kp 95 (.int IntKind.i64 (↑q : Int)) ?_
          refine kp 96 (.int IntKind.u8 (↑(UInt8.toNat (byteAt (rowAt (mkR R C g') k) q)) : Int)) ?_ (hop := fun _ => o_indexStr m3 n6)
          refine kp 97 (.int IntKind.u8 (IntKind.wrap .u8 ((↑(UInt8.toNat (byteAt (rowAt (mkR R C g') k) q)) : Int) - 48))) ?_
          refine kp 98 (.int IntKind.i64 (IntKind.wrap .i64 (IntKind.wrap .u8 ((↑(UInt8.toNat (byteAt (rowAt (mkR R C g') k) q)) : Int) - 48)))) ?_
          refine kp 99 (.pointer (some ⟨1, 0, none⟩)) ?_
          refine kp 100 (.iface 9 (Value.iface (List.length (mkR R C f')) (Value.iface x' (Value.agg (List.toArray (List.map Value.string (mkR R C f'))))))) ?_
          refine kp 101 (.int IntKind.i64 (↑k : Int)) ?_
          refine kp 102 (.iface 9 (Value.iface (Int.toNat (↑k : Int) * 1) (Value.agg (List.toArray (List.map Value.string (mkR R C f')))))) ?_ (hop := fun _ => o_indexI (e := 9) (size := 1) (a := (↑k : Int)) l4)
          refine kp 103 (.string (rowAt (mkR R C f') k)) ?_ (hop := fun _ => o_loadI1 (Int.toNat (↑k : Int) * 1) v4)
          refine kp 104 (.int IntKind.i64 (↑q : Int)) ?_
          refine kp 105 (.int IntKind.i64 (↑q : Int)) ?_
          refine kp 106 (.int IntKind.i64 (IntKind.wrap .i64 ((↑q : Int) + 1))) ?_
          refine kp 107 (.string (ByteArray.extract (rowAt (mkR R C f') k) (Int.toNat (↑q : Int)) (Int.toNat (IntKind.wrap .i64 ((↑q : Int) + 1))))) ?_ (hop := fun _ => o_cutLH c1 c2)
          refine kp 108 (.agg #[Value.int .i64 1, Value.int .i64 0, Value.int .i64 0, Value.int .i64 (IntKind.wrap .i64 (IntKind.wrap .u8 ((↑(UInt8.toNat (byteAt (rowAt (mkR R C g') k) q)) : Int) - 48))), Value.string (ByteArray.extract (rowAt (mkR R C f') k) (Int.toNat (↑q : Int)) (Int.toNat (IntKind.wrap .i64 ((↑q : Int) + 1))))]) ?_
          refine md 109 (.slice (some ⟨2, 0, none⟩) 2 2) (Blk.mk 26 true [Value.int .i64 0, Value.int .i64 (↑k : Int), Value.int .i64 (↑q : Int), Value.int .i64 0, Value.string (ByteArray.mk #[]), Value.int .i64 1, Value.int .i64 0, Value.int .i64 0, Value.int .i64 (IntKind.wrap .i64 (IntKind.wrap .u8 ((↑(UInt8.toNat (byteAt (rowAt (mkR R C g') k) q)) : Int) - 48))), Value.string (ByteArray.extract (rowAt (mkR R C f') k) (Int.toNat (↑q : Int)) (Int.toNat (IntKind.wrap .i64 ((↑q : Int) + 1))))]) ?_
          refine md 110 (.slice (some ⟨3, 0, none⟩) 2 2) (Blk.mk 26 true [Value.int .i64 0, Value.int .i64 (↑k : Int), Value.int .i64 (↑q : Int), Value.int .i64 0, Value.string (ByteArray.mk #[]), Value.int .i64 1, Value.int .i64 0, Value.int .i64 0, Value.int .i64 (IntKind.wrap .i64 (IntKind.wrap .u8 ((↑(UInt8.toNat (byteAt (rowAt (mkR R C g') k) q)) : Int) - 48))), Value.string (ByteArray.extract (rowAt (mkR R C f') k) (Int.toNat (↑q : Int)) (Int.toNat (IntKind.wrap .i64 ((↑q : Int) + 1))))]) ?_
          refine kp 6 (.slice (some ⟨3, 0, none⟩) 2 2) ?_
          refine WpOps.nil (blockK_norm (thenK_at (Wp.text ?_)))
          refine kp 111 (.int IntKind.i64 (IntKind.wrap .i64 ((↑q : Int) + 1))) ?_
          refine kp 51 (.int IntKind.i64 (IntKind.wrap .i64 ((↑q : Int) + 1))) ?_
          refine WpOps.nil (thenK_at ?_)
          have hl2 : [mvU k q, txU ((g' k q).toNat - 48) (f' k q)] = lstU f g f' g' C k (q + 1) := by
            have := lstU_dif f g f' g' C k q hdf
            rwa [hl, List.nil_append] at this
          refine ⟨q + 1, by omega, by omega, ?_⟩
          try dsimp only
          rw [← hl2, outV_own (by simp), outB_own (by simp)]
          exact View.of [0, 1, 3] [⟨24, true, [strs x (mkR R C f), strs y (mkR R C g), .int .i64 i, .int .i64 j]⟩, ⟨24, true, [strs x' (mkR R C f'), strs y' (mkR R C g'), .int .i64 i', .int .i64 j']⟩, ⟨26, true, ucl [mvU k q, txU ((g' k q).toNat - 48) (f' k q)]⟩] _ (by decide) rfl ⟨⟨_, by kernel_rfl, CellsOk.eq rfl rfl⟩, ⟨_, by kernel_rfl, CellsOk.eq rfl rfl⟩, ⟨_, by kernel_rfl, CellsOk.eq hnew (ucl_flat _)⟩, trivial⟩ ⟨⟨by kernel_rfl, rfl⟩, ⟨by kernel_rfl, rfl⟩, ⟨by kernel_rfl, rfl⟩, ⟨by kernel_rfl, rfl⟩, ⟨by kernel_rfl, rfl⟩, ⟨by kernel_rfl, rfl⟩, ⟨by kernel_rfl, rfl⟩, ⟨congrArg (Value.int .i64) w3, rfl⟩, trivial⟩
        · rw [outV_own hl, outB_own hl]
          obtain ⟨l, hll⟩ : ∃ l, l = lstU f g f' g' C k q := ⟨_, rfl⟩
          have hlen := lstU_len f g f' g' C k q (by omega) hC (by omega)
          rw [← hll] at hlen hl ⊢
          have a1 : ¬ (l.length + 2 ≤ l.length) := by omega
          have a2 : 1 ≤ 48 ∧ (l.length + 2) * 48 ≤ 140737488355328 ∧ 5 = 5 ∧ l.length + 2 ≤ 9223372036854775807 := by omega
          have a3 := ucl_at l
          have fl := ucl_flat l
          refine Wp.region (by kernel_rfl) ?_
          refine kp 86 (.slice (some ⟨2, 0, none⟩) (List.length l) (List.length l)) ?_
          refine kp 87 (.int IntKind.i64 (↑k : Int)) ?_
          refine kp 88 (.int IntKind.i64 (↑q : Int)) ?_
          refine kp 89 (.agg #[Value.int .i64 0, Value.int .i64 (↑k : Int), Value.int .i64 (↑q : Int), Value.int .i64 0, Value.string (ByteArray.mk #[])]) ?_
          refine kp 90 (.pointer (some ⟨1, 1, none⟩)) ?_
          refine kp 91 (.iface 9 (Value.iface (List.length (mkR R C g')) (Value.iface y' (Value.agg (List.toArray (List.map Value.string (mkR R C g'))))))) ?_
          refine kp 92 (.int IntKind.i64 (↑k : Int)) ?_
          refine kp 93 (.iface 9 (Value.iface (Int.toNat (↑k : Int) * 1) (Value.agg (List.toArray (List.map Value.string (mkR R C g')))))) ?_ (hop := fun _ => o_indexI (e := 9) (size := 1) (a := (↑k : Int)) l6)
          refine kp 94 (.string (rowAt (mkR R C g') k)) ?_ (hop := fun _ => o_loadI1 (Int.toNat (↑k : Int) * 1) v6)
          refine kp 95 (.int IntKind.i64 (↑q : Int)) ?_
          refine kp 96 (.int IntKind.u8 (↑(UInt8.toNat (byteAt (rowAt (mkR R C g') k) q)) : Int)) ?_ (hop := fun _ => o_indexStr m3 n6)
          refine kp 97 (.int IntKind.u8 (IntKind.wrap .u8 ((↑(UInt8.toNat (byteAt (rowAt (mkR R C g') k) q)) : Int) - 48))) ?_
          refine kp 98 (.int IntKind.i64 (IntKind.wrap .i64 (IntKind.wrap .u8 ((↑(UInt8.toNat (byteAt (rowAt (mkR R C g') k) q)) : Int) - 48)))) ?_
          refine kp 99 (.pointer (some ⟨1, 0, none⟩)) ?_
          refine kp 100 (.iface 9 (Value.iface (List.length (mkR R C f')) (Value.iface x' (Value.agg (List.toArray (List.map Value.string (mkR R C f'))))))) ?_
          refine kp 101 (.int IntKind.i64 (↑k : Int)) ?_
          refine kp 102 (.iface 9 (Value.iface (Int.toNat (↑k : Int) * 1) (Value.agg (List.toArray (List.map Value.string (mkR R C f')))))) ?_ (hop := fun _ => o_indexI (e := 9) (size := 1) (a := (↑k : Int)) l4)
          refine kp 103 (.string (rowAt (mkR R C f') k)) ?_ (hop := fun _ => o_loadI1 (Int.toNat (↑k : Int) * 1) v4)
          refine kp 104 (.int IntKind.i64 (↑q : Int)) ?_
          refine kp 105 (.int IntKind.i64 (↑q : Int)) ?_
          refine kp 106 (.int IntKind.i64 (IntKind.wrap .i64 ((↑q : Int) + 1))) ?_
          refine kp 107 (.string (ByteArray.extract (rowAt (mkR R C f') k) (Int.toNat (↑q : Int)) (Int.toNat (IntKind.wrap .i64 ((↑q : Int) + 1))))) ?_ (hop := fun _ => o_cutLH c1 c2)
          refine kp 108 (.agg #[Value.int .i64 1, Value.int .i64 0, Value.int .i64 0, Value.int .i64 (IntKind.wrap .i64 (IntKind.wrap .u8 ((↑(UInt8.toNat (byteAt (rowAt (mkR R C g') k) q)) : Int) - 48))), Value.string (ByteArray.extract (rowAt (mkR R C f') k) (Int.toNat (↑q : Int)) (Int.toNat (IntKind.wrap .i64 ((↑q : Int) + 1))))]) ?_
          refine md 109 (.slice (some ⟨3, 0, none⟩) 2 2) (Blk.mk 26 true [Value.int .i64 0, Value.int .i64 (↑k : Int), Value.int .i64 (↑q : Int), Value.int .i64 0, Value.string (ByteArray.mk #[]), Value.int .i64 1, Value.int .i64 0, Value.int .i64 0, Value.int .i64 (IntKind.wrap .i64 (IntKind.wrap .u8 ((↑(UInt8.toNat (byteAt (rowAt (mkR R C g') k) q)) : Int) - 48))), Value.string (ByteArray.extract (rowAt (mkR R C f') k) (Int.toNat (↑q : Int)) (Int.toNat (IntKind.wrap .i64 ((↑q : Int) + 1))))]) ?_
          refine ra 110 (.slice (some ⟨4, 0, none⟩) (List.length l + 2) (List.length l + 2)) (2) (Blk.mk 26 true (ucl l ++ [Value.int .i64 0, Value.int .i64 (↑k : Int), Value.int .i64 (↑q : Int), Value.int .i64 0, Value.string (ByteArray.mk #[]), Value.int .i64 1, Value.int .i64 0, Value.int .i64 0, Value.int .i64 (IntKind.wrap .i64 (IntKind.wrap .u8 ((↑(UInt8.toNat (byteAt (rowAt (mkR R C g') k) q)) : Int) - 48))), Value.string (ByteArray.extract (rowAt (mkR R C f') k) (Int.toNat (↑q : Int)) (Int.toNat (IntKind.wrap .i64 ((↑q : Int) + 1))))])) ?_ (hop := fun _ => o_append (e := 26) 2 (0) (List.length l) _ (List.length l) a1 a2 a3)
          refine kp 6 (.slice (some ⟨4, 0, none⟩) (List.length l + 2) (List.length l + 2)) ?_
          refine WpOps.nil (blockK_norm (thenK_at (Wp.text ?_)))
          refine kp 111 (.int IntKind.i64 (IntKind.wrap .i64 ((↑q : Int) + 1))) ?_
          refine kp 51 (.int IntKind.i64 (IntKind.wrap .i64 ((↑q : Int) + 1))) ?_
          refine WpOps.nil (thenK_at ?_)
          have hl2 : l ++ [mvU k q, txU ((g' k q).toNat - 48) (f' k q)] = lstU f g f' g' C k (q + 1) := by
            rw [hll]
            exact lstU_dif f g f' g' C k q hdf
          have hcells : ucl l ++ [Value.int .i64 0, .int .i64 k, .int .i64 q, .int .i64 0, .string ⟨#[]⟩, .int .i64 1, .int .i64 0, .int .i64 0, .int .i64 (IntKind.i64.wrap (IntKind.u8.wrap (((byteAt (rowAt (mkR R C g') k) q).toNat : Int) - 48))), .string ((rowAt (mkR R C f') k).extract (q : Int).toNat (IntKind.i64.wrap ((q : Int) + 1)).toNat)] = ucl (l ++ [mvU k q, txU ((g' k q).toNat - 48) (f' k q)]) := by
            rw [hnew, ucl_app]
          have hlen2 : (l ++ [mvU k q, txU ((g' k q).toNat - 48) (f' k q)]).length = l.length + 2 := by rw [List.length_append]; rfl
          refine ⟨q + 1, by omega, by omega, ?_⟩
          try dsimp only
          rw [← hl2, outV_own (by simp), outB_own (by simp), hlen2]
          exact View.of [0, 1, 4] [⟨24, true, [strs x (mkR R C f), strs y (mkR R C g), .int .i64 i, .int .i64 j]⟩, ⟨24, true, [strs x' (mkR R C f'), strs y' (mkR R C g'), .int .i64 i', .int .i64 j']⟩, ⟨26, true, ucl (l ++ [mvU k q, txU ((g' k q).toNat - 48) (f' k q)])⟩] _ (by decide) rfl ⟨⟨_, by kernel_rfl, CellsOk.eq rfl rfl⟩, ⟨_, by kernel_rfl, CellsOk.eq rfl rfl⟩, ⟨_, by kernel_rfl, CellsOk.eq hcells (ucl_flat _)⟩, trivial⟩ ⟨⟨by kernel_rfl, rfl⟩, ⟨by kernel_rfl, rfl⟩, ⟨by kernel_rfl, rfl⟩, ⟨by kernel_rfl, rfl⟩, ⟨by kernel_rfl, rfl⟩, ⟨by kernel_rfl, rfl⟩, ⟨by kernel_rfl, rfl⟩, ⟨congrArg (Value.int .i64) w3, rfl⟩, trivial⟩
      · have hdf : dfB f g f' g' k q = false := hb ▸ hd
        refine Wp.skip (blockK_norm (thenK_at (Wp.text ?_)))
        refine kp 111 (.int IntKind.i64 (IntKind.wrap .i64 ((↑q : Int) + 1))) ?_
        refine kp 51 (.int IntKind.i64 (IntKind.wrap .i64 ((↑q : Int) + 1))) ?_
        refine WpOps.nil (thenK_at ?_)
        refine ⟨q + 1, by omega, by omega, ?_⟩
        try dsimp only
        rw [← lstU_same f g f' g' C k q hdf]
        exact View.slots ⟨by kernel_rfl, by kernel_rfl, by kernel_rfl, by kernel_rfl, by kernel_rfl, by kernel_rfl, by kernel_rfl, congrArg (Value.int .i64) w3, trivial⟩
    · have hlt2 : decide ((q : Int) < C) = false := decide_eq_false (by omega)
      obtain rfl : q = C := by omega
      refine Wp.seq (Wp.text ?_)
      refine kp 52 (.bool false) ?_ (hop := fun _ => by_fact hlt2)
      refine WpOps.nil (thenK_at (Wp.seq (off' (Wp.exit (thenK_exit (thenK_exit (blockK_hit (blockK_norm (thenK_at (Wp.text ?_))))))))))
      refine kp 112 (.int IntKind.i64 (IntKind.wrap .i64 ((↑k : Int) + 1))) ?_
      refine kp 42 (.int IntKind.i64 (IntKind.wrap .i64 ((↑k : Int) + 1))) ?_
      refine WpOps.nil (thenK_at ?_)
      refine ⟨k + 1, by omega, by omega, ?_⟩
      try dsimp only
      rw [← lstU_next f g f' g' q k]
      exact View.slots ⟨by kernel_rfl, by kernel_rfl, by kernel_rfl, by kernel_rfl, congrArg (Value.int .i64) (wr _ (by omega) (by omega)), trivial⟩
  · have hlt : decide ((k : Int) < R) = false := decide_eq_false (by omega)
    obtain rfl : k = R := by omega
    have hl0 : lstU f g f' g' C k 0 = allU f g f' g' C k := List.append_nil _
    rw [hl0]
    have hlen := lstU_len f g f' g' C k 0 hR hC (by omega)
    rw [hl0] at hlen
    generalize allU f g f' g' C k = l at hlen ⊢
    by_cases hl : l = []
    · rw [outV_nil hl, outB_nil hl]
      by_cases hi : i = i'
      · have b1 : (i != i') = false := by simpa using hi
        by_cases hj : j = j'
        · have b2 : (j != j') = false := by simpa using hj
          have e : finU l i j i' j' = [] := if_pos ⟨hl, hi, hj⟩
          rw [e]
          refine Wp.seq (Wp.text ?_)
          refine kp 43 (.bool false) ?_ (hop := fun _ => by_fact hlt)
          refine WpOps.nil (thenK_at (Wp.seq (off' (Wp.exit (thenK_exit (thenK_exit (blockK_hit (thenK_at (Wp.seq (Wp.seq (Wp.text ?_)))))))))))
          refine kp 113 (.slice none 0 0) ?_
          refine kp 114 (.int IntKind.i64 (↑0 : Int)) ?_
          refine kp 115 (.bool false) ?_
          refine kp 116 (.bool false) ?_
          refine kp 117 (.pointer (some ⟨0, 2, none⟩)) ?_
          refine kp 118 (.int IntKind.i64 i) ?_
          refine kp 119 (.pointer (some ⟨1, 2, none⟩)) ?_
          refine kp 120 (.int IntKind.i64 i') ?_
          refine kp 121 (.bool false) ?_ (hop := fun _ => by_fact b1)
          refine kp 122 (.bool false) ?_
          refine kp 123 (.bool false) ?_
          refine kp 124 (.pointer (some ⟨0, 3, none⟩)) ?_
          refine kp 125 (.int IntKind.i64 j) ?_
          refine kp 126 (.pointer (some ⟨1, 3, none⟩)) ?_
          refine kp 127 (.int IntKind.i64 j') ?_
          refine kp 128 (.bool false) ?_ (hop := fun _ => by_fact b2)
          refine kp 129 (.bool false) ?_
          refine WpOps.nil (thenK_at (off' (Wp.skip (thenK_at (Wp.seq (Wp.text ?_))))))
          refine kp 138 (.slice none 0 0) ?_
          refine kp 4 (.slice none 0 0) ?_
          refine kp 5 (.int IntKind.i64 0) ?_
          refine WpOps.nil (thenK_at (Wp.ret ?_))
          refine endK_retn [Value.slice none 0 0, Value.int IntKind.i64 0] (Value.tuple #[Value.slice none 0 0, Value.int IntKind.i64 0]) (by kernel_rfl) (by kernel_rfl) ?_
          obtain ⟨ti, ht⟩ := types26
          exact ⟨.tuple #[.slice none 0 0, .int .i64 0], by kernel_rfl, nil_up ht⟩
        · have b2 : (j != j') = true := by simpa using hj
          have e : finU l i j i' j' = [⟨0, i', j', 0, ⟨#[]⟩⟩] := by
            unfold finU
            rw [if_neg (fun h => hj h.2.2), hl]
            rfl
          rw [e]
          refine Wp.seq (Wp.text ?_)
          refine kp 43 (.bool false) ?_ (hop := fun _ => by_fact hlt)
          refine WpOps.nil (thenK_at (Wp.seq (off' (Wp.exit (thenK_exit (thenK_exit (blockK_hit (thenK_at (Wp.seq (Wp.seq (Wp.text ?_)))))))))))
          refine kp 113 (.slice none 0 0) ?_
          refine kp 114 (.int IntKind.i64 (↑0 : Int)) ?_
          refine kp 115 (.bool false) ?_
          refine kp 116 (.bool false) ?_
          refine kp 117 (.pointer (some ⟨0, 2, none⟩)) ?_
          refine kp 118 (.int IntKind.i64 i) ?_
          refine kp 119 (.pointer (some ⟨1, 2, none⟩)) ?_
          refine kp 120 (.int IntKind.i64 i') ?_
          refine kp 121 (.bool false) ?_ (hop := fun _ => by_fact b1)
          refine kp 122 (.bool false) ?_
          refine kp 123 (.bool false) ?_
          refine kp 124 (.pointer (some ⟨0, 3, none⟩)) ?_
          refine kp 125 (.int IntKind.i64 j) ?_
          refine kp 126 (.pointer (some ⟨1, 3, none⟩)) ?_
          refine kp 127 (.int IntKind.i64 j') ?_
          refine kp 128 (.bool true) ?_ (hop := fun _ => by_fact b2)
          refine kp 129 (.bool true) ?_
          refine WpOps.nil (thenK_at (on' (Wp.text ?_)))
          refine kp 130 (.slice none 0 0) ?_
          refine kp 131 (.pointer (some ⟨1, 2, none⟩)) ?_
          refine kp 132 (.int IntKind.i64 i') ?_
          refine kp 133 (.pointer (some ⟨1, 3, none⟩)) ?_
          refine kp 134 (.int IntKind.i64 j') ?_
          refine kp 135 (.agg #[Value.int .i64 0, Value.int .i64 i', Value.int .i64 j', Value.int .i64 0, Value.string (ByteArray.mk #[])]) ?_
          refine md 136 (.slice (some ⟨2, 0, none⟩) 1 1) (Blk.mk 26 true [Value.int .i64 0, Value.int .i64 i', Value.int .i64 j', Value.int .i64 0, Value.string (ByteArray.mk #[])]) ?_
          refine md 137 (.slice (some ⟨3, 0, none⟩) 1 1) (Blk.mk 26 true [Value.int .i64 0, Value.int .i64 i', Value.int .i64 j', Value.int .i64 0, Value.string (ByteArray.mk #[])]) ?_
          refine kp 6 (.slice (some ⟨3, 0, none⟩) 1 1) ?_
          refine WpOps.nil (thenK_at (Wp.seq (Wp.text ?_)))
          refine kp 138 (.slice (some ⟨3, 0, none⟩) 1 1) ?_
          refine kp 4 (.slice (some ⟨3, 0, none⟩) 1 1) ?_
          refine kp 5 (.int IntKind.i64 0) ?_
          refine WpOps.nil (thenK_at (Wp.ret ?_))
          refine endK_retn [Value.slice (some (Addr.mk 3 0 none)) 1 1, Value.int IntKind.i64 0] (Value.tuple #[Value.slice (some (Addr.mk 3 0 none)) 1 1, Value.int IntKind.i64 0]) (by kernel_rfl) (by kernel_rfl) ?_
          exact ⟨.tuple #[FS 26 1 0 (ucl [⟨0, i', j', 0, ⟨#[]⟩⟩]).toArray, .int .i64 0], by kernel_rfl, .w (.c (.inl rfl))⟩
      · have b1 : (i != i') = true := by simpa using hi
        have e : finU l i j i' j' = [⟨0, i', j', 0, ⟨#[]⟩⟩] := by
          unfold finU
          rw [if_neg (fun h => hi h.2.1), hl]
          rfl
        rw [e]
        refine Wp.seq (Wp.text ?_)
        refine kp 43 (.bool false) ?_ (hop := fun _ => by_fact hlt)
        refine WpOps.nil (thenK_at (Wp.seq (off' (Wp.exit (thenK_exit (thenK_exit (blockK_hit (thenK_at (Wp.seq (Wp.seq (Wp.text ?_)))))))))))
        refine kp 113 (.slice none 0 0) ?_
        refine kp 114 (.int IntKind.i64 (↑0 : Int)) ?_
        refine kp 115 (.bool false) ?_
        refine kp 116 (.bool false) ?_
        refine kp 117 (.pointer (some ⟨0, 2, none⟩)) ?_
        refine kp 118 (.int IntKind.i64 i) ?_
        refine kp 119 (.pointer (some ⟨1, 2, none⟩)) ?_
        refine kp 120 (.int IntKind.i64 i') ?_
        refine kp 121 (.bool true) ?_ (hop := fun _ => by_fact b1)
        refine kp 122 (.bool true) ?_
        refine kp 123 (.bool true) ?_
        refine um 124 ?_
        refine um 125 ?_
        refine um 126 ?_
        refine um 127 ?_
        refine um 128 ?_
        refine kp 129 (.bool true) ?_
        refine WpOps.nil (thenK_at (on' (Wp.text ?_)))
        refine kp 130 (.slice none 0 0) ?_
        refine kp 131 (.pointer (some ⟨1, 2, none⟩)) ?_
        refine kp 132 (.int IntKind.i64 i') ?_
        refine kp 133 (.pointer (some ⟨1, 3, none⟩)) ?_
        refine kp 134 (.int IntKind.i64 j') ?_
        refine kp 135 (.agg #[Value.int .i64 0, Value.int .i64 i', Value.int .i64 j', Value.int .i64 0, Value.string (ByteArray.mk #[])]) ?_
        refine md 136 (.slice (some ⟨2, 0, none⟩) 1 1) (Blk.mk 26 true [Value.int .i64 0, Value.int .i64 i', Value.int .i64 j', Value.int .i64 0, Value.string (ByteArray.mk #[])]) ?_
        refine md 137 (.slice (some ⟨3, 0, none⟩) 1 1) (Blk.mk 26 true [Value.int .i64 0, Value.int .i64 i', Value.int .i64 j', Value.int .i64 0, Value.string (ByteArray.mk #[])]) ?_
        refine kp 6 (.slice (some ⟨3, 0, none⟩) 1 1) ?_
        refine WpOps.nil (thenK_at (Wp.seq (Wp.text ?_)))
        refine kp 138 (.slice (some ⟨3, 0, none⟩) 1 1) ?_
        refine kp 4 (.slice (some ⟨3, 0, none⟩) 1 1) ?_
        refine kp 5 (.int IntKind.i64 0) ?_
        refine WpOps.nil (thenK_at (Wp.ret ?_))
        refine endK_retn [Value.slice (some (Addr.mk 3 0 none)) 1 1, Value.int IntKind.i64 0] (Value.tuple #[Value.slice (some (Addr.mk 3 0 none)) 1 1, Value.int IntKind.i64 0]) (by kernel_rfl) (by kernel_rfl) ?_
        exact ⟨.tuple #[FS 26 1 0 (ucl [⟨0, i', j', 0, ⟨#[]⟩⟩]).toArray, .int .i64 0], by kernel_rfl, .w (.c (.inl rfl))⟩
    · rw [outV_own hl, outB_own hl]
      have a0 : decide ((l.length : Int) > 0) = true := decide_eq_true (by have := List.length_pos_iff.2 hl; omega)
      have a1 : ¬ (l.length + 1 ≤ l.length) := by omega
      have a2 : 1 ≤ 48 ∧ (l.length + 1) * 48 ≤ 140737488355328 ∧ 5 = 5 ∧ l.length + 1 ≤ 9223372036854775807 := by omega
      have a3 := ucl_at l
      have fl := ucl_flat l
      have e : finU l i j i' j' = l ++ [⟨0, i', j', 0, ⟨#[]⟩⟩] := if_neg fun h => hl h.1
      have e3 : outF (l ++ [⟨0, i', j', 0, ⟨#[]⟩⟩]) = FS 26 (l.length + 1) 0 (ucl (l ++ [⟨0, i', j', 0, ⟨#[]⟩⟩])).toArray := by
        unfold outF
        rw [if_neg (by simp), List.length_append]
        rfl
      rw [e, e3]
      refine Wp.seq (Wp.text ?_)
      refine kp 43 (.bool false) ?_ (hop := fun _ => by_fact hlt)
      refine WpOps.nil (thenK_at (Wp.seq (off' (Wp.exit (thenK_exit (thenK_exit (blockK_hit (thenK_at (Wp.seq (Wp.seq (Wp.text ?_)))))))))))
      refine kp 113 (.slice (some ⟨2, 0, none⟩) (List.length l) (List.length l)) ?_
      refine kp 114 (.int IntKind.i64 (↑(List.length l) : Int)) ?_
      refine kp 115 (.bool true) ?_ (hop := fun _ => by_fact a0)
      refine kp 116 (.bool true) ?_
      refine um 117 ?_
      refine um 118 ?_
      refine um 119 ?_
      refine um 120 ?_
      refine um 121 ?_
      refine kp 122 (.bool true) ?_
      refine kp 123 (.bool true) ?_
      refine um 124 ?_
      refine um 125 ?_
      refine um 126 ?_
      refine um 127 ?_
      refine um 128 ?_
      refine kp 129 (.bool true) ?_
      refine WpOps.nil (thenK_at (on' (Wp.text ?_)))
      refine kp 130 (.slice (some ⟨2, 0, none⟩) (List.length l) (List.length l)) ?_
      refine kp 131 (.pointer (some ⟨1, 2, none⟩)) ?_
      refine kp 132 (.int IntKind.i64 i') ?_
      refine kp 133 (.pointer (some ⟨1, 3, none⟩)) ?_
      refine kp 134 (.int IntKind.i64 j') ?_
      refine kp 135 (.agg #[Value.int .i64 0, Value.int .i64 i', Value.int .i64 j', Value.int .i64 0, Value.string (ByteArray.mk #[])]) ?_
      refine md 136 (.slice (some ⟨3, 0, none⟩) 1 1) (Blk.mk 26 true [Value.int .i64 0, Value.int .i64 i', Value.int .i64 j', Value.int .i64 0, Value.string (ByteArray.mk #[])]) ?_
      refine ra 137 (.slice (some ⟨4, 0, none⟩) (List.length l + 1) (List.length l + 1)) (2) (Blk.mk 26 true (ucl l ++ [Value.int .i64 0, Value.int .i64 i', Value.int .i64 j', Value.int .i64 0, Value.string (ByteArray.mk #[])])) ?_ (hop := fun _ => o_append (e := 26) 2 (0) (List.length l) _ (List.length l) a1 a2 a3)
      refine kp 6 (.slice (some ⟨4, 0, none⟩) (List.length l + 1) (List.length l + 1)) ?_
      refine WpOps.nil (thenK_at (Wp.seq (Wp.text ?_)))
      refine kp 138 (.slice (some ⟨4, 0, none⟩) (List.length l + 1) (List.length l + 1)) ?_
      refine kp 4 (.slice (some ⟨4, 0, none⟩) (List.length l + 1) (List.length l + 1)) ?_
      refine kp 5 (.int IntKind.i64 0) ?_
      refine WpOps.nil (thenK_at (Wp.ret ?_))
      refine endK_retn [Value.slice (some (Addr.mk 4 0 none)) (List.length l + 1) (List.length l + 1), Value.int IntKind.i64 0] (Value.tuple #[Value.slice (some (Addr.mk 4 0 none)) (List.length l + 1) (List.length l + 1), Value.int IntKind.i64 0]) (by kernel_rfl) (by kernel_rfl) ?_
      refine ⟨_, ice_up (l ++ [⟨0, i', j', 0, ⟨#[]⟩⟩]) (ucl l ++ [.int .i64 0, .int .i64 i', .int .i64 j', .int .i64 0, .string ⟨#[]⟩]) (ucl_app l [⟨0, i', j', 0, ⟨#[]⟩⟩]).symm ?_ (by kernel_rfl), .w (.c (.inl rfl))⟩
      rw [ucl_len, List.length_append]
      rfl
end Go.Proofs.Ytlejgfeoffhjoaa.D
