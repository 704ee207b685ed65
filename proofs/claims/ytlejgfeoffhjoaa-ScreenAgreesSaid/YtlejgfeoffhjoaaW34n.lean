/- slices.Repeat; Blank of both. -/
import Derived.Test.YtlejgfeoffhjoaaFwLem
import Derived.Test.YtlejgfeoffhjoaaFwCons
import Derived.Test.YtlejgfeoffhjoaaF34i
namespace Go.Proofs.Ytlejgfeoffhjoaa.D
open Go.Fw Go.RowKit

def u64Ok (n : Nat) : Bool := IntKind.u64.wrap (n : Int) == (n : Int)
theorem u64_list : (List.range 41).all u64Ok = true := by decide +kernel
/-! ## bits.Mul of 1 -/
noncomputable def mulR (R : Nat) : Option Value := (acall E 30 70 [.int .u64 1, .int .u64 (R : Int)] Heap.none).bind fun r => iceV E r.2 r.1
theorem mul_all : (List.range 41).map mulR = (List.range 41).map fun R => some (.tuple #[.int .u64 0, .int .u64 (R : Int)]) := by kernel_rfl
theorem mul70 (R : Nat) (h : R ≤ 40) : Fun E 70 [.int .u64 1, .int .u64 R] (.tuple #[.int .u64 0, .int .u64 R]) :=
  Fun.closed 30 _ (List.map_eq_map_iff.1 mul_all R (by simpa using (show R < 41 by omega)))
theorem o_copy {cf : CallF} {s : Slots} {h : Heap} {args : Array Operand} {t u : TypeId} {bd od n cd bs os m cs : Nat} {cells cells2 new : List Value} (hm : 0 < min m n) (hev : evs s args.toList = some [.slice (some ⟨bd, od, none⟩) n cd, .slice (some ⟨bs, os, none⟩) m cs])
    (ht : (E.types t).map TI.desc = some (.slice 9)) (hb : h.get bs = some ⟨9, true, cells2⟩) (hc : cellsAt cells2 os (m * 1) = some new) (hd : h.get bd = some ⟨9, true, cells⟩) (hle : od + min m n ≤ cells.length) (hn : new.length = m) :
    aop E cf (.call { callee := .builtin .copy, args := args, argTypes := #[t, u] }) s h = some (.int .i64 (min m n : Nat), h.set bd (some ⟨9, true, setAll cells od (new.take (min m n * 1))⟩)) := by
  obtain ⟨ti, h1, h2⟩ := Option.map_eq_some_iff.1 ht
  have h3 : (E.types 9).map TI.size = some 1 := by kernel_rfl
  obtain ⟨te, h4, h5⟩ := Option.map_eq_some_iff.1 h3
  have hm0 : ¬ m = 0 := by omega
  have hmn : ¬ min m n = 0 := by omega
  have hl : (new.take (min m n * 1)).length = min m n := by rw [List.length_take]; omega
  simp only [aop, hev, abuiltin, acopy, h1, h2, h4, h5, asource, if_neg hm0, hb, hc, Option.map_some, if_neg hmn, awrite, hd, hl, hle, and_self, if_true]
theorem f44 : E.funcs 44 = some Try.f44 := by kernel_rfl
/-- So many of a string, the others empty. -/
def repC (s : ByteArray) (R k : Nat) : List Value := List.replicate k (.string s) ++ List.replicate (R - k) (.string ⟨#[]⟩)
theorem repC_len {s : ByteArray} {R k : Nat} (h : k ≤ R) : (repC s R k).length = R := by
  unfold repC
  rw [List.length_append, List.length_replicate, List.length_replicate]
  omega
theorem repC_flat (s : ByteArray) (R k : Nat) : (repC s R k).all flat = true := by
  unfold repC
  rw [List.all_append, List.all_replicate, List.all_replicate]
  simp [flat]
theorem zeros_rep : ∀ R, zeros [.string ⟨#[]⟩] R = List.replicate R (.string ⟨#[]⟩)
  | 0 => rfl
  | R + 1 => by rw [zeros, zeros_rep R]; rfl
theorem setAll_app : ∀ (xs l r : List Value), r.length = xs.length → ∀ tail, setAll (l ++ r ++ tail) l.length xs = l ++ xs ++ tail
  | [], l, r, h, tail => by
    obtain rfl := List.eq_nil_of_length_eq_zero h
    rfl
  | x :: xs, l, [], h, tail => by cases h
  | x :: xs, l, y :: r, h, tail => by
    rw [setAll]
    have e1 : (l ++ y :: r ++ tail).set l.length x = (l ++ [x]) ++ r ++ tail := by
      simp [List.set_append]
    have e2 : l.length + 1 = (l ++ [x]).length := by simp
    rw [e1, e2, setAll_app xs (l ++ [x]) r (by simpa using h) tail]
    simp
theorem repC_set {s : ByteArray} {R k n : Nat} (h : k + n ≤ R) : setAll (repC s R k) k (List.replicate n (.string s)) = repC s R (k + n) := by
  have e : repC s R k = List.replicate k (.string s) ++ List.replicate n (.string ⟨#[]⟩) ++ List.replicate (R - k - n) (.string ⟨#[]⟩) := by
    unfold repC
    rw [List.append_assoc, List.replicate_append_replicate]
    congr 2
    omega
  have hk : k = (List.replicate k (Value.string s)).length := by simp
  rw [e]
  conv => lhs; rw [show setAll (List.replicate k (.string s) ++ List.replicate n (.string ⟨#[]⟩) ++ List.replicate (R - k - n) (.string ⟨#[]⟩)) k (List.replicate n (.string s)) = setAll (List.replicate k (.string s) ++ List.replicate n (.string ⟨#[]⟩) ++ List.replicate (R - k - n) (.string ⟨#[]⟩)) (List.replicate k (Value.string s)).length (List.replicate n (.string s)) by rw [← hk]]
  rw [setAll_app _ _ _ (by simp)]
  unfold repC
  rw [List.replicate_append_replicate]
  congr 2
  omega
theorem rep_flat (s : ByteArray) (R : Nat) : (List.replicate R (Value.string s)).all flat = true := by
  rw [List.all_replicate]
  simp [flat]
theorem repC_take {s : ByteArray} {R k : Nat} (h : k ≤ R) : cellsAt (repC s R k) 0 (k * 1) = some (List.replicate k (.string s)) := by
  unfold cellsAt
  rw [repC_len h, if_pos (by omega), List.drop_zero, Nat.mul_one]
  unfold repC
  rw [List.take_left' (by simp)]
set_option maxHeartbeats 4000000 in
theorem repeat44 (s : ByteArray) (R : Nat) (h0 : 1 ≤ R) (hR : R ≤ 40) : Lent E 44 [.slice (some ⟨0, 0, none⟩) 1 1, .int .i64 R] [⟨9, true, [.string s]⟩] (.slice (some ⟨1, 0, none⟩) R R) [⟨9, true, [.string s]⟩, ⟨9, true, List.replicate R (.string s)⟩] := by
  refine Lent.of f44 rfl (of_decide_eq_true (by kernel_rfl)) rfl rfl (Nat.le_succ 1) rfl (by
    rw [List.all_cons, List.all_cons, List.all_nil, Bool.and_true, Bool.and_eq_true]
    exact ⟨rfl, by
      rw [List.all_cons, List.all_nil, Bool.and_true]
      exact flat_ok (rep_flat s R)⟩) rfl ?_
  have w0 : IntKind.u64.wrap (R : Int) = (R : Int) := by
    have := List.all_eq_true.1 u64_list R (by simpa using (show R < 41 by omega))
    simpa [u64Ok] using this
  have c0 : decide ((R : Int) < 0) = false := decide_eq_false (by omega)
  have c1 : Fun E 70 [.int .u64 1, .int .u64 (IntKind.u64.wrap (R : Int))] (.tuple #[.int .u64 0, .int .u64 R]) := by rw [w0]; exact mul70 R hR
  have c2 : decide ((R : Int) > 9223372036854775807) = false := decide_eq_false (by omega)
  have c3 : 0 ≤ IntKind.i64.wrap (R : Int) ∧ IntKind.i64.wrap (R : Int) = IntKind.i64.wrap (R : Int) ∧ ((16 : Nat) : Int) * IntKind.i64.wrap (R : Int) ≤ 281474976710656 ∧ IntKind.i64.wrap (R : Int) ≤ 9223372036854775807 := by rw [wr _ (by omega) (by omega)]; omega
  have eN : (IntKind.i64.wrap (R : Int)).toNat = R := by rw [wr _ (by omega) (by omega)]; omega
  refine Wp.seq (Wp.text ?_)
  refine kp 4 (.slice none 0 0) ?_
  refine WpOps.nil (thenK_at (Wp.seq (Wp.seq (Wp.text ?_))))
  refine kp 9 (.int IntKind.i64 (↑R : Int)) ?_
  refine kp 10 (.bool (decide ((↑R : Int) < 0))) ?_
  refine WpOps.nil (thenK_at (off' (Wp.skip (thenK_at (Wp.seq (Wp.text ?_))))))
  refine kp 13 (.slice (some ⟨0, 0, none⟩) 1 1) ?_
  refine kp 14 (.int IntKind.i64 (↑1 : Int)) ?_
  refine kp 15 (.int IntKind.u64 (IntKind.wrap .u64 (↑1 : Int))) ?_
  refine kp 16 (.int IntKind.i64 (↑R : Int)) ?_
  refine kp 17 (.int IntKind.u64 (IntKind.wrap .u64 (↑R : Int))) ?_
  refine cl 18 70 [Value.int .u64 (IntKind.wrap .u64 (↑1 : Int)), Value.int .u64 (IntKind.wrap .u64 (↑R : Int))] ?_
  refine WpCall.consume [0] (c1) (by kernel_rfl) (by kernel_rfl) ?_
  refine kp 12 (.tuple #[Value.int .u64 0, Value.int .u64 (↑R : Int)]) ?_
  refine kp 19 (.int IntKind.u64 0) ?_
  refine kp 20 (.int IntKind.u64 (↑R : Int)) ?_
  refine kp 5 (.int IntKind.u64 0) ?_
  refine kp 6 (.int IntKind.u64 (↑R : Int)) ?_
  refine WpOps.nil (thenK_at (Wp.seq (Wp.seq (Wp.text ?_))))
  refine kp 21 (.int IntKind.u64 0) ?_
  refine kp 22 (.bool false) ?_
  refine kp 23 (.bool false) ?_
  refine kp 24 (.int IntKind.u64 (↑R : Int)) ?_
  refine kp 25 (.bool false) ?_ (hop := fun _ => by_fact c2)
  refine kp 26 (.bool false) ?_
  refine WpOps.nil (thenK_at (off' (Wp.skip (thenK_at (Wp.seq (Wp.text ?_))))))
  refine kp 28 (.int IntKind.u64 (↑R : Int)) ?_
  refine kp 29 (.int IntKind.i64 (IntKind.wrap .i64 (↑R : Int))) ?_
  refine md 30 (.slice (some ⟨1, 0, none⟩) (Int.toNat (IntKind.wrap .i64 (↑R : Int))) (Int.toNat (IntKind.wrap .i64 (↑R : Int)))) (Blk.mk 9 true (zeros [Value.string (ByteArray.mk #[])] (Int.toNat (IntKind.wrap .i64 (↑R : Int))))) ?_ (hop := fun _ => o_makeSlice (e := 9) c3)
  refine kp 7 (.slice (some ⟨1, 0, none⟩) (Int.toNat (IntKind.wrap .i64 (↑R : Int))) (Int.toNat (IntKind.wrap .i64 (↑R : Int)))) ?_
  refine WpOps.nil (thenK_at (Wp.seq (Wp.text ?_)))
  refine kp 31 (.slice (some ⟨1, 0, none⟩) (Int.toNat (IntKind.wrap .i64 (↑R : Int))) (Int.toNat (IntKind.wrap .i64 (↑R : Int)))) ?_
  refine kp 32 (.slice (some ⟨0, 0, none⟩) 1 1) ?_
  simp only [eN]
  refine cg 33 (.int .i64 ((min 1 R : Nat) : Int)) _ ?_ (hop := fun _ => o_copy (bd := 1) (od := 0) (n := R) (cd := R) (bs := 0) (os := 0) (m := 1) (cs := 1) (cells := zeros [.string ⟨#[]⟩] R) (cells2 := [.string s]) (new := [.string s]) (by omega) (by kernel_rfl) (by kernel_rfl) (by kernel_rfl) (by kernel_rfl) (by kernel_rfl) (by rw [zeros_rep, List.length_replicate]; omega) rfl)
  refine kp 8 (.int IntKind.i64 (↑(min 1 R) : Int)) ?_
  refine WpOps.nil (thenK_at (Wp.seq (Wp.block ?_)))
  have m1 : min 1 R = 1 := by omega
  have hz : setAll (zeros [.string ⟨#[]⟩] R) 0 ([Value.string s].take (min 1 R * 1)) = repC s R 1 := by
    rw [m1, zeros_rep]
    have h := repC_set (s := s) (R := R) (k := 0) (n := 1) (by omega)
    exact h
  have em : (((min 1 R : Nat)) : Int) = ((1 : Nat) : Int) := by rw [m1]
  refine Wp.loop (G := Nat) (fun k => layj [(7, .slice (some ⟨1, 0, none⟩) R R), (8, .int .i64 k)]) (fun k => heapOf [⟨9, true, [.string s]⟩, ⟨9, true, repC s R k⟩]) (fun k => R - k) (fun k => 1 ≤ k ∧ k ≤ R) 1
    (View.of [0, 1] [⟨9, true, [.string s]⟩, ⟨9, true, repC s R 1⟩] _ (by decide) rfl ⟨⟨_, by kernel_rfl, CellsOk.eq rfl rfl⟩, ⟨_, by kernel_rfl, CellsOk.eq hz (repC_flat _ _ _)⟩, trivial⟩ ⟨⟨by kernel_rfl, rfl⟩, ⟨congrArg (Value.int .i64) em, rfl⟩, trivial⟩) ⟨Nat.le_refl _, h0⟩ ?_
  rintro k ⟨hk1, hk⟩
  refine Wp.seq (Wp.seq (Wp.text ?_))
  refine kp 34 (.int IntKind.i64 (↑k : Int)) ?_
  refine kp 35 (.slice (some ⟨1, 0, none⟩) R R) ?_
  refine kp 36 (.int IntKind.i64 (↑R : Int)) ?_
  refine kp 37 (.bool (decide ((↑k : Int) < (↑R : Int)))) ?_
  refine WpOps.nil (thenK_at ?_)
  refine Wp.split (decide ((↑k : Int) < (↑R : Int))) (by kernel_rfl) (fun hc => ?_) (fun hc => ?_)
  · have hlt : (k : Int) < R := of_decide_eq_true hc
    have z1 : 0 ≤ (k : Int) ∧ (k : Int) ≤ R := by omega
    refine Wp.skip (thenK_at (Wp.block ?_))
    refine Wp.region (by kernel_rfl) ?_
    refine kp 38 (.int IntKind.i64 (↑k : Int)) ?_
    refine kp 39 (.slice (some ⟨1, 0, none⟩) R R) ?_
    refine kp 40 (.int IntKind.i64 (↑k : Int)) ?_
    refine kp 41 (.slice (some (Addr.mk 1 (0 + Int.toNat (↑k : Int) * 1) none)) (R - Int.toNat (↑k : Int)) (R - Int.toNat (↑k : Int))) ?_ (hop := fun _ => o_cutS_lo (a := (↑k : Int)) (bl := 1) (off := 0) (e := 9) (size := 1) z1)
    refine kp 42 (.slice (some ⟨1, 0, none⟩) R R) ?_
    refine kp 43 (.int IntKind.i64 (↑k : Int)) ?_
    refine kp 44 (.slice (some ⟨1, 0, none⟩) (Int.toNat (↑k : Int) - 0) (R - 0)) ?_ (hop := fun _ => o_cutS_hi (n := R) (c := R) (a := (↑k : Int)) (bl := 1) (off := 0) (e := 9) (size := 1) z1)
    have ek : ((k : Int)).toNat = k := Int.toNat_natCast k
    refine cg 45 (.int .i64 ((min k (R - k) : Nat) : Int)) _ ?_ (hop := fun _ => o_copy (bd := 1) (od := k) (n := R - k) (cd := R - k) (bs := 1) (os := 0) (m := k) (cs := R) (cells := repC s R k) (cells2 := repC s R k) (new := List.replicate k (.string s)) (by omega) ?_ (by kernel_rfl) (by kernel_rfl) (repC_take hk) (by kernel_rfl) (by rw [repC_len hk]; omega) (by simp))
    · refine kp 46 (.int IntKind.i64 (IntKind.wrap .i64 ((↑k : Int) + (↑(min k (R - k)) : Int)))) ?_
      refine kp 8 (.int IntKind.i64 (IntKind.wrap .i64 ((↑k : Int) + (↑(min k (R - k)) : Int)))) ?_
      refine WpOps.nil (blockK_norm (thenK_at ?_))
      have hs : setAll (repC s R k) k ((List.replicate k (Value.string s)).take (min k (R - k) * 1)) = repC s R (k + min k (R - k)) := by
        rw [Nat.mul_one, List.take_replicate, show min (min k (R - k)) k = min k (R - k) by omega]
        exact repC_set (by omega)
      have hw : IntKind.i64.wrap ((k : Int) + ((min k (R - k) : Nat) : Int)) = ((k + min k (R - k) : Nat) : Int) := by rw [wr _ (by omega) (by omega)]; omega
      exact ⟨k + min k (R - k), by omega, ⟨by omega, by omega⟩, View.of [0, 1] [⟨9, true, [.string s]⟩, ⟨9, true, repC s R (k + min k (R - k))⟩] _ (by decide) rfl ⟨⟨_, by kernel_rfl, CellsOk.eq rfl rfl⟩, ⟨_, by kernel_rfl, CellsOk.eq hs (repC_flat _ _ _)⟩, trivial⟩ ⟨⟨by kernel_rfl, rfl⟩, ⟨congrArg (Value.int .i64) hw, rfl⟩, trivial⟩⟩
    · refine Eq.trans (b := some [.slice (some ⟨1, 0 + (k : Int).toNat * 1, none⟩) (R - (k : Int).toNat) (R - (k : Int).toNat), .slice (some ⟨1, 0, none⟩) ((k : Int).toNat - 0) (R - 0)]) (by kernel_rfl) ?_
      simp only [Int.toNat_natCast, Nat.mul_one, Nat.zero_add, Nat.sub_zero]
  · have hle : ¬ ((k : Int) < R) := of_decide_eq_false hc
    obtain rfl : k = R := by omega
    have hs : repC s k k = List.replicate k (Value.string s) := by
      unfold repC
      rw [Nat.sub_self]
      simp
    refine Wp.exit (thenK_exit (thenK_exit (blockK_hit (thenK_at (Wp.seq (Wp.text ?_))))))
    refine kp 47 (.slice (some ⟨1, 0, none⟩) k k) ?_
    refine kp 4 (.slice (some ⟨1, 0, none⟩) k k) ?_
    refine WpOps.nil (thenK_at (Wp.ret ?_))
    refine endK_retn [Value.slice (some (Addr.mk 1 0 none)) k k] (Value.slice (some (Addr.mk 1 0 none)) k k) (by kernel_rfl) (by kernel_rfl) ?_
    exact ⟨[0, 1], by decide, by kernel_rfl, ⟨⟨_, by kernel_rfl, told_eq rfl rfl⟩, ⟨_, by kernel_rfl, told_eq hs (rep_flat s k)⟩, trivial⟩, .w (.un rfl rfl)⟩
theorem mkR_rep (R C : Nat) (b : UInt8) : List.replicate R (Value.string (fillS b C)) = (mkR R C (fun _ _ => b)).map Value.string := by
  have h : mkR R C (fun _ _ => b) = List.replicate R (fillS b C) := by
    unfold mkR fillS
    simp only [List.map_const', List.length_range]
  rw [h, List.map_replicate]
theorem ice_tdv {hp : Heap} {b1 b2 n1 n2 c1 c2 : Nat} (r m : List ByteArray) (i j : Int) (hn : n1 = r.length) (hm : n2 = m.length) (h1 : hp.get b1 = some (sB r)) (h2 : hp.get b2 = some (sB m)) :
    iceV E hp (.tuple #[.agg #[.slice (some ⟨b1, 0, none⟩) n1 c1, .slice (some ⟨b2, 0, none⟩) n2 c2, .int .i64 i, .int .i64 j], .int .i64 0]) = some (.tuple #[dv 0 0 r m i j, .int .i64 0]) := by
  have h : iceW E hp (.agg #[.slice (some ⟨b1, 0, none⟩) n1 c1, .slice (some ⟨b2, 0, none⟩) n2 c2, .int .i64 i, .int .i64 j]) = some (dv 0 0 r m i j) := ice_dv r m i j hn hm h1 h2
  show (mapO (iceW E hp) [_, _]).map _ = _
  simp only [mapO, h]
  rfl
def BlankV (row col : Int) : Value := if (1 ≤ row ∧ row ≤ 40) ∧ (1 ≤ col ∧ col ≤ 80) then .tuple #[dv 0 0 (mkR row.toNat col.toNat (fun _ _ => 32)) (mkR row.toNat col.toNat (fun _ _ => 48)) 0 0, .int .i64 0] else .tuple #[dv 2 2 [] [] 0 0, .int .i64 1]
theorem f13 : E.funcs 13 = some Try.f13 := by kernel_rfl
set_option maxHeartbeats 4000000 in
theorem Blank13 (row col : Int) : Fun E 13 [.int .i64 row, .int .i64 col] (BlankV row col) := by
  refine Fun.ofN f13 rfl (of_decide_eq_true (by kernel_rfl)) (by unfold BlankV; split <;> rfl) ?_
  by_cases h1 : 1 ≤ row ∧ row ≤ 40
  · have c1 := in43T row 1 40 h1
    by_cases h2 : 1 ≤ col ∧ col ≤ 80
    · have c2 := in43T col 1 80 h2
      have e : BlankV row col = _ := if_pos ⟨h1, h2⟩
      rw [e]
      obtain ⟨R, rfl⟩ : ∃ R : Nat, row = R := ⟨row.toNat, by omega⟩
      obtain ⟨C, rfl⟩ : ∃ C : Nat, col = C := ⟨col.toNat, by omega⟩
      have c3 : Fun E 45 [.string ⟨#[32]⟩, .int .i64 C] (.string (fillS 32 C)) := fill45 32 C (by omega)
      have c4 : Fun E 45 [.string ⟨#[48]⟩, .int .i64 C] (.string (fillS 48 C)) := fill45 48 C (by omega)
      have c5 := repeat44 (fillS 32 C) R (by omega) (by omega)
      have c6 := repeat44 (fillS 48 C) R (by omega) (by omega)
      rw [mkR_rep] at c5 c6
      have fl1 := strs_flat (mkR R C (fun _ _ => 32))
      have fl2 := strs_flat (mkR R C (fun _ _ => 48))
      refine Wp.seq (Wp.text ?_)
      refine md 4 (.pointer (some ⟨0, 0, none⟩)) (Blk.mk 24 true [Value.slice none 0 0, Value.slice none 0 0, Value.int .i64 0, Value.int .i64 0]) ?_
      refine kp 5 (.int IntKind.i64 0) ?_
      refine WpOps.nil (thenK_at (Wp.seq (Wp.seq (Wp.text ?_))))
      refine kp 6 (.int IntKind.i64 (↑R : Int)) ?_
      refine fr 7 43 [Value.int .i64 (↑R : Int), Value.int .i64 1, Value.int .i64 40] ?_
      refine WpFun.of (c1) ?_
      refine kp 8 (.bool false) ?_
      refine kp 9 (.bool false) ?_
      refine kp 10 (.int IntKind.i64 (↑C : Int)) ?_
      refine fr 11 43 [Value.int .i64 (↑C : Int), Value.int .i64 1, Value.int .i64 80] ?_
      refine WpFun.of (c2) ?_
      refine kp 12 (.bool false) ?_
      refine kp 13 (.bool false) ?_
      refine WpOps.nil (thenK_at (off' (Wp.skip (thenK_at (Wp.seq (Wp.text ?_))))))
      refine kp 15 (.int IntKind.i64 (↑C : Int)) ?_
      refine fr 16 45 [Value.string (ByteArray.mk #[32]), Value.int .i64 (↑C : Int)] ?_
      refine WpFun.of (c3) ?_
      refine md 17 (.slice (some ⟨1, 0, none⟩) 1 1) (Blk.mk 9 true [Value.string (fillS 32 C)]) ?_
      refine kp 18 (.int IntKind.i64 (↑R : Int)) ?_
      refine cl 19 44 [Value.slice (some ⟨1, 0, none⟩) 1 1, Value.int .i64 (↑R : Int)] ?_
      refine WpCall.lent [1] (c5) (by decide) ⟨⟨[Value.string (fillS 32 C)], (by kernel_rfl), (by kernel_rfl), (by kernel_rfl)⟩, trivial⟩ (by kernel_rfl) (Value.slice (some (Addr.mk (List.getD [1, 2] 1 0) 0 none)) R R) ([Blk.mk 9 true [Value.string (fillS 32 C)], Blk.mk 9 true (List.map Value.string (mkR R C fun x x_1 => 32))]) (.cons (by kernel_rfl) (.cons (unB_flat (by assumption)) .nil)) (by kernel_rfl) (Heap.alloc (Heap.set (Heap.alloc (Heap.alloc Heap.none (Blk.mk 24 true [Value.slice none 0 0, Value.slice none 0 0, Value.int IntKind.i64 0, Value.int IntKind.i64 0])) (Blk.mk 9 true [Value.string (fillS 32 C)])) 1 (some (Blk.mk 9 true [Value.string (fillS 32 C)]))) (Blk.mk 9 true (List.map Value.string (mkR R C fun x x_1 => 32)))) (by kernel_rfl) ?_
      refine kp 20 (.int IntKind.i64 (↑C : Int)) ?_
      refine fr 21 45 [Value.string (ByteArray.mk #[48]), Value.int .i64 (↑C : Int)] ?_
      refine WpFun.of (c4) ?_
      refine md 22 (.slice (some ⟨3, 0, none⟩) 1 1) (Blk.mk 9 true [Value.string (fillS 48 C)]) ?_
      refine kp 23 (.int IntKind.i64 (↑R : Int)) ?_
      refine cl 24 44 [Value.slice (some ⟨3, 0, none⟩) 1 1, Value.int .i64 (↑R : Int)] ?_
      refine WpCall.lent [3] (c6) (by decide) ⟨⟨[Value.string (fillS 48 C)], (by kernel_rfl), (by kernel_rfl), (by kernel_rfl)⟩, trivial⟩ (by kernel_rfl) (Value.slice (some (Addr.mk (List.getD [3, 4] 1 0) 0 none)) R R) ([Blk.mk 9 true [Value.string (fillS 48 C)], Blk.mk 9 true (List.map Value.string (mkR R C fun x x_1 => 48))]) (.cons (by kernel_rfl) (.cons (unB_flat (by assumption)) .nil)) (by kernel_rfl) (Heap.alloc (Heap.set (Heap.alloc (Heap.alloc (Heap.set (Heap.alloc (Heap.alloc Heap.none (Blk.mk 24 true [Value.slice none 0 0, Value.slice none 0 0, Value.int IntKind.i64 0, Value.int IntKind.i64 0])) (Blk.mk 9 true [Value.string (fillS 32 C)])) 1 (some (Blk.mk 9 true [Value.string (fillS 32 C)]))) (Blk.mk 9 true (List.map Value.string (mkR R C fun x x_1 => 32)))) (Blk.mk 9 true [Value.string (fillS 48 C)])) 3 (some (Blk.mk 9 true [Value.string (fillS 48 C)]))) (Blk.mk 9 true (List.map Value.string (mkR R C fun x x_1 => 48)))) (by kernel_rfl) ?_
      refine kp 25 (.agg #[Value.slice (some (Addr.mk (List.getD [1, 2] 1 0) 0 none)) R R, Value.slice (some (Addr.mk (List.getD [3, 4] 1 0) 0 none)) R R, Value.int .i64 0, Value.int .i64 0]) ?_
      refine ld (.tuple #[]) (0) (Blk.mk 24 true [Value.slice (some (Addr.mk (List.getD [1, 2] 1 0) 0 none)) R R, Value.slice (some (Addr.mk (List.getD [3, 4] 1 0) 0 none)) R R, Value.int .i64 0, Value.int .i64 0]) ?_
      refine kp 5 (.int IntKind.i64 0) ?_
      refine WpOps.nil (thenK_at (Wp.ret ?_))
      refine endK_retn [Value.agg #[Value.slice (some (Addr.mk (List.getD [1, 2] 1 0) 0 none)) R R, Value.slice (some (Addr.mk (List.getD [3, 4] 1 0) 0 none)) R R, Value.int IntKind.i64 0, Value.int IntKind.i64 0], Value.int IntKind.i64 0] (Value.tuple #[Value.agg #[Value.slice (some (Addr.mk 2 0 none)) R R, Value.slice (some (Addr.mk 4 0 none)) R R, Value.int IntKind.i64 0, Value.int IntKind.i64 0], Value.int IntKind.i64 0]) (by kernel_rfl) (by kernel_rfl) ?_
      refine ⟨.tuple #[dv 0 0 (mkR R C (fun _ _ => 32)) (mkR R C (fun _ _ => 48)) 0 0, .int .i64 0], ?_, ?_⟩
      · exact ice_tdv (mkR R C (fun _ _ => 32)) (mkR R C (fun _ _ => 48)) 0 0 mkR_len.symm mkR_len.symm (by kernel_rfl) (by kernel_rfl)
      · simp only [Int.toNat_natCast]
        exact .w (.c (.inl rfl))
    · have c2 := in43F col 1 80 h2
      have e : BlankV row col = _ := if_neg fun h => h2 h.2
      rw [e]
      refine Wp.seq (Wp.text ?_)
      refine md 4 (.pointer (some ⟨0, 0, none⟩)) (Blk.mk 24 true [Value.slice none 0 0, Value.slice none 0 0, Value.int .i64 0, Value.int .i64 0]) ?_
      refine kp 5 (.int IntKind.i64 0) ?_
      refine WpOps.nil (thenK_at (Wp.seq (Wp.seq (Wp.text ?_))))
      refine kp 6 (.int IntKind.i64 row) ?_
      refine fr 7 43 [Value.int .i64 row, Value.int .i64 1, Value.int .i64 40] ?_
      refine WpFun.of (c1) ?_
      refine kp 8 (.bool false) ?_
      refine kp 9 (.bool false) ?_
      refine kp 10 (.int IntKind.i64 col) ?_
      refine fr 11 43 [Value.int .i64 col, Value.int .i64 1, Value.int .i64 80] ?_
      refine WpFun.of (c2) ?_
      refine kp 12 (.bool true) ?_
      refine kp 13 (.bool true) ?_
      refine WpOps.nil (thenK_at (on' (Wp.seq (Wp.text ?_))))
      refine kp 14 (.agg #[Value.slice none 0 0, Value.slice none 0 0, Value.int .i64 0, Value.int .i64 0]) ?_
      refine ld (.tuple #[]) (0) (Blk.mk 24 true [Value.slice none 0 0, Value.slice none 0 0, Value.int .i64 0, Value.int .i64 0]) ?_
      refine kp 5 (.int IntKind.i64 1) ?_
      refine WpOps.nil (thenK_at (Wp.ret (thenK_ret ?_)))
      refine endK_retn [Value.agg #[Value.slice none 0 0, Value.slice none 0 0, Value.int IntKind.i64 0, Value.int IntKind.i64 0], Value.int IntKind.i64 1] (Value.tuple #[Value.agg #[Value.slice none 0 0, Value.slice none 0 0, Value.int IntKind.i64 0, Value.int IntKind.i64 0], Value.int IntKind.i64 1]) (by kernel_rfl) (by kernel_rfl) ?_
      obtain ⟨ti, ht⟩ := types9
      exact ⟨zero_disp, by kernel_rfl, zero_nil ht⟩
  · have c1 := in43F row 1 40 h1
    have e : BlankV row col = _ := if_neg fun h => h1 h.1
    rw [e]
    refine Wp.seq (Wp.text ?_)
    refine md 4 (.pointer (some ⟨0, 0, none⟩)) (Blk.mk 24 true [Value.slice none 0 0, Value.slice none 0 0, Value.int .i64 0, Value.int .i64 0]) ?_
    refine kp 5 (.int IntKind.i64 0) ?_
    refine WpOps.nil (thenK_at (Wp.seq (Wp.seq (Wp.text ?_))))
    refine kp 6 (.int IntKind.i64 row) ?_
    refine fr 7 43 [Value.int .i64 row, Value.int .i64 1, Value.int .i64 40] ?_
    refine WpFun.of (c1) ?_
    refine kp 8 (.bool true) ?_
    refine kp 9 (.bool true) ?_
    refine um 10 ?_
    refine um 11 ?_
    refine um 12 ?_
    refine kp 13 (.bool true) ?_
    refine WpOps.nil (thenK_at (on' (Wp.seq (Wp.text ?_))))
    refine kp 14 (.agg #[Value.slice none 0 0, Value.slice none 0 0, Value.int .i64 0, Value.int .i64 0]) ?_
    refine ld (.tuple #[]) (0) (Blk.mk 24 true [Value.slice none 0 0, Value.slice none 0 0, Value.int .i64 0, Value.int .i64 0]) ?_
    refine kp 5 (.int IntKind.i64 1) ?_
    refine WpOps.nil (thenK_at (Wp.ret (thenK_ret ?_)))
    refine endK_retn [Value.agg #[Value.slice none 0 0, Value.slice none 0 0, Value.int IntKind.i64 0, Value.int IntKind.i64 0], Value.int IntKind.i64 1] (Value.tuple #[Value.agg #[Value.slice none 0 0, Value.slice none 0 0, Value.int IntKind.i64 0, Value.int IntKind.i64 0], Value.int IntKind.i64 1]) (by kernel_rfl) (by kernel_rfl) ?_
    obtain ⟨ti, ht⟩ := types9
    exact ⟨zero_disp, by kernel_rfl, zero_nil ht⟩
end Go.Proofs.Ytlejgfeoffhjoaa.D
